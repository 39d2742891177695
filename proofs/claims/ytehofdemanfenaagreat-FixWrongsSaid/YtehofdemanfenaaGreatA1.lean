/- What the code of the program comes to on plain values. -/
import GoSem.Step
import Derived.Orders
import Derived.WalkKit
import Derived.CallsIn
import Derived.Laws.CopyRow
import Derived.Great.BuildSlice
import Derived.Deep.DeepAppendWide
import Derived.RangeFuncRecord
import Derived.Laws.OwnMore
import Derived.TacticsIn
import Derived.LoopNIn
import Derived.RangeFuncLeaves
set_option linter.unusedSectionVars false
set_option linter.unusedVariables false
set_option linter.unusedSimpArgs false
namespace Go.Ab
inductive DV where
  | bool (b:Bool)
  | int (k:IntKind) (n:Int)
  | str (s:ByteArray)
  | nilp
  | ptr (id off:Nat)
  | rptr (id ver i esz off:Nat)
  | pub (cs:List DV)
  | nils
  | sl (es:List (List DV))
  | rs (id ver:Nat)
  | agg (cs:List DV)
  | tup (vs:List DV)
  | fn (f:Fn) (first caps:List DV)
  | nilfn
  | map (id:Nat)
  | nilmap
  | iface (t:TypeId) (v:DV)
  | nilif
  | iter (id:Nat)
  | yld (id:Nat)
  deriving Inhabited
inductive Tr (α:Type) where
  | leaf
  | node (l:Tr α) (v:Option α) (r:Tr α)
  deriving Inhabited
namespace Tr
variable {α:Type}
def get:Tr α→Nat→Option α
  | .leaf,_=>none
  | .node l v r,k=>bif Nat.beq k 0 then v else bif Nat.beq (k % 2) 1 then l.get (k / 2) else r.get (k / 2-1)
def setAux:Nat→Tr α→Nat→Option α→Tr α
  | 0,t,_,_=>t
  | n+1,.leaf,k,v=>bif Nat.beq k 0 then .node .leaf v .leaf else bif Nat.beq (k % 2) 1 then .node (setAux n .leaf (k / 2) v) none .leaf else .node .leaf none (setAux n .leaf (k / 2-1) v)
  | n+1,.node l x r,k,v=>bif Nat.beq k 0 then .node l v r else bif Nat.beq (k % 2) 1 then .node (setAux n l (k / 2) v) x r else .node l x (setAux n r (k / 2-1) v)
def set (t:Tr α) (k:Nat) (v:Option α):Tr α:=setAux (k+1) t k v
def mkn (l:Tr α) (v:Option α) (r:Tr α):Tr α:=match l,v,r with
  | .leaf,none,.leaf => .leaf
  | l,v,r => .node l v r
def tm (f:Nat→α→Option (Option α)):Tr α→(a b:Nat)→Option (Tr α)
  | .leaf,_,_=>some .leaf
  | .node l v r,a,b=>(tm f l (2*a) (a+b)).bind fun l=>(match v with|some x=>f b x|none=>some none:Option (Option α)).bind fun v=>(tm f r (2*a) (2*a+b)).bind fun r=>some (mkn l v r)
def filt (m:Nat):Tr α→(a b:Nat)→Tr α
  | .leaf,_,_ => .leaf
  | .node l v r,a,b=>mkn (filt m l (2*a) (a+b)) (bif Nat.testBit m b then v else none) (filt m r (2*a) (2*a+b))
def mapv {β:Type} (f:α→β):Tr α→Tr β
  | .leaf => .leaf
  | .node l v r => .node (l.mapv f) (v.map f) (r.mapv f)
def ofList (l:List (Nat×α)):Tr α:=l.foldl (fun t kv=>t.set kv.1 (some kv.2)) .leaf
end Tr
inductive Ex where
  | normal
  | exit (id:Nat)
  | ret
  | busy
  deriving Inhabited
inductive Z8 where
  | cells (t:TypeId) (cs:List DV)
  | row (t:TypeId) (es:List (List DV)) (pubd ver:Nat)
  | map (es:List (DV×DV))
  | siter (s:ByteArray) (pos:Nat)
  | loop (fid:Nat) (base:Tr DV) (params:List Nat) (assign body:Code) (bid:Nat) (done:Ex)
  deriving Inhabited
inductive TK where
  | bool|int (k:IntKind)|string
  | struct (fs:List (Nat×Nat))
  | array (len elem:Nat)
  | slice (elem:Nat)
  | map (k e:Nat)
  | ptr (e:Nat)
  | func|iface|other
  deriving Inhabited
structure TI where
  k:TK
  size:Nat
  bytes:Nat
  zero:List DV
  eqOk:Bool
  keyOk:Bool
  meths:List (String×Nat)
  deriving Inhabited
def TI.isAgg (t:TI):Bool:=match t.k with | .struct _ | .array _ _=>true|_=>false
inductive Acc where
  | slot (t:Nat) (elem:TypeId)
  | cell (t off:Nat) (elem:TypeId)
  deriving Inhabited
structure Z3I where
  bid:Nat
  keep:Nat
  accs:List Acc
  raw:Bool
  deriving Inhabited
structure FI where
  body:Code
  nt:Nat
  nres:List ResultVar
  vmask:Nat
  hints:List Z3I
  pur:Bool
  xm:List (Nat×Nat)
  rm:Nat
  can:Bool
  deriving Inhabited
structure Env where
  ty:Nat→Option TI
  fn:Nat→Option FI
def cellsOf:DV→List DV
  | .agg cs=>cs
  | v=>[v]
def Zz:DV→Bool
  | .agg _ | .tup _=>false
  | _=>true
def Zdv:Value→Option DV
  | .bool b=>some (.bool b)
  | .int k n=>some (.int k n)
  | .string s=>some (.str s)
  | .pointer none=>some .nilp
  | .slice none 0 0=>some .nils
  | .map none=>some .nilmap
  | .nilFunc=>some .nilfn
  | .nilIface=>some .nilif
  | _=>none
def ZT (ρ:Nat→Option DV):Operand→Option DV
  | .tmp t=>ρ t
  | .const v=>Zdv v
  | .func f=>some (.fn (.func f) [] [])
  | .global _=>none
def Z1j (ρ:Nat→Option DV):List Operand→Option (List DV)
  | []=>some []
  | x::xs=>(ZT ρ x).bind fun v=>(Z1j ρ xs).bind fun vs=>some (v::vs)
mutual
def Zb:DV→Bool
  | .bool _ | .int _ _ | .str _ | .nilp | .nils | .sl _ | .nilfn | .nilmap | .nilif=>true
  | .agg cs=>Za cs
  | .tup cs=>Za cs
  | .fn _ a b=>Za a&&Za b
  | .iface _ v=>Zb v
  | _=>false
def Za:List DV→Bool
  | []=>true
  | c::cs=>Zb c&&Za cs
end
mutual
def bdd (n:Nat):DV→Bool
  | .ptr i _ | .rptr i _ _ _ _ | .rs i _ | .map i | .iter i | .yld i=>Nat.blt i n
  | .agg cs=>Z1D n cs
  | .tup cs=>Z1D n cs
  | .fn _ a b=>Z1D n a&&Z1D n b
  | .iface _ v=>bdd n v
  | .pub cs=>Z1D n cs
  | _=>true
def Z1D (n:Nat):List DV→Bool
  | []=>true
  | c::cs=>bdd n c&&Z1D n cs
end
mutual
def frz (h:Nat→Option Z8):DV→Option DV
  | .rs id v=>(h id).bind fun | .row _ es _ u=>bif Nat.beq u v then some (.sl es) else none|_=>none
  | .agg cs=>(Z1o h cs).bind fun cs=>some (.agg cs)
  | .tup cs=>(Z1o h cs).bind fun cs=>some (.tup cs)
  | .iface t v=>(frz h v).bind fun v=>some (.iface t v)
  | .nils=>some (.sl [])
  | d=>bif Zb d then some d else none
def Z1o (h:Nat→Option Z8):List DV→Option (List DV)
  | []=>some []
  | c::cs=>(frz h c).bind fun c=>(Z1o h cs).bind fun cs=>some (c::cs)
end
mutual
def Ze:DV→List Nat
  | .rs id _=>[id]
  | .agg cs=>Zf cs
  | .tup cs=>Zf cs
  | .iface _ v=>Ze v
  | _=>[]
def Zf:List DV→List Nat
  | []=>[]
  | c::cs=>Ze c++Zf cs
end
def pn (p n:Nat):Nat:=match p with|0=>0|_+1=>n
def Z4v:Z8→Z8
  | .row t es _ u => .row t es 1 u
  | o=>o
def Zn (h:Nat→Option Z8):List Nat→List (Nat×Option Z8)
  | []=>[]
  | i::is=>(match h i with|some (.row t es p u)=>bif Nat.beq p 1 then [] else [(i,some (.row t es 1 u))]|_=>[])++Zn h is
def Y5:List DV→Nat→List DV→List DV
  | cs,_,[]=>cs
  | [],_,_=>[]
  | _::cs,0,v::vs=>v::Y5 cs 0 vs
  | c::cs,n+1,vs=>c::Y5 cs n vs
def Yy (ti:TI) (cs:List DV) (off:Nat):Option DV :=
  bif ti.isAgg then (bif Nat.ble (off+ti.size) cs.length then some (.agg ((cs.drop off).take ti.size)) else none) else cs[off]?
structure Out where
  val:Option DV
  upd:List (Nat×Option Z8)
def ret (v:DV):Option Out:=some ⟨some v,[]⟩
def ZfI (op:BinOp) (x y:Int):Option DV :=
  match op with
  | .eql=>some (.bool (x==y))
  | .neq=>some (.bool (x != y))
  | .lss=>some (.bool (x<y))
  | .leq=>some (.bool (x≤y))
  | .gtr=>some (.bool (x>y))
  | .geq=>some (.bool (x≥y))
  | _=>none
def Zda (op:BinOp) (k:IntKind) (x y:Int):Option DV :=
  let a:=BitVec.ofInt k.bits x
  let b:=BitVec.ofInt k.bits y
  match op with
  | .and=>some (.int k (k.wrap (a &&& b).toNat))
  | .or=>some (.int k (k.wrap (a ||| b).toNat))
  | .xor=>some (.int k (k.wrap (a ^^^ b).toNat))
  | .andNot=>some (.int k (k.wrap (a &&& ~~~b).toNat))
  | _=>none
def ZfV (op:BinOp) (k:IntKind) (x y:Int):Option DV :=
  match op with
  | .add=>some (.int k (k.wrap (x+y)))
  | .sub=>some (.int k (k.wrap (x-y)))
  | .mul=>some (.int k (k.wrap (x*y)))
  | .quo=>bif y==0 then none else some (.int k (k.wrap (x.tdiv y)))
  | .rem=>bif y==0 then none else some (.int k (x.tmod y))
  | .and | .or | .xor | .andNot=>Zda op k x y
  | .shl | .shr=>none
  | op=>ZfI op x y
def ZaM (op:BinOp) (k:IntKind) (x y:Int):Option DV :=
  bif decide (y<0) then none else
  match op with
  | .shl=>some (.int k (k.wrap (x*2 ^ (min y.toNat k.bits))))
  | .shr=>some (.int k (x.fdiv (2 ^ (min y.toNat k.bits))))
  | _=>none
def Z4U:BinOp→Bool
  | .shl | .shr=>true
  | _=>false
def Zgk (op:BinOp) (x y:ByteArray):Option DV :=
  let eq:=x.toList==y.toList
  let lt:=Op.bytesLess x.toList y.toList
  match op with
  | .add=>bif Nat.ble (x.size+y.size) 1099511627776 then some (.str (x++y)) else none
  | .eql=>some (.bool eq)
  | .neq=>some (.bool !eq)
  | .lss=>some (.bool lt)
  | .leq=>some (.bool (lt||eq))
  | .gtr=>some (.bool !(lt||eq))
  | .geq=>some (.bool !lt)
  | _=>none
def Zg:List DV→List DV→Option Bool
  | [],[]=>some true
  | .int k a::xs,.int k' b::ys=>bif k==k' then (Zg xs ys).bind fun r=>some (a==b&&r) else none
  | .bool a::xs,.bool b::ys=>(Zg xs ys).bind fun r=>some (a==b&&r)
  | .str a::xs,.str b::ys=>(Zg xs ys).bind fun r=>some (a==b&&r)
  | _,_=>none
def Z9:List DV→List DV→Bool
  | [],[]=>true
  | .int k _::zs,.int k' _::xs=>k==k'&&Z9 zs xs
  | .bool _::zs,.bool _::xs=>Z9 zs xs
  | .str _::zs,.str _::xs=>Z9 zs xs
  | _,_=>false
def Za3 (E:Env) (op:BinOp) (t:TypeId):DV→DV→Option DV
  | .int k x,.int k' y=>bif Z4U op then ZaM op k x y else bif k==k' then ZfV op k x y else none
  | .str x,.str y=>Zgk op x y
  | .bool x,.bool y=>(E.ty t).bind fun ti=>match ti.k,op with
    | .bool,.eql=>some (.bool (x==y))
    | .bool,.neq=>some (.bool (!(x==y)))
    | _,_=>none
  | .agg x,.agg y=>(E.ty t).bind fun ti=>bif ti.eqOk&&Z9 ti.zero x&&Z9 ti.zero y then (match op with
    | .eql=>(Zg x y).bind fun r=>some (.bool r)
    | .neq=>(Zg x y).bind fun r=>some (.bool !r)
    | _=>none) else none
  | .sl (_::_),.nils=>(E.ty t).bind fun ti=>match ti.k,op with
    | .slice _,.eql=>some (.bool false)
    | .slice _,.neq=>some (.bool true)
    | _,_=>none
  | _,_=>none
def unD (op:UnOp):DV→Option DV
  | .int k n=>match op with | .neg=>some (.int k (k.wrap (0-n)))|_=>none
  | .bool b=>match op with | .not=>some (.bool !b)|_=>none
  | _=>none
def Z2S (n:Nat):DV→Option Nat
  | .int _ i=>bif decide (0≤i)&&decide (i<n) then some i.toNat else none
  | _=>none
def Ym (h:Nat→Option Z8):DV→Option (List (List DV))
  | .nils=>some []
  | .sl es=>some es
  | .rs id v=>(h id).bind fun | .row _ es _ u=>bif Nat.beq u v then some es else none|_=>none
  | _=>none
def Z13 (fs:List (Nat×Nat)) (E:Env):List (Nat×DV)→List DV→Option (List DV)
  | [],cs=>some cs
  | (i,v)::ps,cs=>(fs[i]?).bind fun (ft,off)=>(E.ty ft).bind fun ti =>
      bif Nat.beq (cellsOf v).length ti.size&&Nat.ble (off+ti.size) cs.length then Z13 fs E ps (Y5 cs off (cellsOf v)) else none
def Z1w (size:Nat):List (Nat×DV)→List DV→Option (List DV)
  | [],cs=>some cs
  | (i,v)::ps,cs=>bif Nat.beq (cellsOf v).length size&&Nat.ble (i*size+size) cs.length then Z1w size ps (Y5 cs (i*size) (cellsOf v)) else none
def Z1O (ρ:Nat→Option DV):List (Nat×Operand)→Option (List (Nat×DV))
  | []=>some []
  | (i,x)::ps=>(ZT ρ x).bind fun v=>(Z1O ρ ps).bind fun vs=>some ((i,v)::vs)
def Z5i (h:Nat→Option Z8) (size:Nat):Nat→List (Nat×DV)→Option (List (List DV))
  | _,[]=>some []
  | k,(i,v)::ps=>bif Nat.beq i k&&Nat.beq (cellsOf v).length size then (Z1o h (cellsOf v)).bind fun c=>bif c.all Zz then (Z5i h size (k+1) ps).bind fun r=>some (c::r) else none else none
def Z19:DV→Nat→Option DV
  | .ptr id off,n=>some (.ptr id (off+n))
  | .rptr id v i e off,n=>some (.rptr id v i e (off+n))
  | .pub cs,n=>some (.pub (cs.drop n))
  | _,_=>none
def Z2U (ti:TI) (h:Nat→Option Z8):DV→Option DV
  | .ptr id off=>(h id).bind fun | .cells _ cs=>Yy ti cs off|_=>none
  | .rptr id v i e off=>(h id).bind fun
    | .row _ es _ u=>(es[i]?).bind fun c=>bif Nat.beq u v&&Nat.beq c.length e then Yy ti c off else none
    | _=>none
  | .pub cs=>Yy ti cs 0
  | _=>none
def Z4N (ti:TI) (h:Nat→Option Z8) (a v:DV):Option (List (Nat×Option Z8)) :=
  bif Nat.beq (cellsOf v).length ti.size&&(cellsOf v).all Zz then
    match a with
    | .ptr id off=>(h id).bind fun
      | .cells t cs=>bif Nat.ble (off+ti.size) cs.length then some [(id,some (.cells t (Y5 cs off (cellsOf v))))] else none
      | _=>none
    | .rptr id ver i e off=>(h id).bind fun
      | .row t es p u=>(es[i]?).bind fun c=>bif Nat.beq u ver&&Nat.beq c.length e&&Nat.beq p 0&&Za (cellsOf v)&&Nat.ble (off+ti.size) c.length then
          some [(id,some (.row t (es.set i (Y5 c off (cellsOf v))) p u))] else none
      | _=>none
    | _=>none
  else none
def Zbx:DV→DV→Option DV
  | .int k x,.int _ y=>some (.int k (bif decide (y<x) then y else x))
  | _,_=>none
def Zbw:DV→DV→Option DV
  | .int k x,.int _ y=>some (.int k (bif decide (y>x) then y else x))
  | _,_=>none
def Z63 (f:DV→DV→Option DV):DV→List DV→Option DV
  | x,[]=>some x
  | x,y::ys=>(f x y).bind fun z=>Z63 f z ys
def Z5y (k:TK) (h:Nat→Option Z8) (d:DV):Option DV :=
  match k,d with
  | .string,.str s=>some (.int .i64 (s.size:Nat))
  | .map _ _,.nilmap=>some (.int .i64 0)
  | .map _ _,.map id=>(h id).bind fun | .map es=>some (.int .i64 (es.length:Nat))|_=>none
  | .slice _,d=>(Ym h d).bind fun es=>some (.int .i64 (es.length:Nat))
  | .array n _,_=>some (.int .i64 (n:Nat))
  | _,_=>none
def Z3c (E:Env) (nid:Nat) (h:Nat→Option Z8) (t:TypeId) (s x:DV):Option Out :=
  (E.ty t).bind fun ti=>match ti.k with
  | .slice e=>(E.ty e).bind fun ei=>(Ym h x).bind fun xs=>bif Nat.blt 0 ei.size&&Nat.ble ei.bytes 100000000000 then (match s with
    | .nils=>(match xs with
      | []=>ret .nils
      | _::_=>bif xs.all (fun c=>Nat.beq c.length ei.size)&&Nat.ble (xs.length*(ei.bytes+1)) 200000000000000 then some ⟨some (.rs nid 0),[(nid,some (.row e xs 0 0))]⟩ else none)
    | .rs id v=>(h id).bind fun
      | .row e' es p u=>bif Nat.beq u v&&Nat.beq e' e&&xs.all (fun c=>Nat.beq c.length ei.size)&&Nat.ble ((es.length+xs.length)*(ei.bytes+1)) 200000000000000 then
          some ⟨some (.rs id (v+1)),[(id,some (.row e (es++xs) p (v+1)))]⟩ else none
      | _=>none
    | _=>none) else none
  | _=>none
def ZcR:DV→Bool
  | .int _ _ | .str _ | .bool _=>true
  | _=>false
def keyOk:DV→Bool
  | .int _ _ | .str _ | .bool _=>true
  | .agg cs=>cs.all ZcR
  | _=>false
def Yg:TI→DV→Bool:=fun ti d=>match ti.k,d with
  | .int _,.int _ _=>true
  | .string,.str _=>true
  | .bool,.bool _=>true
  | .struct _,.agg cs=>ti.eqOk&&ti.keyOk&&Z9 ti.zero cs
  | _,_=>false
def Z68:DV→DV→Option Bool
  | .int k a,.int k' b=>bif k==k' then some (a==b) else none
  | .str a,.str b=>some (a==b)
  | .bool a,.bool b=>some (a==b)
  | .agg a,.agg b=>Zg a b
  | _,_=>none
def Z2A (k:DV):List (DV×DV)→Option (Option DV)
  | []=>some none
  | (k',v)::es=>(Z68 k k').bind fun r=>bif r then some (some v) else Z2A k es
def Z4w (k v:DV):List (DV×DV)→Option (List (DV×DV))
  | []=>some [(k,v)]
  | (k',v')::es=>(Z68 k k').bind fun r=>bif r then some ((k,v)::es) else (Z4w k v es).bind fun es=>some ((k',v')::es)
def Z3i:Option DV→Nat→Nat→Option Nat
  | none,dflt,_=>some dflt
  | some (.int _ i),_,y=>bif decide (0≤i)&&decide (i≤y) then some i.toNat else none
  | _,_,_=>none
def ZcZ (s:ByteArray) (lo hi:Option DV):Option DV :=
  (Z3i hi s.size s.size).bind fun h=>(Z3i lo 0 h).bind fun l=>some (.str (s.extract l h))
def Z7s (es:List (List DV)) (lo hi:Option DV):Option DV :=
  (Z3i hi es.length es.length).bind fun h=>(Z3i lo 0 h).bind fun l=>some (.sl ((es.take h).drop l))
def Z17 (ti:TI):Option DV:=bif ti.isAgg then some (.agg ti.zero) else ti.zero.head?
def Z1J (e:Nat):Nat→List DV→List (List DV)
  | 0,_=>[]
  | n+1,cs=>cs.take e::Z1J e n (cs.drop e)
def Z1Y (ρ:Nat→Option DV):Option Operand→Option (Option DV)
  | none=>some none
  | some x=>(ZT ρ x).bind fun v=>some (some v)
def Zx (E:Env) (nid:Nat) (ρ:Nat→Option DV) (h:Nat→Option Z8) (op:Op):Option Out :=
  match op with
  | .move x=>(ZT ρ x).bind ret
  | .assign x=>(ZT ρ x).bind ret
  | .pick c a b=>(ZT ρ c).bind fun
    | .bool c=>(bif c then ZT ρ a else ZT ρ b).bind ret
    | _=>none
  | .alloc t=>(E.ty t).bind fun ti=>some ⟨some (.ptr nid 0),[(nid,some (.cells t ti.zero))]⟩
  | .box t x=>(ZT ρ x).bind fun v=>bif (cellsOf v).all Zz then some ⟨some (.ptr nid 0),[(nid,some (.cells t (cellsOf v)))]⟩ else none
  | .build t ps=>(E.ty t).bind fun ti=>(Z1O ρ ps.toList).bind fun vs=>match ti.k with
    | .struct fs=>(Z13 fs E vs ti.zero).bind fun cs=>ret (.agg cs)
    | .array _ e=>(E.ty e).bind fun ei=>(Z1w ei.size vs ti.zero).bind fun cs=>ret (.agg cs)
    | _=>none
  | .buildSlice t n ps=>(E.ty t).bind fun ti=>match ti.k with
    | .slice e=>(E.ty e).bind fun ei=>(Z1O ρ ps.toList).bind fun vs=>(Z5i h ei.size 0 vs).bind fun es =>
        bif Nat.beq es.length n&&Nat.ble (n*ei.size) 1048576&&Nat.blt 0 ei.size then some ⟨some (.rs nid 0),(nid,some (.row e es 0 0))::Zn h (Zf (vs.map (·.2)))⟩ else none
    | _=>none
  | .load t a=>(E.ty t).bind fun ti=>(ZT ρ a).bind fun a=>(Z2U ti h a).bind ret
  | .store t a x=>(E.ty t).bind fun ti=>(ZT ρ a).bind fun a=>(ZT ρ x).bind fun v=>(Z4N ti h a v).bind fun u=>some ⟨some (.tup []),u⟩
  | .nilCheck x=>(ZT ρ x).bind fun
    | .ptr i o=>ret (.ptr i o)
    | .rptr i v j e o=>ret (.rptr i v j e o)
    | .pub cs=>ret (.pub cs)
    | _=>none
  | .binOp op t x y _=>(ZT ρ x).bind fun x=>(ZT ρ y).bind fun y=>(Za3 E op t x y).bind ret
  | .unOp op _ x=>(ZT ρ x).bind fun x=>(unD op x).bind ret
  | .convert s d x=>(E.ty s).bind fun _=>(E.ty d).bind fun ti=>(ZT ρ x).bind fun x=>match ti.k,x with
    | .int k,.int _ n=>ret (.int k (k.wrap n))
    | .string,.str s=>ret (.str s)
    | _,_=>none
  | .makeFunc f a c=>(Z1j ρ a.toList).bind fun a=>(Z1j ρ c.toList).bind fun c=>ret (.fn f a c)
  | .makeMap _ none=>some ⟨some (.map nid),[(nid,some (.map []))]⟩
  | .slice t x lo hi none=>(E.ty t).bind fun ti=>(ZT ρ x).bind fun x=>(Z1Y ρ lo).bind fun lo=>(Z1Y ρ hi).bind fun hi=>match ti.k,x with
    | .string,.str s=>(ZcZ s lo hi).bind ret
    | .array n e,.ptr id off=>(E.ty e).bind fun ei=>(h id).bind fun
      | .cells _ cs=>bif Nat.ble (off+n*ei.size) cs.length&&Nat.blt 0 ei.size&&Za ((cs.drop off).take (n*ei.size)) then
          (Z7s (Z1J ei.size n (cs.drop off)) lo hi).bind fun r=>some ⟨some r,[(id,none)]⟩ else none
      | _=>none
    | .slice e,d=>(E.ty e).bind fun ei=>(Ym h d).bind fun es=>bif es.all (fun c=>Nat.beq c.length ei.size)&&Nat.blt 0 ei.size then (Z7s es lo hi).bind fun r=>some ⟨some r,Zn h (Ze d)⟩ else none
    | _,_=>none
  | .fieldAddr s x f=>(E.ty s).bind fun ti=>(ZT ρ x).bind fun x=>match ti.k with
    | .struct fs=>(fs[f]?).bind fun (ft,off)=>(E.ty ft).bind fun fi=>bif Nat.blt 0 fi.size then (Z19 x off).bind ret else none
    | _=>none
  | .field s x f=>(E.ty s).bind fun ti=>(ZT ρ x).bind fun x=>match ti.k,x with
    | .struct fs,.agg cs=>(fs[f]?).bind fun (ft,off)=>(E.ty ft).bind fun fi=>(Yy fi cs off).bind ret
    | _,_=>none
  | .indexAddr t x i=>(E.ty t).bind fun ti=>(ZT ρ x).bind fun x=>(ZT ρ i).bind fun i=>match ti.k with
    | .array len e=>(E.ty e).bind fun ei=>(Z2S len i).bind fun i=>(Z19 x (i*ei.size)).bind ret
    | .slice e=>(E.ty e).bind fun ei=>match x with
      | .sl es=>(Z2S es.length i).bind fun i=>(es[i]?).bind fun c=>bif Nat.beq c.length ei.size&&Nat.blt 0 ei.size then ret (.pub c) else none
      | .rs id v=>(h id).bind fun
        | .row _ es _ u=>(Z2S es.length i).bind fun i=>bif Nat.beq u v&&Nat.blt 0 ei.size then ret (.rptr id v i ei.size 0) else none
        | _=>none
      | _=>none
    | _=>none
  | .index t x i=>(E.ty t).bind fun ti=>(ZT ρ x).bind fun x=>(ZT ρ i).bind fun i=>match ti.k,x with
    | .array len e,.agg cs=>(E.ty e).bind fun ei=>(Z2S len i).bind fun i=>(Yy ei cs (i*ei.size)).bind ret
    | .string,.str s=>(Z2S s.size i).bind fun i=>(s[i]?).bind fun b=>ret (.int .u8 b.toNat)
    | _,_=>none
  | .lookup t m k ok=>(E.ty t).bind fun ti=>(ZT ρ m).bind fun m=>(ZT ρ k).bind fun k=>match ti.k with
    | .map kt e=>(E.ty e).bind fun ei=>(E.ty kt).bind fun ki=>bif Yg ki k&&Nat.beq ei.size 1 && !ei.isAgg then
        ((match m with | .nilmap=>some [] | .map id=>(h id).bind (fun | .map es=>some es|_=>none)|_=>none):Option (List (DV×DV))).bind fun es =>
        (Z2A k es).bind fun r=>match r,ei.zero with
          | some v,_=>ret (bif ok then .tup [v,.bool true] else v)
          | none,z::_=>ret (bif ok then .tup [z,.bool false] else z)
          | _,_=>none
      else none
    | _=>none
  | .mapUpdate t m k v=>(E.ty t).bind fun ti=>(ZT ρ m).bind fun m=>(ZT ρ k).bind fun k=>(ZT ρ v).bind fun v=>match ti.k,m with
    | .map kt _,.map id=>(E.ty kt).bind fun ki=>(h id).bind fun
      | .map es=>bif Yg ki k&&Zz v&&Zb v then (Z4w k v es).bind fun es=>some ⟨some (.tup []),[(id,some (.map es))]⟩ else none
      | _=>none
    | _,_=>none
  | .makeInterface t x=>(E.ty t).bind fun ti=>(ZT ρ x).bind fun v=>match ti.k with
    | .iface=>none
    | _=>ret (.iface t v)
  | .typeAssert x _ t ok=>(E.ty t).bind fun ti=>(ZT ρ x).bind fun x=>match ti.k,x with
    | .iface,_=>none
    | _,.nilif=>bif ok then (Z17 ti).bind fun z=>ret (.tup [z,.bool false]) else none
    | _,.iface t' v=>bif Nat.beq t' t then ret (bif ok then .tup [v,.bool true] else v) else bif ok then (Z17 ti).bind fun z=>ret (.tup [z,.bool false]) else none
    | _,_=>none
  | .makeSlice t l c=>(E.ty t).bind fun ti=>(ZT ρ l).bind fun l=>(ZT ρ c).bind fun c=>match ti.k,l,c with
    | .slice e,.int _ n,.int _ n'=>(E.ty e).bind fun ei=>bif n==n'&&decide (0≤n)&&Nat.ble (n.toNat*(ei.bytes+1)) 200000000000000&&Nat.blt 0 ei.size&&Za ei.zero then
        some ⟨some (.rs nid 0),[(nid,some (.row e (List.replicate n.toNat ei.zero) 0 0))]⟩ else none
    | _,_,_=>none
  | .range t x=>(E.ty t).bind fun ti=>(ZT ρ x).bind fun x=>match ti.k,x with
    | .string,.str s=>some ⟨some (.iter nid),[(nid,some (.siter s 0))]⟩
    | _,_=>none
  | .next it true=>(ZT ρ it).bind fun
    | .iter id=>(h id).bind fun
      | .siter s pos=>bif decide (pos<s.size) then
          some ⟨some (.tup [.bool true,.int .i64 (pos:Nat),.int .i32 (Utf8.decode s pos).1]),[(id,some (.siter s (pos+(Utf8.decode s pos).2)))]⟩
        else ret (.tup [.bool false])
      | _=>none
    | _=>none
  | .extract t i=>(ZT ρ t).bind fun
    | .tup vs=>(vs[i]?).bind ret
    | _=>none
  | .call c=>match c.callee with
    | .builtin .len=>(match c.args.toList,c.argTypes.toList with
      | [x],t::_=>(E.ty t).bind fun ti=>(ZT ρ x).bind fun x=>(Z5y ti.k h x).bind ret
      | _,_=>none)
    | .builtin .append=>(match c.args.toList,c.argTypes.toList with
      | [s,x],[t,t']=>bif Nat.beq t t' then (ZT ρ s).bind fun s=>(ZT ρ x).bind fun x=>Z3c E nid h t s x else none
      | _,_=>none)
    | .builtin .min=>(Z1j ρ c.args.toList).bind fun vs=>(match vs with|x::xs=>(Z63 Zbx x xs).bind ret|[]=>none)
    | .builtin .max=>(Z1j ρ c.args.toList).bind fun vs=>(match vs with|x::xs=>(Z63 Zbw x xs).bind ret|[]=>none)
    | _=>none
  | _=>none
def Z6L (m:String):List (String×Nat)→Option Nat
  | []=>none
  | (n,g)::l=>bif n==m then some g else Z6L m l
def target (E:Env) (ρ:Nat→Option DV) (c:Call):Option (DV×List DV) :=
  match c.callee with
  | .value f=>(ZT ρ f).bind fun
    | .fn (.func g) first caps=>(Z1j ρ c.args.toList).bind fun as=>some (.fn (.func g) [] [],first++as++caps)
    | .yld id=>(Z1j ρ c.args.toList).bind fun as=>some (.yld id,as)
    | _=>none
  | .invoke r m=>(ZT ρ r).bind fun
    | .iface t v=>(E.ty t).bind fun ti=>(Z6L m ti.meths).bind fun g=>(Z1j ρ c.args.toList).bind fun as=>some (.fn (.func g) [] [],v::as)
    | _=>none
  | _=>none
def Z5u (E:Env) (call:Nat→List DV→Option DV) (ρ:Nat→Option DV) (h:Nat→Option Z8) (c:Call):Option Out :=
  (target E ρ c).bind fun
  | (.fn (.func g) _ _,as)=>(Z1o h as).bind fun fs=>(call g fs).bind fun r=>some ⟨some r,Zn h (Zf as)⟩
  | _=>none
def Z3m (op:Op):Option Call:=match op with
  | .call c=>(match c.callee with | .value _=>some c | .invoke _ _=>some c|_=>none)
  | _=>none
def Z7c (E:Env) (call:Nat→List DV→Option DV) (nid:Nat) (ρ:Nat→Option DV) (h:Nat→Option Z8) (op:Op):Option Out :=
  match Z3m op with
  | some c=>Z5u E call ρ h c
  | none=>Zx E nid ρ h op
def Zee (E:Env):DV×List DV→Bool
  | (.fn (.func g) _ _,_)=>match E.fn g with
    | some F=>F.pur
    | none=>false
  | _=>false
def Z4b (E:Env) (call:Nat→List DV→Option DV) (nid:Nat) (ρ:Nat→Option DV) (h:Nat→Option Z8) (op:Op):Option (Option Out) :=
  match Z3m op with
  | none=>(Zx E nid ρ h op).bind fun r=>some (some r)
  | some c=>(target E ρ c).bind fun tgt=>bif Zee E tgt then (Z5u E call ρ h c).bind fun r=>some (some r) else some none
structure St where
  base:Tr DV
  objs:Tr Z8
  next:Nat
abbrev Loc:=List (Nat×Option DV)
def Loc.find (l:Loc) (t:Nat):Option (Option DV):=match l with
  | []=>none
  | (s,v)::l=>bif Nat.beq s t then some v else Loc.find l t
def ZV (V:Nat) (base:Tr DV) (loc:Loc) (t:Nat):Option DV :=
  bif Nat.testBit V t then base.get t else (match loc.find t with|some v=>v|none=>none)
def ZZ (o:Tr Z8):List (Nat×Option Z8)→Tr Z8
  | []=>o
  | (i,x)::us=>ZZ (o.set i x) us
def Z1n (ops:Array Oper) (ρ:Nat→Option DV) (o:Oper):Option Bool :=
  match o.guard with
  | none=>some true
  | some (j,want)=>match (ops[j]?).bind (·.dst) with
    | some t=>(match ρ t with|some (.bool b)=>some (b==want)|some _=>some false|none=>none)
    | none=>none
abbrev Yh:=Nat→List DV→Tr Z8→Nat→Option (DV×Tr Z8×Nat)
structure Mid where
  base:Tr DV
  loc:Loc
  objs:Tr Z8
  next:Nat
def Mid.put (V nt:Nat) (m:Mid) (dst:Option Tmp) (v:Option DV):Mid :=
  match dst with
  | none=>m
  | some d=>bif !Nat.blt d nt then m else bif Nat.testBit V d then { m with base:=m.base.set d v } else { m with loc:=(d,v)::m.loc }
structure Yv where
  dst:Option Tmp
  anc:Nat
  touch:List Nat
  out:Out
  new:Option (Nat×Nat)
mutual
def Zy:DV→List Nat
  | .ptr i _ | .rptr i _ _ _ _ | .rs i _ | .map i | .iter i | .yld i=>[i]
  | .agg cs=>ZC cs
  | .tup cs=>ZC cs
  | .fn _ a b=>ZC a++ZC b
  | .iface _ v=>Zy v
  | _=>[]
def ZC:List DV→List Nat
  | []=>[]
  | c::cs=>Zy c++ZC cs
end
def touch (ρ:Nat→Option DV) (op:Op):List Nat:=op.operands.toList.flatMap fun x=>match ZT ρ x with|some d=>Zy d|none=>[]
def Z5O (anc:Nat) (ρ:Nat→Option DV):List (Nat×Yv)→Nat→Option DV
  | [],t=>ρ t
  | (j,d)::ds,t=>bif (match d.dst with|some s=>Nat.beq s t|none=>false) then (bif Nat.testBit anc j then d.out.val else none) else Z5O anc ρ ds t
def Zp (id:Nat):List (Nat×Option Z8)→Option (Option Z8)
  | []=>none
  | (i,x)::us=>match Zp id us with
    | some y=>some y
    | none=>bif Nat.beq i id then some x else none
def Z5k (anc:Nat) (h:Nat→Option Z8):List (Nat×Yv)→Nat→Option Z8
  | [],id=>h id
  | (j,d)::ds,id=>match Zp id d.out.upd with
    | some x=>bif Nat.testBit anc j then x else none
    | none=>Z5k anc h ds id
def Z1C (ops:Array Oper) (ds:List (Nat×Yv)) (o:Oper) (k:Nat):Nat :=
  o.after.toList.foldl (fun m e=>bif Region.binds .any e&&Nat.blt e.on k then m ||| (1 <<< e.on) ||| ((ds.find? (fun d=>Nat.beq d.1 e.on)).map (·.2.anc)).getD 0 else m) 0
def YG (V nt:Nat):List (Nat×Yv)→Mid→Mid
  | [],m=>m
  | (_,d)::ds,m=>let m:=YG V nt ds m;{ m with objs:=ZZ m.objs d.out.upd }.put V nt d.dst d.out.val
mutual
def rid:DV→List Nat
  | .ptr i _ | .rptr i _ _ _ _ | .rs i _ | .map i | .iter i | .yld i=>[i]
  | .agg cs=>Z1k cs
  | .tup cs=>Z1k cs
  | .fn _ a b=>Z1k a++Z1k b
  | _=>[]
def Z1k:List DV→List Nat
  | []=>[]
  | c::cs=>rid c++Z1k cs
end
def Tr.ents {α:Type}:Tr α→(a b:Nat)→List (Nat×α)
  | .leaf,_,_=>[]
  | .node l v r,a,b=>Tr.ents l (2*a) (a+b)++((match v with|some x=>[(b,x)]|none=>[])++Tr.ents r (2*a) (2*a+b))
def ZgK:Z8→List Nat
  | .cells _ cs=>Z1k cs
  | .loop _ b _ _ _ _ _=>(b.ents 1 0).flatMap fun p=>rid p.2
  | _=>[]
def Z1a (h:Nat→Option Z8):Nat→List Nat→List Nat→List Nat
  | 0,_,acc=>acc
  | _+1,[],acc=>acc
  | n+1,i::todo,acc=>bif acc.any (Nat.beq i) then Z1a h n todo acc else match h i with
    | some o=>Z1a h n (ZgK o++todo) (i::acc)
    | none=>Z1a h n todo acc
def Z2h (h:Nat→Option Z8):List Nat→Tr Z8
  | [] => .leaf
  | i::is=>(Z2h h is).set i (h i)
def Z4m (o:Tr Z8) (R:List Nat) (nx:Nat):List (Nat×Option Z8):=(R++((o.ents 1 0).map (·.1)).filter (Nat.ble nx)).map fun i=>(i,o.get i)
def Z3j (run:Tr Z8→Option (DV×Tr Z8×Nat)) (h:Nat→Option Z8) (nx:Nat) (is R:List Nat):Option (Out×List Nat×Nat) :=
  (run (Z2h h R)).bind fun x=>bif Nat.ble nx x.2.2 then some (⟨some x.1,Z4m x.2.1 R nx⟩,is++R,x.2.2) else none
def Z5x (h:Nat→Option Z8):DV→DV
  | .rs id v=>(match h id with
    | some (.row _ es p u)=>bif Nat.beq p 1&&Nat.beq u v then .sl es else .rs id v
    | _ => .rs id v)
  | d=>d
def Z39 (h:Nat→Option Z8):DV→DV
  | .agg cs => .agg (cs.map (Z5x h))
  | d=>Z5x h d
def YL (callH callY:Yh) (h:Nat→Option Z8) (nx:Nat):DV×List DV→Option (Out×List Nat×Nat)
  | (.fn (.func g) _ _,as)=>Z3j (fun o=>callH g (as.map (Z39 h)) o nx) h nx (Zf as) (Z1a h 4096 (Z1k (as.map (Z39 h))) [])
  | (.yld id,as)=>Z3j (fun o=>callY id (as.map (Z39 h)) o nx) h nx (Zf as) (Z1a h 4096 (id::Z1k (as.map (Z39 h))) [])
  | _=>none
mutual
def rn (f:Nat→Nat):DV→DV
  | .ptr i o => .ptr (f i) o
  | .rptr i v j e o => .rptr (f i) v j e o
  | .rs i v => .rs (f i) v
  | .agg cs => .agg (rns f cs)
  | .tup cs => .tup (rns f cs)
  | .fn g a c => .fn g (rns f a) (rns f c)
  | .map i => .map (f i)
  | .iface t v => .iface t (rn f v)
  | .iter i => .iter (f i)
  | .yld i => .yld (f i)
  | .bool b => .bool b
  | .int k n => .int k n
  | .str s => .str s
  | .nilp => .nilp
  | .pub cs => .pub cs
  | .nils => .nils
  | .sl es => .sl es
  | .nilfn => .nilfn
  | .nilmap => .nilmap
  | .nilif => .nilif
def rns (f:Nat→Nat):List DV→List DV
  | []=>[]
  | c::cs=>rn f c::rns f cs
end
mutual
def okD (p:Nat→Bool):DV→Bool
  | .ptr i _ | .rptr i _ _ _ _ | .rs i _ | .map i | .iter i | .yld i=>p i
  | .agg cs=>Z1c p cs
  | .tup cs=>Z1c p cs
  | .fn _ a b=>Z1c p a&&Z1c p b
  | .iface _ v=>okD p v
  | _=>true
def Z1c (p:Nat→Bool):List DV→Bool
  | []=>true
  | c::cs=>okD p c&&Z1c p cs
end
def Tr.allV {α:Type} (p:α→Bool):Tr α→Bool
  | .leaf=>true
  | .node l v r=>l.allV p&&((match v with|some x=>p x|none=>true)&&r.allV p)
def rnO (f:Nat→Nat):Z8→Z8
  | .cells t cs => .cells t (rns f cs)
  | .loop fid b ps as bo bid ex => .loop fid (b.mapv (rn f)) ps as bo bid ex
  | .row t es p u => .row t es p u
  | .map es => .map es
  | .siter s pos => .siter s pos
def okO (p:Nat→Bool):Z8→Bool
  | .cells _ cs=>Z1c p cs
  | .loop _ b _ _ _ _ _=>b.allV (okD p)
  | _=>true
def okH (p:Nat→Bool) (h:Nat→Option Z8):List Nat→Bool
  | []=>true
  | i::is=>(match h i with|some o=>okO p o|none=>true)&&okH p h is
def Z3o (i:Nat):List Nat→Bool
  | []=>false
  | j::js=>bif Nat.beq i j then true else Z3o i js
def Z91:List Nat→Bool
  | []=>true
  | i::is => !Z3o i is&&Z91 is
def Z1F (i:Nat):List Nat→Nat
  | []=>0
  | j::js=>bif Nat.beq i j then 0 else Z1F i js+1
def Z5A (d:Nat):Nat→List Nat→Nat
  | _,[]=>d
  | 0,j::_=>j
  | n+1,_::js=>Z5A d n js
def Z29:List Nat→Nat
  | []=>0
  | _::l=>Z29 l+1
def geN (k:Nat):List Nat→List Nat
  | []=>[]
  | i::is=>bif Nat.ble k i then i::geN k is else geN k is
def upN:Nat→Nat→List Nat
  | _,0=>[]
  | i,n+1=>i::upN (i+1) n
def Z31 (f:Nat→Nat) (h:Nat→Option Z8):List Nat→Tr Z8
  | [] => .leaf
  | i::is=>(Z31 f h is).set (f i) ((h i).map (rnO f))
def Z3D (f:Nat→Nat) (h:Nat→Option Z8):List Nat→List (Nat×Option Z8)
  | []=>[]
  | i::is=>(f i,(h i).map (rnO f))::Z3D f h is
def Z27 (k:Nat) (R:List Nat) (j:Nat):Nat:=bif Nat.blt j k then j else k+Z1F j R
def Z7e (k:Nat) (x:DV×Tr Z8×Nat):Option (DV×Tr Z8×Nat) :=
  let R:=geN k (Z1a x.2.1.get 4096 (rid x.1++upN 0 k) [])
  let ok:=fun j=>Nat.blt j k||Z3o j R
  bif Z91 R&&(okD ok x.1&&okH ok x.2.1.get (upN 0 k++R)) then some (rn (Z27 k R) x.1,Z31 (Z27 k R) x.2.1.get (upN 0 k++R),k+Z29 R) else none
def Z49 (R:List Nat) (i:Nat):Nat:=Z1F i R
def ZD (k nx:Nat) (R:List Nat) (j:Nat):Nat:=bif Nat.blt j k then Z5A 0 j R else nx+(j-k)
def Z3N (E:Env) (callH:Yh):Yh:=fun g as o nx=>(E.fn g).bind fun F=>bif F.can then
    let fs:=as.map fun d=>(frz o.get d).getD d
    let o1:=ZZ o (Zn o.get (Zf as))
    let R:=Z1a o1.get 4096 (Z1k fs) []
    let k:=Z29 R
    bif Z91 R&&(Z1c (fun i=>Z3o i R) fs&&okH (fun i=>Z3o i R) o1.get R) then
      (callH g (rns (Z49 R) fs) (Z31 (Z49 R) o1.get R) k).bind fun x=>(Z7e k x).bind fun y =>
        some (rn (ZD k nx R) y.1,ZZ o1 (Z3D (ZD k nx R) y.2.1.get (upN 0 y.2.2)),nx+(y.2.2-k))
    else none
  else callH g as o nx
def Z2Q (E:Env) (call:Nat→List DV→Option DV) (callH callY:Yh) (V nt:Nat) (ops:Array Oper) (b:Nat):Nat→List Oper→Mid→Option Mid
  | _,[],m=>some m
  | k,o::os,m =>
    (Z1n ops (ZV V m.base m.loc) o).bind fun want=>bif want then
      (Z4b E call (b+k) (ZV V m.base m.loc) m.objs.get o.op).bind fun
      | some r=>Z2Q E call callH callY V nt ops b (k+1) os ({ m with objs:=ZZ m.objs r.upd }.put V nt o.dst r.val)
      | none=>(Z3m o.op).bind fun cl=>(target E (ZV V m.base m.loc) cl).bind fun tgt=>(YL callH callY m.objs.get m.next tgt).bind fun x =>
          Z2Q E call callH callY V nt ops b (k+1) os ({ m with objs:=ZZ m.objs x.1.upd,next:=x.2.2 }.put V nt o.dst x.1.val)
    else Z2Q E call callH callY V nt ops b (k+1) os (m.put V nt o.dst (some (.tup [])))
def Z12 (E:Env) (call:Nat→List DV→Option DV) (callH callY:Yh) (V nt:Nat) (ops:Array Oper) (b:Nat):Nat→List Oper→Mid→List (Nat×Yv)→Option Mid
  | _,[],m,ds=>some (YG V nt ds m)
  | k,o::os,m,ds =>
    let anc:=Z1C ops ds o k
    let ρ:=Z5O anc (ZV V m.base m.loc) ds
    let h:=Z5k anc m.objs.get ds
    bif o.after.all (fun e => !Region.binds .any e||Nat.blt e.on k)&&(match o.dst with|none=>true|some t=>Nat.blt t nt)&&ds.all (fun d=>Nat.testBit anc d.1||(match o.dst with
        | none=>true
        | some t => !((ops.getD d.1 o).looksAt ops).contains t && !(match d.2.dst with|some s=>Nat.beq s t|none=>false))) then
      (Z1n ops ρ o).bind fun want=>bif want then
        (Z4b E call (b+k) ρ h o.op).bind fun
        | some r=>bif r.upd.all (fun u=>ds.all (fun d=>Nat.testBit anc d.1 || !d.2.touch.contains u.1&&(Zp u.1 d.2.out.upd).isNone)) then
            Z12 E call callH callY V nt ops b (k+1) os m ((k,⟨o.dst,anc,touch ρ o.op,r,none⟩)::ds)
          else none
        | none=>(Z3m o.op).bind fun cl=>(target E ρ cl).bind fun tgt=>(YL callH callY h m.next tgt).bind fun x =>
            bif ds.all (fun d=>Nat.testBit anc d.1||d.2.new.isNone&&x.1.upd.all (fun u => !d.2.touch.contains u.1&&(Zp u.1 d.2.out.upd).isNone)) then
              Z12 E call callH callY V nt ops b (k+1) os { m with next:=x.2.2 } ((k,⟨o.dst,anc,x.2.1,x.1,some (m.next,x.2.2)⟩)::ds)
            else none
      else Z12 E call callH callY V nt ops b (k+1) os m ((k,⟨o.dst,anc,[],⟨some (.tup []),[]⟩,none⟩)::ds)
    else none
def Z26 (E:Env) (call:Nat→List DV→Option DV) (callH callY:Yh) (V nt:Nat) (ops:Array Oper) (draw:Bool) (s:St):Option St :=
  (bif draw then Z12 E call callH callY V nt ops s.next 0 ops.toList ⟨s.base,[],s.objs,s.next+ops.size⟩ []
   else Z2Q E call callH callY V nt ops s.next 0 ops.toList ⟨s.base,[],s.objs,s.next+ops.size⟩).bind fun m=>some ⟨m.base,m.objs,m.next⟩
def Z5q (o:Tr Z8) (b0:Tr DV):Acc→Option (Nat×Nat)
  | .slot t _=>(match b0.get t with
    | some (.rs id v)=>some (id,v)
    | _=>none)
  | .cell t off _=>(match b0.get t with
    | some (.ptr q 0)=>(match o.get q with
      | some (.cells _ cs)=>(match cs[off]? with
        | some (.rs id v)=>some (id,v)
        | _=>none)
      | _=>none)
    | _=>none)
def Z5a (id v:Nat):Nat→List (Option (Nat×Nat))→Option Nat
  | _,[]=>none
  | j,some (i,u)::l=>bif Nat.beq i id&&Nat.beq u v then some j else Z5a id v (j+1) l
  | j,none::l=>Z5a id v (j+1) l
def Z2W (id:Nat):List (Option (Nat×Nat))→Bool
  | []=>false
  | some (i,_)::l=>Nat.beq i id||Z2W id l
  | none::l=>Z2W id l
mutual
def ren (n0:Nat) (L:List (Option (Nat×Nat))):DV→Option DV
  | .rs id v=>match Z5a id v 0 L with
    | some j=>some (.rs (n0+j) 0)
    | none=>bif Nat.blt id n0 && !Z2W id L then some (.rs id v) else none
  | .agg cs=>(Z2e n0 L cs).bind fun cs=>some (.agg cs)
  | .tup cs=>(Z2e n0 L cs).bind fun cs=>some (.tup cs)
  | d=>bif bdd n0 d then some d else none
def Z2e (n0:Nat) (L:List (Option (Nat×Nat))):List DV→Option (List DV)
  | []=>some []
  | c::cs=>(ren n0 L c).bind fun c=>(Z2e n0 L cs).bind fun cs=>some (c::cs)
end
def Z3p (n0:Nat) (L:List (Option (Nat×Nat))):Z8→Option Z8
  | .cells t cs=>(Z2e n0 L cs).bind fun cs=>some (.cells t cs)
  | .loop fid b ps as bo bid ex=>(b.tm (fun _ d=>(ren n0 L d).bind fun d=>some (some d)) 1 0).bind fun b=>some (.loop fid b ps as bo bid ex)
  | o=>some o
def Zc7:List (Option (Nat×Nat))→Bool
  | []=>true
  | none::l=>Zc7 l
  | some (i,_)::l=>l.all (fun|some (k,_) => !Nat.beq k i|none=>true)&&Zc7 l
def Z1T (o:Tr Z8) (n0:Nat):Nat→List (Option (Nat×Nat))→Tr Z8→Option (Tr Z8)
  | _,[],no=>some no
  | j,none::l,no=>Z1T o n0 (j+1) l no
  | j,some (id,v)::l,no=>(match o.get id with
    | some (.row e es p u)=>bif Nat.beq u v then Z1T o n0 (j+1) l (no.set (n0+j) (some (.row e es p 0))) else none
    | _=>none)
def Yd (E:Env) (n0:Nat):Nat→List Acc→Tr DV×Tr Z8→Option (Tr DV×Tr Z8)
  | _,[],r=>some r
  | j,.slot t e::as,(b,no)=>(match b.get t with
    | some .nils=>(E.ty e).bind fun ei=>bif Nat.blt 0 ei.size&&(no.get (n0+j)).isNone then Yd E n0 (j+1) as (b.set t (some (.rs (n0+j) 0)),no.set (n0+j) (some (.row e [] 0 0))) else none
    | _=>Yd E n0 (j+1) as (b,no))
  | j,.cell t off e::as,(b,no)=>(match b.get t with
    | some (.ptr q 0)=>(match no.get q with
      | some (.cells ct cs)=>(match cs[off]? with
        | some .nils=>(E.ty e).bind fun ei=>bif Nat.blt 0 ei.size&&(no.get (n0+j)).isNone then Yd E n0 (j+1) as (b,(no.set q (some (.cells ct (cs.set off (.rs (n0+j) 0))))).set (n0+j) (some (.row e [] 0 0))) else none
        | _=>Yd E n0 (j+1) as (b,no))
      | _=>Yd E n0 (j+1) as (b,no))
    | _=>Yd E n0 (j+1) as (b,no))
mutual
def YB:DV→List (Nat×Nat)
  | .rs id v=>[(id,v)]
  | .agg cs=>Yz cs
  | .tup cs=>Yz cs
  | .fn _ a b=>Yz a++Yz b
  | .iface _ v=>YB v
  | _=>[]
def Yz:List DV→List (Nat×Nat)
  | []=>[]
  | c::cs=>YB c++Yz cs
end
def Zfg:Z8→List (Nat×Nat)
  | .cells _ cs=>Yz cs
  | .loop _ b _ _ _ _ _=>(b.ents 1 0).flatMap fun p=>YB p.2
  | _=>[]
def ZcP (o:Nat→Option Z8) (p:Nat×Nat):Bool:=match o p.1 with
  | some (.row _ _ _ u)=>Nat.beq u p.2
  | _=>false
def Z7A (ok:Nat×Nat→Bool) (A:List (Option (Nat×Nat))):List (Nat×Nat)→List (Nat×Nat)→List (Nat×Nat)
  | [],acc=>acc
  | p::ps,acc=>bif ok p && !Z2W p.1 A && !Z2W p.1 (acc.map some) then Z7A ok A ps (acc++[p]) else Z7A ok A ps acc
def Zad (o:Tr Z8) (b:Tr DV) (n0 keep:Nat) (A:List (Option (Nat×Nat))):List (Nat×Nat) :=
  Z7A (ZcP o.get) A (((o.ents 1 0).flatMap fun p=>bif Nat.blt p.1 n0 then Zfg p.2 else [])++((b.ents 1 0).flatMap fun p=>bif Nat.testBit keep p.1 then YB p.2 else [])) []
def ZbA (E:Env) (hint:Z3I) (n0:Nat) (s:St):Option St :=
  let A:=hint.accs.map (Z5q s.objs s.base)
  let X:=Zad s.objs s.base n0 hint.keep A
  let L:=X.map some++A
  bif Zc7 L then
    (s.base.tm (fun t d=>bif Nat.testBit hint.keep t then (ren n0 L d).bind fun d=>some (some d) else some none) 1 0).bind fun b =>
    (s.objs.tm (fun i x=>bif Nat.blt i n0 && !Z2W i L then (Z3p n0 L x).bind fun x=>some (some x) else some none) 1 0).bind fun o =>
    (Z1T s.objs n0 0 L o).bind fun o=>(Yd E n0 X.length (hint.accs) (b,o)).bind fun r=>some ⟨r.1,r.2,n0+X.length+hint.accs.length⟩
  else none
def Zbz (E:Env) (hint:Z3I) (n0:Nat) (s:St):Option St :=
  (ZbA E hint n0 s).bind fun s=>some (bif hint.raw then s else { s with objs:=s.objs.mapv Z4v })
def St.keep (m:Nat) (s:St):St:={ s with base:=s.base.filt m 1 0 }
def St.keepX (F:FI) (id:Nat) (s:St):St:=match F.xm.find? fun p=>Nat.beq p.1 id with
  | some p=>s.keep p.2
  | none=>s
def iter (nrm:St→Option St) (step:St→Option (Ex×St)):Nat→St→Option (Ex×St)
  | 0,_=>none
  | n+1,s=>(nrm s).bind fun s=>(step s).bind fun r=>match r.1 with
    | .normal=>iter nrm step n r.2
    | _=>some r
def Z67 (rnd:Option Nat) (h:Nat→Option Z8):Bool:=match rnd with
  | none=>true
  | some l=>(match h l with|some (.loop ..)=>true|_=>false)
def evC (E:Env) (rnd:Option Nat) (fid:Nat) (F:FI) (call:Nat→List DV→Option DV) (callH callY:Yh) (fuel:Nat):Nat→Code→St→Option (Ex×St)
  | _,.skip,s=>some (.normal,s)
  | _,.region _ ops draw,s=>(Z26 E call callH callY F.vmask F.nt ops draw s).bind fun s=>some (.normal,s)
  | bid,.seq x y,s=>(evC E rnd fid F call callH callY fuel bid x s).bind fun r=>match r.1 with
    | .normal=>evC E rnd fid F call callH callY fuel bid y r.2
    | _=>some r
  | bid,.cond c x y,s=>(match ZT s.base.get c with
    | some (.bool t)=>bif t then evC E rnd fid F call callH callY fuel bid x s else evC E rnd fid F call callH callY fuel bid y s
    | _=>none)
  | _,.block id c,s=>(evC E rnd fid F call callH callY fuel id c s).bind fun r=>match r.1 with
    | .exit i=>bif Nat.beq i id then some (.normal,r.2) else some r
    | _=>some r
  | bid,.loop c,s=>((F.hints.find? fun h=>Nat.beq h.bid bid):Option Z3I).bind fun hint =>
      iter (Zbz E hint s.next) (evC E rnd fid F call callH callY fuel bid c) fuel s
  | _,.exit id,s=>some (.exit id,s.keepX F id)
  | bid,.scope c,s=>evC E rnd fid F call callH callY fuel bid c s
  | _,.label _,s=>some (.normal,s)
  | _,.ret,s=>some (.ret,s.keep F.rm)
  | bid,.rangeFunc f ps assign body,s0=>bif Z67 rnd s0.objs.get then Option.bind (match (F.hints.find? fun h=>Nat.beq h.bid bid:Option Z3I) with
      | some hint=>(Yd E s0.next 0 hint.accs (s0.base,s0.objs)).bind fun r=>some (St.mk r.1 r.2 (s0.next+hint.accs.length))
      | none=>some s0) fun (s:St)=>(ZT s.base.get f).bind fun fv=>(match fv with
    | .fn (.func g) first caps =>
      (callH g (first++[.yld s.next]++caps) (s.objs.set s.next (some (.loop fid s.base ps.toList assign body bid .normal))) (s.next+1)).bind fun x =>
        (match x.2.1.get s.next with
        | some (.loop _ _ _ _ _ _ ex)=>(match ex with | .busy=>none|_=>some (ex,{ s with objs:=x.2.1.set s.next none,next:=x.2.2 }))
        | _=>none)
    | _=>none) else none
  | _,_,_=>none
def Z3Z (E:Env) (base:Nat→Option DV) (h:Nat→Option Z8):List ResultVar→Option (List DV)
  | []=>some []
  | .tmp t::rs=>(base t).bind fun v=>(Z3Z E base h rs).bind fun vs=>some (v::vs)
  | .cell a t::rs=>(E.ty t).bind fun ti=>(base a).bind fun a=>(Z2U ti h a).bind fun v=>(Z3Z E base h rs).bind fun vs=>some (v::vs)
def Z6f:List DV→DV
  | [v]=>v
  | vs => .tup vs
def Z1U (V:Nat):Nat→List DV→Tr DV→Tr DV
  | _,[],b=>b
  | k,v::vs,b=>Z1U V (k+1) vs (bif Nat.testBit V k then b.set k (some v) else b)
def YI (V nt:Nat):List Nat→List DV→Tr DV→Option (Tr DV)
  | [],[],b=>some b
  | p::ps,v::vs,b=>bif Nat.blt p nt then YI V nt ps vs (bif Nat.testBit V p then b.set p (some v) else b) else none
  | _,_,_=>none
def Z8M (E:Env) (call:Nat→List DV→Option DV) (callH callY:Yh) (n:Nat):Yh:=fun f args objs next =>
  (E.fn f).bind fun F=>bif Nat.ble args.length F.nt then
    (evC E none f F call callH callY n 0 F.body ⟨Z1U F.vmask 0 args .leaf,objs,next⟩).bind fun r =>
      match r.1 with
      | .exit _ | .busy=>none
      | _=>(Z3Z E r.2.base.get r.2.objs.get F.nres).bind fun vs=>some (Z6f vs,r.2.objs,r.2.next)
    else none
def evX (E:Env):Nat→Bool→Yh
  | 0,_,_,_,_,_=>none
  | n+1,false,f,args,objs,next=>Z3N E (Z8M E (fun g as=>(evX E n false g as .leaf 0).bind fun x=>frz x.2.1.get x.1) (evX E n false) (evX E n true) n) f args objs next
  | n+1,true,l,args,objs,next=>(match objs.get l with
    | some (.loop fid base ps assign body bid .normal)=>(E.fn fid).bind fun F=>(YI F.vmask F.nt ps args base).bind fun b =>
        let run:=evC E (some l) fid F (fun g as=>(evX E n false g as .leaf 0).bind fun x=>frz x.2.1.get x.1) (evX E n false) (evX E n true) n bid
        (run assign ⟨b,objs,next⟩).bind fun r=>(match r.1,r.2.objs.get l with
        | .normal,some (.loop fid2 base2 ps2 assign2 body2 bid2 .normal)=>(run body { r.2 with objs:=r.2.objs.set l (some (.loop fid2 base2 ps2 assign2 body2 bid2 .busy)) }).bind fun r=>(match r.1,r.2.objs.get l with
          | .busy,_=>none
          | ex,some (.loop fid3 base3 ps3 assign3 body3 bid3 .busy)=>some (.bool (match ex with | .normal=>true|_=>false),r.2.objs.set l (some (.loop fid3 base3 ps3 assign3 body3 bid3 ex)),r.2.next)
          | _,_=>none)
        | _,_=>none)
    | _=>none)
def evF (E:Env) (n f:Nat) (args:List DV):Option DV:=(evX E n false f args .leaf 0).bind fun x=>frz x.2.1.get x.1
end Go.Ab
namespace Go.Ab
open Go.RowKit
abbrev Gh:=Nat→Nat→Option Value
structure Bi where
  blk:Nat→Option Nat
  hdr:Nat→Nat→Option Value
mutual
def Rep (β:Bi) (G:Gh):DV→Value→Prop
  | .bool b,v=>v = .bool b
  | .int k n,v=>v = .int k n
  | .str s,v=>v = .string s
  | .nilp,v=>v = .pointer none
  | .ptr id off,v=>∃ b,β.blk id=some b∧v = .pointer (some ⟨b,off,none⟩)
  | .rptr id w i e off,v=>∃ b n c,β.hdr id w=some (.slice (some ⟨b,0,none⟩) n c)∧v = .pointer (some ⟨b,i*e+off,none⟩)
  | .pub cs,v=>Za cs=true∧∃ b o,v = .pointer (some ⟨b,o,none⟩)∧Pub β G b o cs
  | .nils,v=>v = .slice none 0 0
  | .sl es,v=>∃ a c,(v = .slice a es.length c∧es.length≤c)∧(es=[]∨∃ b o e,a=some ⟨b,o,none⟩∧Yk β G b e o es)
  | .rs id w,v=>β.hdr id w=some v∧∃ a n c,v = .slice a n c
  | .agg cs,v=>∃ vs,v = .agg vs.toArray∧Zd β G cs vs
  | .tup cs,v=>∃ vs,v = .tuple vs.toArray∧Zd β G cs vs
  | .fn f a c,v=>∃ as cs,v = .func f as.toArray cs.toArray∧Zd β G a as∧Zd β G c cs
  | .nilfn,v=>v = .nilFunc
  | .map id,v=>∃ b,β.blk id=some b∧v = .map (some b)
  | .nilmap,v=>v = .map none
  | .iface t d,v=>∃ u,v = .iface t u∧Rep β G d u
  | .nilif,v=>v = .nilIface
  | .iter id,v=>∃ b,β.blk id=some b∧v = .pointer (some ⟨b,0,none⟩)
  | .yld id,v=>∃ b,β.blk id=some b∧v = .func (.yield b) #[] #[]
def Zd (β:Bi) (G:Gh):List DV→List Value→Prop
  | [],vs=>vs=[]
  | d::ds,vs=>∃ v vs',vs=v::vs'∧Rep β G d v∧Zd β G ds vs'
def Pub (β:Bi) (G:Gh) (b o:Nat):List DV→Prop
  | []=>True
  | d::ds=>(∃ u,G b o=some u∧Rep β G d u)∧Pub β G b (o+1) ds
def Yk (β:Bi) (G:Gh) (b e o:Nat):List (List DV)→Prop
  | []=>True
  | c::cs=>c.length=e∧(Za c=true∧c.all Zz=true)∧Pub β G b o c∧Yk β G b e (o+e) cs
end
structure Ext (β:Bi) (G:Gh) (β':Bi) (G':Gh):Prop where
  g:∀ b o v,G b o=some v→G' b o=some v
  blk:∀ id b,β.blk id=some b→β'.blk id=some b
  hdr:∀ id u v,β.hdr id u=some v→β'.hdr id u=some v
theorem Ext.refl (β:Bi) (G:Gh):Ext β G β G:=⟨fun _ _ _ h=>h,fun _ _ h=>h,fun _ _ _ h=>h⟩
theorem Ext.trans {β β' β'':Bi} {G G' G'':Gh} (h:Ext β G β' G') (k:Ext β' G' β'' G''):Ext β G β'' G'' :=
  ⟨fun b o v x=>k.g b o v (h.g b o v x),fun id b x=>k.blk id b (h.blk id b x),fun id u v x=>k.hdr id u v (h.hdr id u v x)⟩
section mono
variable {β β':Bi} {G G':Gh}
mutual
theorem Rep.mono (hx:Ext β G β' G'):∀ (d:DV) (v:Value),Rep β G d v→Rep β' G' d v
  | .bool _,_,h=>by unfold Rep at h ⊢;exact h
  | .int _ _,_,h=>by unfold Rep at h ⊢;exact h
  | .str _,_,h=>by unfold Rep at h ⊢;exact h
  | .nilp,_,h=>by unfold Rep at h ⊢;exact h
  | .ptr _ _,_,h=>by unfold Rep at h ⊢;obtain ⟨b,h1,h2⟩:=h;exact ⟨b,hx.blk _ _ h1,h2⟩
  | .rptr _ _ _ _ _,_,h=>by unfold Rep at h ⊢;obtain ⟨b,n,c,h1,h2⟩:=h;exact ⟨b,n,c,hx.hdr _ _ _ h1,h2⟩
  | .pub cs,_,h=>by unfold Rep at h ⊢;obtain ⟨h0,b,o,h1,h2⟩:=h;exact ⟨h0,b,o,h1,Pub.mono hx cs b o h2⟩
  | .nils,_,h=>by unfold Rep at h ⊢;exact h
  | .sl es,_,h=>by
    unfold Rep at h ⊢
    obtain ⟨a,c,h1,h2⟩:=h
    refine ⟨a,c,h1,?_⟩
    rcases h2 with h2|⟨b,o,e,h2,h3⟩
    · exact .inl h2
    · exact .inr ⟨b,o,e,h2,Yk.mono hx es b e o h3⟩
  | .rs _ _,_,h=>by unfold Rep at h ⊢;exact ⟨hx.hdr _ _ _ h.1,h.2⟩
  | .agg cs,_,h=>by unfold Rep at h ⊢;obtain ⟨vs,h1,h2⟩:=h;exact ⟨vs,h1,Zd.mono hx cs vs h2⟩
  | .tup cs,_,h=>by unfold Rep at h ⊢;obtain ⟨vs,h1,h2⟩:=h;exact ⟨vs,h1,Zd.mono hx cs vs h2⟩
  | .fn _ a c,_,h=>by unfold Rep at h ⊢;obtain ⟨as,cs,h1,h2,h3⟩:=h;exact ⟨as,cs,h1,Zd.mono hx a as h2,Zd.mono hx c cs h3⟩
  | .nilfn,_,h=>by unfold Rep at h ⊢;exact h
  | .map _,_,h=>by unfold Rep at h ⊢;obtain ⟨b,h1,h2⟩:=h;exact ⟨b,hx.blk _ _ h1,h2⟩
  | .nilmap,_,h=>by unfold Rep at h ⊢;exact h
  | .iface _ d,_,h=>by unfold Rep at h ⊢;obtain ⟨u,h1,h2⟩:=h;exact ⟨u,h1,Rep.mono hx d u h2⟩
  | .nilif,_,h=>by unfold Rep at h ⊢;exact h
  | .iter _,_,h=>by unfold Rep at h ⊢;obtain ⟨b,h1,h2⟩:=h;exact ⟨b,hx.blk _ _ h1,h2⟩
  | .yld _,_,h=>by unfold Rep at h ⊢;obtain ⟨b,h1,h2⟩:=h;exact ⟨b,hx.blk _ _ h1,h2⟩
theorem Zd.mono (hx:Ext β G β' G'):∀ (ds:List DV) (vs:List Value),Zd β G ds vs→Zd β' G' ds vs
  | [],_,h=>by unfold Zd at h ⊢;exact h
  | d::ds,_,h=>by unfold Zd at h ⊢;obtain ⟨v,vs',h1,h2,h3⟩:=h;exact ⟨v,vs',h1,Rep.mono hx d v h2,Zd.mono hx ds vs' h3⟩
theorem Pub.mono (hx:Ext β G β' G'):∀ (ds:List DV) (b o:Nat),Pub β G b o ds→Pub β' G' b o ds
  | [],_,_,_=>by unfold Pub;trivial
  | d::ds,b,o,h=>by unfold Pub at h ⊢;obtain ⟨⟨u,h1,h2⟩,h3⟩:=h;exact ⟨⟨u,hx.g _ _ _ h1,Rep.mono hx d u h2⟩,Pub.mono hx ds b (o+1) h3⟩
theorem Yk.mono (hx:Ext β G β' G'):∀ (es:List (List DV)) (b e o:Nat),Yk β G b e o es→Yk β' G' b e o es
  | [],_,_,_,_=>by unfold Yk;trivial
  | c::cs,b,e,o,h=>by unfold Yk at h ⊢;obtain ⟨h1,h2,h3,h4⟩:=h;exact ⟨h1,h2,Pub.mono hx c b o h3,Yk.mono hx cs b e (o+e) h4⟩
end
end mono
section free
variable {β β':Bi} {G:Gh}
mutual
theorem Rep.free:∀ (d:DV) (v:Value),Zb d=true→Rep β G d v→Rep β' G d v
  | .bool _,_,_,h=>by unfold Rep at h ⊢;exact h
  | .int _ _,_,_,h=>by unfold Rep at h ⊢;exact h
  | .str _,_,_,h=>by unfold Rep at h ⊢;exact h
  | .nilp,_,_,h=>by unfold Rep at h ⊢;exact h
  | .ptr _ _,_,hf,_=>by simp [Zb] at hf
  | .rptr _ _ _ _ _,_,hf,_=>by simp [Zb] at hf
  | .pub _,_,hf,_=>by simp [Zb] at hf
  | .nils,_,_,h=>by unfold Rep at h ⊢;exact h
  | .sl es,_,_,h=>by
    unfold Rep at h ⊢
    obtain ⟨a,c,h1,h2⟩:=h
    refine ⟨a,c,h1,?_⟩
    rcases h2 with h2|⟨b,o,e,h2,h3⟩
    · exact .inl h2
    · exact .inr ⟨b,o,e,h2,Yk.free es b e o h3⟩
  | .rs _ _,_,hf,_=>by simp [Zb] at hf
  | .agg cs,_,hf,h=>by unfold Rep at h ⊢;obtain ⟨vs,h1,h2⟩:=h;exact ⟨vs,h1,Zd.free cs vs (by simpa [Zb] using hf) h2⟩
  | .tup cs,_,hf,h=>by unfold Rep at h ⊢;obtain ⟨vs,h1,h2⟩:=h;exact ⟨vs,h1,Zd.free cs vs (by simpa [Zb] using hf) h2⟩
  | .fn _ a c,_,hf,h=>by
    unfold Rep at h ⊢
    obtain ⟨as,cs,h1,h2,h3⟩:=h
    have hf':Za a=true∧Za c=true:=by simpa [Zb] using hf
    exact ⟨as,cs,h1,Zd.free a as hf'.1 h2,Zd.free c cs hf'.2 h3⟩
  | .nilfn,_,_,h=>by unfold Rep at h ⊢;exact h
  | .map _,_,hf,_=>by simp [Zb] at hf
  | .nilmap,_,_,h=>by unfold Rep at h ⊢;exact h
  | .iface _ d,_,hf,h=>by unfold Rep at h ⊢;obtain ⟨u,h1,h2⟩:=h;exact ⟨u,h1,Rep.free d u (by simpa [Zb] using hf) h2⟩
  | .nilif,_,_,h=>by unfold Rep at h ⊢;exact h
  | .iter _,_,hf,_=>by simp [Zb] at hf
  | .yld _,_,hf,_=>by simp [Zb] at hf
theorem Zd.free:∀ (ds:List DV) (vs:List Value),Za ds=true→Zd β G ds vs→Zd β' G ds vs
  | [],_,_,h=>by unfold Zd at h ⊢;exact h
  | d::ds,_,hf,h=>by
    unfold Zd at h ⊢
    have hf':Zb d=true∧Za ds=true:=by simpa [Za] using hf
    obtain ⟨v,vs',h1,h2,h3⟩:=h
    exact ⟨v,vs',h1,Rep.free d v hf'.1 h2,Zd.free ds vs' hf'.2 h3⟩
theorem Pub.free:∀ (ds:List DV) (b o:Nat),Za ds=true→Pub β G b o ds→Pub β' G b o ds
  | [],_,_,_,_=>by unfold Pub;trivial
  | d::ds,b,o,hf,h=>by
    unfold Pub at h ⊢
    have hf':Zb d=true∧Za ds=true:=by simpa [Za] using hf
    obtain ⟨⟨u,h1,h2⟩,h3⟩:=h
    exact ⟨⟨u,h1,Rep.free d u hf'.1 h2⟩,Pub.free ds b (o+1) hf'.2 h3⟩
theorem Yk.free:∀ (es:List (List DV)) (b e o:Nat),Yk β G b e o es→Yk β' G b e o es
  | [],_,_,_,_=>by unfold Yk;trivial
  | c::cs,b,e,o,h=>by unfold Yk at h ⊢;obtain ⟨h1,h2,h3,h4⟩:=h;exact ⟨h1,h2,Pub.free c b o h2.1 h3,Yk.free cs b e (o+e) h4⟩
end
end free
section lists
variable {β:Bi} {G:Gh}
theorem Zo {vs:List Value}:Zd β G [] vs↔vs=[]:=by unfold Zd;exact Iff.rfl
theorem Zc {d:DV} {ds:List DV} {vs:List Value}:Zd β G (d::ds) vs↔∃ v vs',vs=v::vs'∧Rep β G d v∧Zd β G ds vs':=by
  conv=>lhs;unfold Zd
theorem ZF:∀ {ds:List DV} {vs:List Value},Zd β G ds vs→vs.length=ds.length
  | [],_,h=>by rw [Zo] at h;simp [h]
  | d::ds,_,h=>by
    obtain ⟨v,vs',rfl,_,h⟩:=Zc.1 h
    simp [ZF h]
theorem Z3A:∀ {ds:List DV} {vs:List Value},Zd β G ds vs→∀ {i:Nat} {d:DV},ds[i]? = some d→∃ v,vs[i]? = some v∧Rep β G d v
  | [],_,_,i,d,hi=>by simp at hi
  | x::ds,_,h,i,d,hi=>by
    obtain ⟨v,vs',rfl,h1,h⟩:=Zc.1 h
    cases i with
    | zero=>simp at hi;subst hi;exact ⟨v,rfl,h1⟩
    | succ i=>simpa using Z3A h (i:=i) (d:=d) (by simpa using hi)
theorem ZY:∀ {ds es:List DV} {vs:List Value},Zd β G (ds++es) vs↔∃ as bs,vs=as++bs∧Zd β G ds as∧Zd β G es bs
  | [],es,vs=>by
    constructor
    · intro h;exact ⟨[],vs,rfl,Zo.2 rfl,h⟩
    · rintro ⟨as,bs,rfl,h1,h2⟩;rw [Zo] at h1;subst h1;exact h2
  | d::ds,es,vs=>by
    constructor
    · intro h
      obtain ⟨v,vs',rfl,h1,h2⟩:=Zc.1 h
      obtain ⟨as,bs,rfl,h3,h4⟩:=ZY.1 h2
      exact ⟨v::as,bs,rfl,Zc.2 ⟨v,as,rfl,h1,h3⟩,h4⟩
    · rintro ⟨as,bs,rfl,h1,h2⟩
      obtain ⟨v,as',rfl,h3,h4⟩:=Zc.1 h1
      exact Zc.2 ⟨v,as'++bs,rfl,h3,ZY.2 ⟨as',bs,rfl,h4,h2⟩⟩
theorem Ys:∀ {ds:List DV} {vs:List Value} (n:Nat),Zd β G ds vs→Zd β G (ds.drop n) (vs.drop n)
  | [],_,n,h=>by rw [Zo] at h;subst h;simp [Zo]
  | d::ds,_,0,h=>by simpa using h
  | d::ds,_,n+1,h=>by
    obtain ⟨v,vs',rfl,h1,h2⟩:=Zc.1 h
    simpa using Ys n h2
theorem Yt:∀ {ds:List DV} {vs:List Value} (n:Nat),Zd β G ds vs→Zd β G (ds.take n) (vs.take n)
  | [],_,n,h=>by rw [Zo] at h;subst h;simp [Zo]
  | d::ds,_,0,h=>by simp [Zo]
  | d::ds,_,n+1,h=>by
    obtain ⟨v,vs',rfl,h1,h2⟩:=Zc.1 h
    simpa using Zc.2 ⟨v,_,rfl,h1,Yt n h2⟩
theorem Zfk {d:DV} {v:Value} (hc:Zz d=true) (h:Rep β G d v):v.oneCell'=true:=by
  cases d<;>simp [Zz] at hc<;>unfold Rep at h
  all_goals first
    | (subst h;rfl)
    | (obtain ⟨b,_,rfl⟩:=h;rfl)
    | (obtain ⟨b,n,c,_,rfl⟩:=h;rfl)
    | (obtain ⟨_,b,o,rfl,_⟩:=h;rfl)
    | (obtain ⟨a,c,⟨rfl,_⟩,_⟩:=h;rfl)
    | (obtain ⟨_,a,n,c,rfl⟩:=h;rfl)
    | (obtain ⟨_,_,rfl,_,_⟩:=h;rfl)
    | (obtain ⟨_,rfl,_⟩:=h;rfl)
theorem Z3B {d:DV} {v:Value} (h:Rep β G d v):Zd β G (cellsOf d) v.cells.toList:=by
  have single:∀ {d:DV} {v:Value},Rep β G d v→v.cells = #[v]→Zd β G [d] v.cells.toList:=fun h e=>by
    rw [e];exact Zc.2 ⟨_,[],rfl,h,Zo.2 rfl⟩
  cases d with
  | agg cs=>unfold Rep at h;obtain ⟨vs,rfl,h⟩:=h;simpa [cellsOf,Value.cells] using h
  | _ =>
    refine single h ?_
    unfold Rep at h
    first
    | (subst h;rfl)
    | (obtain ⟨b,_,rfl⟩:=h;rfl)
    | (obtain ⟨b,n,c,_,rfl⟩:=h;rfl)
    | (obtain ⟨_,b,o,rfl,_⟩:=h;rfl)
    | (obtain ⟨a,c,⟨rfl,_⟩,_⟩:=h;rfl)
    | (obtain ⟨_,a,n,c,rfl⟩:=h;rfl)
    | (obtain ⟨_,_,rfl,_,_⟩:=h;rfl)
    | (obtain ⟨_,rfl,_⟩:=h;rfl)
theorem Z5J:∀ {ds:List DV} {vs:List Value},ds.all Zz=true→Zd β G ds vs→∀ v∈vs,v.oneCell'=true
  | [],_,_,h,v,hv=>by rw [Zo] at h;subst h;cases hv
  | d::ds,_,hc,h,v,hv=>by
    obtain ⟨u,vs',rfl,h1,h2⟩:=Zc.1 h
    simp only [List.all_cons,Bool.and_eq_true] at hc
    cases hv with
    | head=>exact Zfk hc.1 h1
    | tail _ hv=>exact Z5J hc.2 h2 v hv
end lists
end Go.Ab
namespace Go.Ab
open Go.RowKit
structure ZN (P:Program) (t:TypeId) (ti:TI):Prop where
  info:∃ i z,P.info? t=some i∧i.size=ti.size∧i.bytes=ti.bytes∧i.zero=some z∧z.cells.size=ti.size∧∀ β G,Zd β G ti.zero z.cells.toList
  zc:ti.zero.all Zz=true
  eqr:ti.eqOk=true→(∀ (xs ys:List DV) (r:Bool),Zg xs ys=some r→Z9 ti.zero xs=true→Z9 ti.zero ys=true→∀ (β:Bi) (G:Gh) (vx vy:List Value) (w:World),Zd β G xs vx→Zd β G ys vy →
    (Op.equal t (.agg vx.toArray) (.agg vy.toArray)).run P w = .ok r w)∧P.eqGuardType P.depth t=false
  zf:Za ti.zero=true
  zr:ti.isAgg=false→∀ d,ti.zero=[d]→∀ i z,P.info? t=some i→i.zero=some z→∀ β G,Rep β G d z
  zn:ti.isAgg=false→ti.zero.length=1
  za:ti.isAgg=true→∀ i z,P.info? t=some i→i.zero=some z→∃ cs,z = .agg cs
  meth:∀ m g,Z6L m ti.meths=some g→∀ (v:Value) (args:Array Value) (w:World),(callMethod (.iface t v) m args).run P w=(callFunc g (#[v]++args)).run P w
  key:ti.keyOk=true→∀ (xs:List DV),Z9 ti.zero xs=true→∀ (b:Bool) (β:Bi) (G:Gh) (vx:List Value) (w:World),Zd β G xs vx→(Instr.checkKey b 10000 t (.agg vx.toArray)).run P w = .ok () w
  desc:match ti.k with
    | .bool=>P.underlying t=some .bool
    | .int k=>P.underlying t=some (.int k)
    | .string=>P.underlying t=some .string
    | .struct fs=>∃ fields,P.underlying t=some (.struct fields)∧fields.toList.map (fun f=>(f.type,f.offset))=fs ∧
        ∃ places,fields.toList.mapM (fun f=>(P.info? f.type).map fun i=>(f.offset,i.size))=some places
    | .array n e=>P.underlying t=some (.array n e)
    | .slice e=>P.underlying t=some (.slice e)
    | .map k e=>P.underlying t=some (.map k e)
    | .ptr e=>P.underlying t=some (.pointer e)
    | .func=>∃ a b c,P.underlying t=some (.func a b c)
    | .iface=>∃ ms,P.underlying t=some (.interface ms)
    | .other=>False
def YJ (E:Env) (t:TypeId):Nat:=match E.ty t with|some ti=>ti.size|none=>0
def Yl (β:Bi) (id:Nat) (o:Z8) (b:Nat):Prop :=
  match o with
  | .row _ _ _ u=>∃ n c,β.hdr id u=some (.slice (some ⟨b,0,none⟩) n c)
  | _=>β.blk id=some b
def Z6y (β:Bi) (G:Gh):List (DV×DV)→List MapEntry→Prop
  | [],ms=>ms=[]
  | (k,v)::es,ms=>∃ m ms',ms=m::ms'∧Rep β G k m.key∧Rep β G v m.val∧keyOk k=true∧Zb v=true∧Z6y β G es ms'
def YF:Ex→Option Code
  | .normal | .busy=>none
  | .exit id=>some (.exit id)
  | .ret=>some .ret
def FrM (β:Bi) (G:Gh) (ρ:Nat→Option DV) (tmps:Array Value):Prop:=∀ t d,ρ t=some d→∃ v,tmps[t]? = some v∧Rep β G d v
theorem Z8B (p n:Nat):pn p n≤n:=by unfold pn;split<;>omega
theorem Zgc (p:Nat) {n m:Nat} (h:n≤m):pn p n≤pn p m:=by unfold pn;split<;>omega
def Z2m (E:Env) (base:Nat) (w:World) (β:Bi) (G:Gh) (id:Nat):Z8→Prop
  | .cells t cs=>∃ b vs,β.blk id=some b∧w.heap[b]? = some (.cells vs t (0,0))∧Zd β G cs vs.toList∧cs.all Zz=true∧∀ o,G b o=none
  | .row t es p u=>∃ hdr vals,β.hdr id u=some hdr∧w.ownsRow base t (YJ E t) hdr es.length vals∧Zd β G es.flatten vals ∧
      (∀ c∈es,c.length=YJ E t∧Za c=true∧c.all Zz=true)∧(0<YJ E t∧pn p es.length≤es.length) ∧
      (∀ b,hdr.ownBlock=some b→∀ o,pn p es.length*YJ E t≤o→G b o=none)∧∀ u',u<u'→β.hdr id u'=none
  | .map es=>∃ b ms clock,β.blk id=some b∧w.heap[b]? = some (.map ms clock)∧Z6y β G es ms.toList
  | .siter s pos=>∃ b,β.blk id=some b∧w.heap[b]? = some (.stringIter s pos)
  | .loop fid bs ps assign body _ ex=>∃ b tmps df fn F,β.blk id=some b ∧
      w.heap[b]? = some (.loop { state:=(match ex with | .normal => .ready | .busy => .busy|_ => .done),pending:=YF ex,fn:=fn,tmps:=tmps,params:=ps.toArray,assign:=assign,body:=body,defers:=df }) ∧
      FrM β G bs.get tmps∧E.fn fid=some F∧tmps.size=F.nt∧∀ t d,bs.get t=some d→Nat.testBit F.vmask t=true
abbrev DD:=Nat→Option (Obj×(Nat→Option Value))
def mkD:Obj×(Nat→Option Value):=(.deferred (some []),fun _=>none)
def YA (own:List Nat) (D:DD):DD:=fun b=>if b∈own then some mkD else D b
def Z9X (own:List Nat) (D:DD):Prop:=own.Nodup∧∀ b∈own,D b=none
theorem Z3W {own:List Nat} {D:DD} {b:Nat} (h:YA own D b=none):b∉own∧D b=none:=by
  unfold YA at h
  by_cases e:b∈own
  · rw [if_pos e] at h;cases h
  · rw [if_neg e] at h;exact ⟨e,h⟩
theorem Z6T (D:DD):YA [] D=D:=by funext b;simp [YA]
theorem Z5f (d:Nat) (own:List Nat) (D:DD):YA (d::own) D=YA [d] (YA own D):=by
  funext b
  unfold YA
  by_cases e:b=d
  · simp [e]
  · simp [e]
theorem ZcH {d:Nat} {own:List Nat} {D:DD}:YA (d::own) D d=some mkD:=by simp [YA]
structure HR (E:Env) (w0:World) (G0:Gh) (D:DD) (w:World) (β:Bi) (G:Gh) (h:Nat→Option Z8):Prop where
  below:Below w0.heap.size w0 w
  g0:∀ b,b<w0.heap.size→G b=G0 b
  agree:∀ b o v,G b o=some v→w.cell? ⟨b,o,none⟩=some v
  obj:∀ id o,h id=some o→Z2m E w0.heap.size w β G id o
  own:∀ id o b,h id=some o→Yl β id o b→w0.heap.size≤b∧b<w.heap.size∧D b=none
  inj:∀ id id' o o' b,h id=some o→h id'=some o'→Yl β id o b→Yl β id' o' b→id=id'
  marks:∀ d x,D d=some x→w0.heap.size≤d∧w.heap[d]? = some x.1∧∀ o,G d o=x.2 o
structure ZJ (β:Bi) (h:Nat→Option Z8) (id:Nat):Prop where
  blk:β.blk id=none
  hdr:∀ u,β.hdr id u=none
  h:h id=none
def ZA (h:Nat→Option Z8) (u:List (Nat×Option Z8)) (id:Nat):Option Z8 :=
  match Zp id u with
  | some x=>x
  | none=>h id
theorem glt {E:Env} {w0:World} {G0:Gh} {D:DD} {w:World} {β:Bi} {G:Gh} {h:Nat→Option Z8} (hh:HR E w0 G0 D w β G h) {b:Nat} (hb:w.heap.size≤b) (o:Nat):G b o=none:=by
  cases hg:G b o with
  | none=>rfl
  | some v =>
    have:=hh.agree b o v hg
    have hlt:=block_lt_of_cell this
    simp at hlt
    omega
theorem HR.dfree {E:Env} {w0:World} {G0:Gh} {D:DD} {w:World} {β:Bi} {G:Gh} {h:Nat→Option Z8} (hh:HR E w0 G0 D w β G h) {b:Nat} (hb:w.heap.size≤b):D b=none:=by
  cases hd:D b with
  | none=>rfl
  | some x =>
    have:=(Array.getElem?_eq_some_iff.1 (hh.marks _ x hd).2.1).1
    omega
theorem Z7X {w:World} {β:Bi} {G:Gh} (ha:∀ b o v,G b o=some v→w.cell? ⟨b,o,none⟩=some v) {b:Nat} :
    ∀ (ds:List DV) (o:Nat),Pub β G b o ds→∃ vs,Zd β G ds vs∧∀ j v,vs[j]? = some v→w.cell? ⟨b,o+j,none⟩=some v
  | [],_,_=>⟨[],Zo.2 rfl,by simp⟩
  | d::ds,o,h=>by
    unfold Pub at h
    obtain ⟨⟨u,h1,h2⟩,h3⟩:=h
    obtain ⟨vs,h4,h5⟩:=Z7X ha ds (o+1) h3
    refine ⟨u::vs,Zc.2 ⟨u,vs,rfl,h2,h4⟩,fun j v hj => ?_⟩
    cases j with
    | zero=>simp at hj;subst hj;exact ha _ _ _ h1
    | succ j =>
      have:=h5 j v (by simpa using hj)
      rwa [show o+1+j=o+(j+1) by omega] at this
theorem Yo (b o j:Nat):(⟨b,o,none⟩:Addr).add j=⟨b,o+j,none⟩:=by
  unfold Addr.add;split<;>simp_all
section tyfacts
variable {P:Program} {t:TypeId} {ti:TI} (ht:ZN P t ti)
include ht
theorem ZN.size:(P.info? t).map (·.size)=some ti.size:=by
  obtain ⟨i,z,h1,h2,_⟩:=ht.info;simp [h1,h2]
theorem ZN.run_sizeOf (w:World):(sizeOf t).run P w = .ok ti.size w:=by
  obtain ⟨i,z,h1,h2,_⟩:=ht.info
  simp [sizeOf,typeInfo,h1,h2]
theorem ZN.run_zero (w:World):∃ z,(zeroValue t).run P w = .ok z w∧z.cells.size=ti.size∧∀ β G,Zd β G ti.zero z.cells.toList:=by
  obtain ⟨i,z,h1,h2,_,h4,h5,h6⟩:=ht.info
  exact ⟨z,by simp [zeroValue,typeInfo,h1,h4],h5,h6⟩
theorem ZN.ko:ti.k ≠ .other:=fun h=>by have:=ht.desc;rw [h] at this;exact this
theorem ZN.run_isAgg (hk:ti.k ≠ .other) (w:World):(isAgg t).run P w = .ok ti.isAgg w:=by
  have hd:=ht.desc
  unfold isAgg TI.isAgg
  cases hkk:ti.k<;>rw [hkk] at hd<;>simp only at hd
  all_goals first
    | (exact absurd hkk hk)
    | (rw [Sem.run_bind,Go.run_underlying hd w];rfl)
    | (obtain ⟨f,hd,_⟩:=hd;rw [Sem.run_bind,Go.run_underlying hd w];rfl)
    | (obtain ⟨a,b,c,hd⟩:=hd;rw [Sem.run_bind,Go.run_underlying hd w];rfl)
    | (obtain ⟨a,hd⟩:=hd;rw [Sem.run_bind,Go.run_underlying hd w];rfl)
end tyfacts
theorem Zq {β:Bi} {G:Gh} {ρ:Nat→Option DV} {a:Act} (hf:FrM β G ρ a.tmps) {x:Operand} {d:DV} (h:ZT ρ x=some d):Rep β G d (a.eval x):=by
  cases x with
  | tmp t =>
    obtain ⟨v,hv,hr⟩:=hf t d h
    simpa [Act.eval,hv] using hr
  | const v =>
    simp only [ZT] at h
    simp only [Act.eval]
    unfold Zdv at h
    split at h<;>first|(cases h;unfold Rep;rfl)|cases h
  | func f=>simp only [ZT,Option.some.injEq] at h;subst h;unfold Rep;exact ⟨[],[],rfl,Zo.2 rfl,Zo.2 rfl⟩
  | global g=>cases h
theorem Z1v {β:Bi} {G:Gh} {ρ:Nat→Option DV} {a:Act} (hf:FrM β G ρ a.tmps):∀ {xs:List Operand} {ds:List DV},Z1j ρ xs=some ds→Zd β G ds (xs.map a.eval)
  | [],ds,h=>by simp [Z1j] at h;subst h;exact Zo.2 rfl
  | x::xs,ds,h=>by
    simp only [Z1j,Option.bind_eq_some_iff] at h
    obtain ⟨d,h1,ds',h2,h3⟩:=h
    cases h3
    exact Zc.2 ⟨_,_,rfl,Zq hf h1,Z1v hf h2⟩
theorem FrM.mono {β β':Bi} {G G':Gh} (hx:Ext β G β' G') {ρ:Nat→Option DV} {tm:Array Value} (h:FrM β G ρ tm):FrM β' G' ρ tm:=fun t d ht=>by
  obtain ⟨v,h1,h2⟩:=h t d ht
  exact ⟨v,h1,Rep.mono hx d v h2⟩
end Go.Ab
namespace Go.Ab
open Go.RowKit
theorem Z1m {β β':Bi} {id:Nat} (hb:β'.blk id=β.blk id) (hh:∀ u,β'.hdr id u=β.hdr id u) (o:Z8) (b:Nat):Yl β' id o b↔Yl β id o b:=by
  cases o<;>simp only [Yl,hb,hh]
theorem Z6M {w w':World} {base:Nat} {e:TypeId} {size:Nat} {v:Value} {n:Nat} {xs:List Value} (h:w.ownsRow base e size v n xs)
    (hb:∀ g,v.ownBlock=some g→w'.heap[g]? = w.heap[g]?):w'.ownsRow base e size v n xs:=by
  obtain ⟨h1,h2⟩:=h
  refine ⟨h1,?_⟩
  rcases h2 with h2|⟨g,cap,cur,hv,hg,hh,r⟩
  · exact Or.inl h2
  · exact Or.inr ⟨g,cap,cur,hv,hg,by rw [hb g (by rw [hv];rfl)];exact hh,r⟩
theorem Z5e {w:World} {base:Nat} {e:TypeId} {size:Nat} {v:Value} {n:Nat} {xs:List Value} (h:w.ownsRow base e size v n xs) {g:Nat} (hg:v.ownBlock=some g) :
    ∃ c,v = .slice (some ⟨g,0,none⟩) n c:=by
  rcases h.2 with ⟨rfl,_⟩|⟨g',cap,cur,rfl,_⟩
  · cases hg
  · simp [Value.ownBlock] at hg;subst hg;exact ⟨cap,rfl⟩
theorem Z9v {β β':Bi} {G G':Gh} (hx:Ext β G β' G'):∀ {es:List (DV×DV)} {ms:List MapEntry},Z6y β G es ms→Z6y β' G' es ms
  | [],_,h=>h
  | _::_,_,⟨m,ms',h1,h2,h3,h4,h5,h6⟩=>⟨m,ms',h1,Rep.mono hx _ _ h2,Rep.mono hx _ _ h3,h4,h5,Z9v hx h6⟩
theorem Z2m.keep {E:Env} {base:Nat} {w w':World} {β β':Bi} {G G':Gh} {id:Nat} {o:Z8} (hx:Ext β G β' G') (hhdr:∀ u,β'.hdr id u=β.hdr id u)
    (hb:∀ b,Yl β id o b→w'.heap[b]? = w.heap[b]? ∧ ∀ off,G' b off=G b off) (h:Z2m E base w β G id o):Z2m E base w' β' G' id o:=by
  cases o with
  | cells t cs =>
    obtain ⟨b,vs,h1,h2,h3,h4,h5⟩:=h
    obtain ⟨k1,k2⟩:=hb b h1
    exact ⟨b,vs,hx.blk _ _ h1,k1.trans h2,Zd.mono hx _ _ h3,h4,fun o=>(k2 o).trans (h5 o)⟩
  | row t es p u =>
    obtain ⟨hdr,vals,h1,h2,h3,h4,h5,h6,h7⟩:=h
    have hbl:∀ g,hdr.ownBlock=some g→Yl β id (.row t es p u) g:=fun g hg=>by
      obtain ⟨c,hc⟩:=Z5e h2 hg
      exact ⟨es.length,c,by rw [h1,hc]⟩
    refine ⟨hdr,vals,hx.hdr _ _ _ h1,Z6M h2 (fun g hg=>(hb g (hbl g hg)).1),Zd.mono hx _ _ h3,h4,h5,fun b hbb o ho => ?_,fun u' hu=>(hhdr u').trans (h7 u' hu)⟩
    exact ((hb b (hbl b hbb)).2 o).trans (h6 b hbb o ho)
  | map es =>
    obtain ⟨b,ms,clock,h1,h2,h3⟩:=h
    obtain ⟨k1,_⟩:=hb b h1
    exact ⟨b,ms,clock,hx.blk _ _ h1,k1.trans h2,Z9v hx h3⟩
  | siter s pos =>
    obtain ⟨b,h1,h2⟩:=h
    exact ⟨b,hx.blk _ _ h1,((hb b h1).1).trans h2⟩
  | loop fid bs ps assign body bid ex =>
    obtain ⟨b,tmps,df,fn,F,h1,h2,h3,h4⟩:=h
    exact ⟨b,tmps,df,fn,F,hx.blk _ _ h1,((hb b h1).1).trans h2,FrM.mono hx h3,h4⟩
theorem Y2 (h:Nat→Option Z8) (id:Nat) (x:Option Z8) (i:Nat):ZA h [(id,x)] i=if i=id then x else h i:=by
  unfold ZA
  by_cases e:i=id
  · subst e;simp [Zp]
  · have:Nat.beq id i=false:=by
      cases hq:Nat.beq id i with
      | false=>rfl
      | true=>exact absurd (Nat.eq_of_beq_eq_true hq).symm e
    simp [Zp,this,e]
theorem HR.move {E:Env} {w0:World} {G0:Gh} {D:DD} {w w':World} {β β':Bi} {G G':Gh} {h:Nat→Option Z8} (hh:HR E w0 G0 D w β G h)
    (T:Nat→Prop) (id:Nat) (o':Z8) (hx:Ext β G β' G') (hbe:Below w0.heap.size w0 w')
    (hw:∀ b,¬ T b→b<w.heap.size→w'.heap[b]? = w.heap[b]?) (hG:∀ b,¬ T b→G' b=G b) (hsz:w.heap.size≤w'.heap.size)
    (hT:∀ b,T b→w0.heap.size≤b∧D b=none) (hTo:∀ b id' o,T b→h id'=some o→Yl β id' o b→id'=id)
    (hag:∀ b,T b→∀ o v,G' b o=some v→w'.cell? ⟨b,o,none⟩=some v)
    (hob:Z2m E w0.heap.size w' β' G' id o') (hown:∀ b,Yl β' id o' b→T b∨∃ o,h id=some o∧Yl β id o b) (hlt:∀ b,Yl β' id o' b→b<w'.heap.size)
    (hβ:∀ i,i≠id→β'.blk i=β.blk i∧∀ u,β'.hdr i u=β.hdr i u):HR E w0 G0 D w' β' G' (ZA h [(id,some o')]):=by
  have hold:∀ i o b,i≠id→h i=some o→Yl β i o b→¬ T b:=fun i o b hi ho hb ht=>hi (hTo b i o ht ho hb)
  have hget:∀ i o,ZA h [(id,some o')] i=some o→(i=id∧o=o')∨(i≠id∧h i=some o):=fun i o hi=>by
    rw [Y2] at hi
    by_cases e:i=id
    · rw [if_pos e] at hi;cases hi;exact .inl ⟨e,rfl⟩
    · rw [if_neg e] at hi;exact .inr ⟨e,hi⟩
  have hown':∀ b,Yl β' id o' b→w0.heap.size≤b∧D b=none:=fun b hb=>by
    rcases hown b hb with ht|⟨o,ho,hb'⟩
    · exact hT b ht
    · obtain ⟨k1,_,k3⟩:=hh.own id o b ho hb';exact ⟨k1,k3⟩
  have hsep:∀ i o b,i≠id→h i=some o→Yl β i o b→Yl β' id o' b→False:=fun i o b hi ho hb hb'=>by
    rcases hown b hb' with ht|⟨o2,ho2,hb2⟩
    · exact hold i o b hi ho hb ht
    · exact hi (hh.inj i id o o2 b ho ho2 hb hb2)
  constructor
  · exact hbe
  · intro b hb
    rw [←hh.g0 b hb]
    refine hG b fun ht => ?_
    have:=(hT b ht).1
    omega
  · intro b o v hg
    by_cases ht:T b
    · exact hag b ht o v hg
    · rw [hG b ht] at hg
      have hc:=hh.agree b o v hg
      have hlt:=block_lt_of_cell hc
      exact (World.cell?_of_block (w:=w) (w':=w') (a:=⟨b,o,none⟩) (hw b ht hlt)).trans hc
  · intro i o hi
    rcases hget i o hi with ⟨rfl,rfl⟩|⟨hne,hi⟩
    · exact hob
    · refine Z2m.keep hx (hβ i hne).2 (fun b hb => ?_) (hh.obj i o hi)
      have hnt:=hold i o b hne hi hb
      exact ⟨hw b hnt (hh.own i o b hi hb).2.1,fun off=>by rw [hG b hnt]⟩
  · intro i o b hi hb
    rcases hget i o hi with ⟨rfl,rfl⟩|⟨hne,hi⟩
    · exact ⟨(hown' b hb).1,hlt b hb,(hown' b hb).2⟩
    · have hb':=(Z1m (hβ i hne).1 (hβ i hne).2 o b).1 hb
      obtain ⟨k1,k2,k3⟩:=hh.own i o b hi hb'
      exact ⟨k1,by omega,k3⟩
  · intro i j o p b hi hj hb hc
    rcases hget i o hi with ⟨e1,e2⟩|⟨hne,hi2⟩<;>rcases hget j p hj with ⟨e3,e4⟩|⟨hne',hj2⟩
    · exact e1.trans e3.symm
    · subst e1 e2;exact (hsep j p b hne' hj2 ((Z1m (hβ j hne').1 (hβ j hne').2 p b).1 hc) hb).elim
    · subst e3 e4;exact (hsep i o b hne hi2 ((Z1m (hβ i hne).1 (hβ i hne).2 o b).1 hb) hc).elim
    · exact hh.inj i j o p b hi2 hj2 ((Z1m (hβ i hne).1 (hβ i hne).2 o b).1 hb) ((Z1m (hβ j hne').1 (hβ j hne').2 p b).1 hc)
  · intro d x hd
    obtain ⟨k1,k2,k3⟩:=hh.marks d x hd
    have hlt:d<w.heap.size:=(Array.getElem?_eq_some_iff.1 k2).1
    have hnt:¬ T d:=fun ht=>by rw [(hT d ht).2] at hd;cases hd
    exact ⟨k1,(hw d hnt hlt).trans k2,fun o=>by rw [hG d hnt];exact k3 o⟩
theorem HR.less {E:Env} {w0:World} {G0:Gh} {D:DD} {w:World} {β:Bi} {G:Gh} {h h':Nat→Option Z8} (hh:HR E w0 G0 D w β G h) (hl:∀ i o,h' i=some o→h i=some o) :
    HR E w0 G0 D w β G h' :=
  ⟨hh.below,hh.g0,hh.agree,fun i o hi=>hh.obj i o (hl i o hi),fun i o b hi=>hh.own i o b (hl i o hi),fun i j o p b hi hj=>hh.inj i j o p b (hl i o hi) (hl j p hj),hh.marks⟩
theorem HR.eq {E:Env} {w0:World} {G0:Gh} {D:DD} {w:World} {β:Bi} {G:Gh} {h h':Nat→Option Z8} (hh:HR E w0 G0 D w β G h) (hl:∀ i,h' i=h i):HR E w0 G0 D w β G h' :=
  hh.less fun i o hi=>by rw [←hl i];exact hi
theorem HR.drew {E:Env} {w0:World} {G0:Gh} {D:DD} {w:World} {β:Bi} {G:Gh} {h:Nat→Option Z8} (hh:HR E w0 G0 D w β G h) (n:Nat) :
    HR E w0 G0 D { w with drawn:=n } β G h :=
  ⟨⟨hh.below.os,hh.below.tape,hh.below.output,hh.below.size,hh.below.block⟩,hh.g0,hh.agree,fun i o hi=>by
    have:=hh.obj i o hi
    cases o<;>exact this,hh.own,hh.inj,hh.marks⟩
def YZ (β β':Bi) (h h':Nat→Option Z8) (id:Nat):Prop:=h id=none→h' id=none∧β'.blk id=β.blk id∧∀ u,β'.hdr id u=β.hdr id u
theorem YZ.refl (β:Bi) (h:Nat→Option Z8) (id:Nat):YZ β β h h id:=fun h=>⟨h,rfl,fun _=>rfl⟩
theorem YZ.trans {β β' β'':Bi} {h h' h'':Nat→Option Z8} {id:Nat} (x:YZ β β' h h' id) (y:YZ β' β'' h' h'' id):YZ β β'' h h'' id:=fun hn=>by
  obtain ⟨a,b,c⟩:=x hn
  obtain ⟨a',b',c'⟩:=y a
  exact ⟨a',b'.trans b,fun u=>(c' u).trans (c u)⟩
theorem YZ.fresh {β β':Bi} {h h':Nat→Option Z8} {id:Nat} (x:YZ β β' h h' id) (hf:ZJ β h id):ZJ β' h' id:=by
  obtain ⟨a,b,c⟩:=x hf.h
  exact ⟨b.trans hf.blk,fun u=>(c u).trans (hf.hdr u),a⟩
def Z2M (β β':Bi) (h h':Nat→Option Z8) (nid:Nat):Prop:=∀ id,id≠nid→YZ β β' h h' id
theorem Z2M.refl (β:Bi) (h:Nat→Option Z8) (nid:Nat):Z2M β β h h nid:=fun id _=>YZ.refl β h id
theorem HR.lay {E:Env} {w0:World} {G0:Gh} {D:DD} {w:World} {β:Bi} {G:Gh} {h:Nat→Option Z8} (hh:HR E w0 G0 D w β G h) {nid:Nat} (hf:ZJ β h nid) (ob:Obj) (o':Z8)
    (hrow:∀ t es p u,o' ≠ .row t es p u)
    (hob:∀ β',Ext β G β' G→β'.blk nid=some w.heap.size→Z2m E w0.heap.size (w.alloc ob) β' G nid o') :
    ∃ β',Ext β G β' G∧β'.blk nid=some w.heap.size∧HR E w0 G0 D (w.alloc ob) β' G (ZA h [(nid,some o')])∧Z2M β β' h (ZA h [(nid,some o')]) nid:=by
  refine ⟨{ β with blk:=fun i=>if i=nid then some w.heap.size else β.blk i },?_,?_,?_,?_⟩
  · exact ⟨fun _ _ _ h=>h,fun i b hb=>by
      by_cases e:i=nid
      · subst e;rw [hf.blk] at hb;cases hb
      · simp [e,hb],fun _ _ _ h=>h⟩
  · simp
  · have hx:Ext β G { β with blk:=fun i=>if i=nid then some w.heap.size else β.blk i } G:=⟨fun _ _ _ h=>h,fun i b hb=>by
      by_cases e:i=nid
      · subst e;rw [hf.blk] at hb;cases hb
      · simp [e,hb],fun _ _ _ h=>h⟩
    have howns:∀ b,Yl { β with blk:=fun i=>if i=nid then some w.heap.size else β.blk i } nid o' b→b=w.heap.size:=fun b hb=>by
      cases o' with
      | row t es p u=>exact absurd rfl (hrow t es p u)
      | _=>simp [Yl] at hb;exact hb.symm
    refine hh.move (fun b=>b=w.heap.size) nid o' hx (hh.below.alloc hh.below.size ob) (fun b _ hlt=>Below.heap_alloc w ob b hlt) (fun _ _=>rfl) (by simp) ?_ ?_ ?_ (hob _ hx (by simp)) (fun b hb => .inl (howns b hb)) ?_ ?_
    · rintro b rfl
      refine ⟨hh.below.size,?_⟩
      cases hd:D w.heap.size with
      | none=>rfl
      | some x =>
        have:=(Array.getElem?_eq_some_iff.1 (hh.marks _ x hd).2.1).1
        omega
    · rintro b id' o rfl ho hb
      have:=(hh.own id' o _ ho hb).2.1
      omega
    · rintro b rfl o v hg
      rw [glt hh (Nat.le_refl _)] at hg;cases hg
    · intro b hb
      rw [howns b hb];simp
    · intro i hi
      exact ⟨by simp [hi],fun _=>rfl⟩
  · intro id hne hn
    exact ⟨by rw [Y2,if_neg hne];exact hn,by simp [hne],fun _=>rfl⟩
end Go.Ab
namespace Go.Ab
open Go.RowKit
def Yb (P:Program) (E:Env) (w0:World) (G0:Gh) (D:DD) (o:Oper) (a:Act) (w:World) (β:Bi) (G:Gh) (h:Nat→Option Z8) (nid:Nat) (r:Out):Prop :=
  ∃ nx v w' β' G',(execOp a.eval o).run P w = .ok nx w'∧(nx = .value v∨nx = .skip∧v=undef)∧(∀ d,r.val=some d→Rep β' G' d v) ∧
    Ext β G β' G'∧HR E w0 G0 D w' β' G' (ZA h r.upd)∧Z2M β β' h (ZA h r.upd) nid
section
variable {P:Program} {E:Env} {w0:World} {G0:Gh} {D:DD} {o:Oper} {a:Act} {w:World} {β:Bi} {G:Gh} {h:Nat→Option Z8} {nid:Nat}
theorem Zc8 (h:Nat→Option Z8):ZA h []=h:=rfl
theorem Yb.pure (hh:HR E w0 G0 D w β G h) {d:DV} {v:Value} (hr:(execOp a.eval o).run P w = .ok (.value v) w) (hv:Rep β G d v):Yb P E w0 G0 D o a w β G h nid ⟨some d,[]⟩ :=
  ⟨.value v,v,w,β,G,hr,.inl rfl,fun d' hd=>by cases hd;exact hv,Ext.refl β G,by rw [Zc8];exact hh,Z2M.refl β h nid⟩
theorem Z6n {d:DV} {r:Out} (h:ret d=some r):r=⟨some d,[]⟩:=by cases h;rfl
theorem Z0 {α γ:Type} {x:Option α} {f:α→Option γ} {r:γ} (h:x.bind f=some r):∃ y,x=some y∧f y=some r:=Option.bind_eq_some_iff.1 h
theorem Z2 {α:Type} {c:Bool} {x:Option α} {r:α} (h:(bif c then x else none)=some r):c=true∧x=some r:=by
  cases c
  · cases h
  · exact ⟨rfl,h⟩
theorem ZH {k:IntKind} {n:Int} {v:Value}:Rep β G (.int k n) v↔v = .int k n:=by conv=>lhs;unfold Rep
theorem ZK {b:Bool} {v:Value}:Rep β G (.bool b) v↔v = .bool b:=by conv=>lhs;unfold Rep
theorem YW {s:ByteArray} {v:Value}:Rep β G (.str s) v↔v = .string s:=by conv=>lhs;unfold Rep
theorem Yx {cs:List DV} {v:Value}:Rep β G (.agg cs) v↔∃ vs,v = .agg vs.toArray∧Zd β G cs vs:=by conv=>lhs;unfold Rep
theorem YX {cs:List DV} {v:Value}:Rep β G (.tup cs) v↔∃ vs,v = .tuple vs.toArray∧Zd β G cs vs:=by conv=>lhs;unfold Rep
theorem Z2C {i n:Nat} {v:Value}:Rep β G (.ptr i n) v↔∃ b,β.blk i=some b∧v = .pointer (some ⟨b,n,none⟩):=by conv=>lhs;unfold Rep
theorem Z51 {cs:List DV} {v:Value}:Rep β G (.pub cs) v↔Za cs=true∧∃ b o,v = .pointer (some ⟨b,o,none⟩)∧Pub β G b o cs:=by conv=>lhs;unfold Rep
theorem Z30 {i w j e n:Nat} {v:Value}:Rep β G (.rptr i w j e n) v↔∃ b m c,β.hdr i w=some (.slice (some ⟨b,0,none⟩) m c)∧v = .pointer (some ⟨b,j*e+n,none⟩):=by conv=>lhs;unfold Rep
theorem Z3q {i w:Nat} {v:Value}:Rep β G (.rs i w) v↔β.hdr i w=some v∧∃ a n c,v = .slice a n c:=by conv=>lhs;unfold Rep
theorem Z5L {es:List (List DV)} {v:Value}:Rep β G (.sl es) v↔∃ a c,(v = .slice a es.length c∧es.length≤c)∧(es=[]∨∃ b o e,a=some ⟨b,o,none⟩∧Yk β G b e o es):=by conv=>lhs;unfold Rep
theorem Z2f {v:Value}:Rep β G .nils v↔v = .slice none 0 0:=by conv=>lhs;unfold Rep
theorem ZcL {f:Fn} {x c:List DV} {v:Value}:Rep β G (.fn f x c) v↔∃ as cs,v = .func f as.toArray cs.toArray∧Zd β G x as∧Zd β G c cs:=by conv=>lhs;unfold Rep
theorem Z7I {i:Nat} {v:Value}:Rep β G (.map i) v↔∃ b,β.blk i=some b∧v = .map (some b):=by conv=>lhs;unfold Rep
theorem ZbM {i:Nat} {v:Value}:Rep β G (.iter i) v↔∃ b,β.blk i=some b∧v = .pointer (some ⟨b,0,none⟩):=by conv=>lhs;unfold Rep
theorem ZdE {i:Nat} {v:Value}:Rep β G (.yld i) v↔∃ b,β.blk i=some b∧v = .func (.yield b) #[] #[]:=by conv=>lhs;unfold Rep
theorem Z5K {v:Value}:Rep β G .nilmap v↔v = .map none:=by conv=>lhs;unfold Rep
theorem Zfl {v:Value}:Rep β G .nilp v↔v = .pointer none:=by conv=>lhs;unfold Rep
theorem Zcm {op:BinOp} {x y:Int} {d:DV} (hd:ZfI op x y=some d):∃ v,(Op.intCmp op x y).run P w = .ok v w∧Rep β G d v:=by
  unfold ZfI at hd
  split at hd<;>cases hd<;>exact ⟨_,rfl,ZK.2 rfl⟩
theorem ZaZ {op:BinOp} {k:IntKind} {x y:Int} {d:DV} (hd:Zda op k x y=some d):∃ v,(Op.intBits op k x y).run P w = .ok v w∧Rep β G d v:=by
  unfold Zda at hd
  simp only at hd
  split at hd<;>cases hd<;>exact ⟨_,rfl,ZH.2 rfl⟩
theorem ZaN {op:BinOp} {k k':IntKind} {x y:Int} {d:DV} (hd:ZaM op k x y=some d):∃ v,(Op.shift op k x k' y).run P w = .ok v w∧Rep β G d v:=by
  unfold ZaM at hd
  cases hy:decide (y<0) with
  | true=>rw [hy] at hd;cases hd
  | false =>
    rw [hy] at hd
    have hn:¬ y<0:=by simpa using hy
    simp only [cond_false] at hd
    split at hd
    · cases hd;exact ⟨_,by simp only [Op.shift,if_neg hn];rfl,ZH.2 rfl⟩
    · cases hd;exact ⟨_,by simp only [Op.shift,if_neg hn];rfl,ZH.2 rfl⟩
    · cases hd
theorem Zct {op:BinOp} {k:IntKind} {x y:Int} {t:TypeId} {d:DV} (hs:Z4U op=false) (hd:ZfV op k x y=some d) :
    ∃ v,(binOp op t (.int k x) (.int k y)).run P w = .ok v w∧Rep β G d v:=by
  cases op<;>simp only [Z4U,Bool.true_eq_false] at hs<;>simp only [ZfV] at hd
  case add=>cases hd;exact ⟨_,by simp [binOp,Op.intArith],ZH.2 rfl⟩
  case sub=>cases hd;exact ⟨_,by simp [binOp,Op.intArith],ZH.2 rfl⟩
  case mul=>cases hd;exact ⟨_,by simp [binOp,Op.intArith],ZH.2 rfl⟩
  case quo =>
    cases hy:y==0 with
    | true=>rw [hy] at hd;cases hd
    | false =>
      rw [hy] at hd
      have hn:¬ y=0:=by simpa using hy
      cases hd
      exact ⟨_,by simp only [binOp,Op.intDiv,if_neg hn];simp,ZH.2 rfl⟩
  case rem =>
    cases hy:y==0 with
    | true=>rw [hy] at hd;cases hd
    | false =>
      rw [hy] at hd
      have hn:¬ y=0:=by simpa using hy
      cases hd
      exact ⟨_,by simp only [binOp,Op.intDiv,if_neg hn];simp,ZH.2 rfl⟩
  all_goals first
    | (obtain ⟨v,h1,h2⟩:=ZaZ (P:=P) (w:=w) (β:=β) (G:=G) hd;exact ⟨v,by simpa [binOp] using h1,h2⟩)
    | (obtain ⟨v,h1,h2⟩:=Zcm (P:=P) (w:=w) (β:=β) (G:=G) hd;exact ⟨v,by simpa [binOp] using h1,h2⟩)
theorem ZcY {op:BinOp} {x y:ByteArray} {t:TypeId} {d:DV} (hd:Zgk op x y=some d):∃ v,(binOp op t (.string x) (.string y)).run P w = .ok v w∧Rep β G d v:=by
  cases op<;>simp only [Zgk,reduceCtorEq] at hd
  case add =>
    obtain ⟨h1,h2⟩:=Z2 hd
    cases h2
    have hle:x.size+y.size≤1099511627776:=Nat.le_of_ble_eq_true h1
    refine ⟨_,?_,YW.2 rfl⟩
    have hn:¬ (((x.size+y.size:Nat):Int)>IntKind.i64.max):=by
      have:IntKind.i64.max=9223372036854775807:=by decide
      omega
    simp only [binOp,Op.stringOp,if_neg hn]
    rfl
  all_goals (cases hd;exact ⟨_,by simp only [binOp,Op.stringOp];rfl,ZK.2 rfl⟩)
theorem Z3d {op:BinOp} {t:TypeId} {x y:Operand} {u v:Value} (hu:u ≠ .nilIface) (ha:∀ cs,u ≠ .agg cs):(eqGuard op t x y u v).run P w = .ok () w:=by
  unfold eqGuard
  cases u<;>first|exact absurd rfl hu|exact absurd rfl (ha _)|(cases op<;>rfl)
theorem Zb9 {op:BinOp} {t:TypeId} {x y:Operand} {u v:Array Value} (hg:P.eqGuardType P.depth t=false):(eqGuard op t x y (.agg u) (.agg v)).run P w = .ok () w:=by
  unfold eqGuard
  cases op<;>first|rfl|(simp [hg,Sem.run_bind])
theorem Z6X {t:TypeId} (hu:P.underlying t=some .bool) (d:Nat) (x y:Bool):(Op.equalIn (d+1) t (.bool x) (.bool y)).run P w = .ok (x==y) w:=by
  simp [Op.equalIn,Go.run_underlying hu]
theorem Z6Y {t e:TypeId} (hu:P.underlying t=some (.slice e)) (d:Nat) (A:Addr) (n c:Nat):(Op.equalIn (d+1) t (.slice (some A) n c) (.slice none 0 0)).run P w = .ok false w:=by
  simp [Op.equalIn,Go.run_underlying hu]
theorem Z4L {t e:TypeId} (hu:P.underlying t=some (.slice e)) (A:Addr) (n c:Nat):(Op.equal t (.slice (some A) n c) (.slice none 0 0)).run P w = .ok false w :=
  Z6Y hu 9999 A n c
theorem Z4K {t:TypeId} (hu:P.underlying t=some .bool) (x y:Bool):(Op.equal t (.bool x) (.bool y)).run P w = .ok (x==y) w :=
  Z6X hu 9999 x y
theorem Zcj (hE:∀ t ti,E.ty t=some ti→ZN P t ti) {op:BinOp} {t:TypeId} {x y:Operand} {dx dy d:DV} {u v:Value} (hd:Za3 E op t dx dy=some d)
    (hx:Rep β G dx u) (hy:Rep β G dy v):∃ r,(do eqGuard op t x y u v;binOp op t u v:Sem Value).run P w = .ok r w∧Rep β G d r:=by
  unfold Za3 at hd
  split at hd
  · rename_i k n k' m
    rw [ZH] at hx hy
    subst hx hy
    have hg:(eqGuard op t x y (.int k n) (.int k' m)).run P w = .ok () w:=Z3d (by simp) (by simp)
    cases hs:Z4U op with
    | true =>
      rw [hs] at hd
      obtain ⟨r,h1,h2⟩:=ZaN (P:=P) (w:=w) (β:=β) (G:=G) (k':=k') hd
      refine ⟨r,?_,h2⟩
      rw [Sem.run_bind,hg]
      cases op<;>simp [Z4U] at hs<;>simpa [binOp,Result.andThen] using h1
    | false =>
      rw [hs] at hd
      simp only [cond_false] at hd
      obtain ⟨hk,hd2⟩:=Z2 hd
      clear hd
      have hk:k=k':=by simpa using hk
      subst hk
      obtain ⟨r,h1,h2⟩:=Zct (P:=P) (w:=w) (β:=β) (G:=G) (t:=t) hs hd2
      refine ⟨r,?_,h2⟩
      rw [Sem.run_bind,hg]
      simpa [Result.andThen] using h1
  · rename_i s s'
    rw [YW] at hx hy
    subst hx hy
    obtain ⟨r,h1,h2⟩:=ZcY (P:=P) (w:=w) (β:=β) (G:=G) (t:=t) hd
    refine ⟨r,?_,h2⟩
    rw [Sem.run_bind,Z3d (by simp) (by simp)]
    simpa [Result.andThen] using h1
  · rename_i b b'
    obtain ⟨ti,ht,hd⟩:=Z0 hd
    have hu:=(hE t ti ht).desc
    rw [ZK] at hx hy
    subst hx hy
    have hg:(eqGuard op t x y (.bool b) (.bool b')).run P w = .ok () w:=Z3d (by simp) (by simp)
    split at hd
    · rename_i hk _
      rw [hk] at hu
      cases hd
      exact ⟨_,by rw [Sem.run_bind,hg];simp [Result.andThen,binOp,Z4K hu],ZK.2 rfl⟩
    · rename_i hk _
      rw [hk] at hu
      cases hd
      exact ⟨_,by rw [Sem.run_bind,hg];simp [Result.andThen,binOp,Z4K hu],ZK.2 rfl⟩
    · cases hd
  · rename_i cs cs'
    obtain ⟨ti,ht,hd⟩:=Z0 hd
    obtain ⟨hc,hd⟩:=Z2 hd
    simp only [Bool.and_eq_true] at hc
    obtain ⟨⟨heq,hl1⟩,hl2⟩:=hc
    obtain ⟨hrun,hg⟩:=(hE t ti ht).eqr heq
    rw [Yx] at hx hy
    obtain ⟨vx,rfl,hx⟩:=hx
    obtain ⟨vy,rfl,hy⟩:=hy
    have hgr:(eqGuard op t x y (.agg vx.toArray) (.agg vy.toArray)).run P w = .ok () w:=Zb9 hg
    split at hd
    · obtain ⟨r,h1,h2⟩:=Z0 hd
      cases h2
      have:=hrun cs cs' r h1 hl1 hl2 β G vx vy w hx hy
      exact ⟨_,by rw [Sem.run_bind,hgr];simp [Result.andThen,binOp,this],ZK.2 rfl⟩
    · obtain ⟨r,h1,h2⟩:=Z0 hd
      cases h2
      have:=hrun cs cs' r h1 hl1 hl2 β G vx vy w hx hy
      exact ⟨_,by rw [Sem.run_bind,hgr];simp [Result.andThen,binOp,this],ZK.2 rfl⟩
    · cases hd
  · rename_i c cs
    obtain ⟨ti,ht,hd⟩:=Z0 hd
    have hu:=(hE t ti ht).desc
    unfold Rep at hx
    obtain ⟨a,cp,⟨rfl,_⟩,h|⟨b,o,e,rfl,_⟩⟩:=hx
    · cases h
    rw [Z2f] at hy
    subst hy
    have hg:(eqGuard op t x y (.slice (some ⟨b,o,none⟩) (c::cs).length cp) (.slice none 0 0)).run P w = .ok () w:=Z3d (by simp) (by simp)
    split at hd
    · rename_i hk _
      rw [hk] at hu
      cases hd
      exact ⟨_,by rw [Sem.run_bind,hg];simp [Result.andThen,binOp,Z4L hu],ZK.2 rfl⟩
    · rename_i hk _
      rw [hk] at hu
      cases hd
      exact ⟨_,by rw [Sem.run_bind,hg];simp [Result.andThen,binOp,Z4L hu],ZK.2 rfl⟩
    · cases hd
  · cases hd
end
end Go.Ab
namespace Go.Ab
open Go.RowKit
section
variable {P:Program} {E:Env} {w0:World} {G0:Gh} {D:DD} {o:Oper} {a:Act} {w:World} {β:Bi} {G:Gh} {h:Nat→Option Z8} {nid:Nat} {ρ:Nat→Option DV}
theorem Zer {op:UnOp} {dx d:DV} {u:Value} (hd:unD op dx=some d) (hx:Rep β G dx u):∃ r,(Op.unary op u).run P w = .ok r w∧Rep β G d r:=by
  unfold unD at hd
  split at hd
  · rw [ZH] at hx;subst hx
    split at hd
    · cases hd;exact ⟨_,by simp [Op.unary,Op.intArith],ZH.2 rfl⟩
    · cases hd
  · rw [ZK] at hx;subst hx
    split at hd
    · cases hd;exact ⟨_,by simp [Op.unary],ZK.2 rfl⟩
    · cases hd
  · cases hd
theorem Zcy {x y d:DV} {u v:Value} (hd:Zbx x y=some d) (hx:Rep β G x u) (hy:Rep β G y v):∃ r,(Builtin.min2 u v).run P w = .ok r w∧Rep β G d r:=by
  unfold Zbx at hd
  split at hd
  · rw [ZH] at hx hy;subst hx hy
    cases hd
    refine ⟨_,rfl,ZH.2 ?_⟩
    rename_i k x _ y
    by_cases hl:y<x<;>simp [hl]
  · cases hd
theorem Zcx {x y d:DV} {u v:Value} (hd:Zbw x y=some d) (hx:Rep β G x u) (hy:Rep β G y v):∃ r,(Builtin.max2 u v).run P w = .ok r w∧Rep β G d r:=by
  unfold Zbw at hd
  split at hd
  · rw [ZH] at hx hy;subst hx hy
    cases hd
    refine ⟨_,rfl,ZH.2 ?_⟩
    rename_i k x _ y
    by_cases hl:y>x<;>simp [hl]
  · cases hd
theorem Z4n {f:DV→DV→Option DV} {g:Value→Value→Sem Value}
    (hfg:∀ {x y d:DV} {u v:Value},f x y=some d→Rep β G x u→Rep β G y v→∃ r,(g u v).run P w = .ok r w∧Rep β G d r) :
    ∀ {ds:List DV} {vs:List Value} {x d:DV} {u:Value},Z63 f x ds=some d→Rep β G x u→Zd β G ds vs→∃ r,(vs.foldlM g u).run P w = .ok r w∧Rep β G d r
  | [],vs,x,d,u,hd,hx,hl=>by
    rw [Zo] at hl;subst hl
    simp only [Z63,Option.some.injEq] at hd;subst hd
    exact ⟨u,rfl,hx⟩
  | y::ds,vs,x,d,u,hd,hx,hl=>by
    obtain ⟨v,vs',rfl,hy,hl⟩:=Zc.1 hl
    simp only [Z63] at hd
    obtain ⟨z,h1,h2⟩:=Z0 hd
    obtain ⟨r,h3,h4⟩:=hfg h1 hx hy
    obtain ⟨r',h5,h6⟩:=Z4n hfg h2 h4 hl
    exact ⟨r',by simp [List.foldlM_cons,Sem.run_bind,h3,h5],h6⟩
theorem Z8z {t:TypeId} {ti:TI} (ht:ZN P t ti) (hk:ti.k ≠ .other) {cs:List DV} {vs:List Value} {off:Nat} {d:DV} (hc:Zd β G cs vs) (hd:Yy ti cs off=some d) :
    ∃ r,(part t vs.toArray off).run P w = .ok r w∧Rep β G d r:=by
  unfold Yy at hd
  unfold part
  rw [Sem.run_bind,ht.run_isAgg hk]
  cases ha:ti.isAgg with
  | true =>
    rw [ha] at hd
    simp only [cond_true] at hd
    obtain ⟨_,hd⟩:=Z2 hd
    cases hd
    refine ⟨.agg (((vs.drop off).take ti.size)).toArray,?_,Yx.2 ⟨_,rfl,Yt _ (Ys _ hc)⟩⟩
    simp [Result.andThen,ht.run_sizeOf]
  | false =>
    rw [ha] at hd
    simp only [cond_false] at hd
    obtain ⟨v,h1,h2⟩:=Z3A hc hd
    exact ⟨v,by simp [Result.andThen,h1],h2⟩
theorem Z3n {t:TypeId} {ti:TI} (ht:ZN P t ti) (hk:ti.k ≠ .other) {cs:List DV} {vs:List Value} {b o:Nat} {n:Nat} {d:DV} (hc:Zd β G cs vs)
    (hcell:∀ j v,vs[j]? = some v→w.cell? ⟨b,o+j,none⟩=some v) (hd:Yy ti cs n=some d):∃ r,(loadVar t ⟨b,o+n,none⟩).run P w = .ok r w∧Rep β G d r:=by
  unfold Yy at hd
  unfold loadVar
  rw [Sem.run_bind,ht.run_isAgg hk]
  cases ha:ti.isAgg with
  | true =>
    rw [ha] at hd
    simp only [cond_true] at hd
    obtain ⟨hle,hd⟩:=Z2 hd
    cases hd
    have hle:n+ti.size≤cs.length:=Nat.le_of_ble_eq_true hle
    have hl:=ZF hc
    have hrun:=run_loadCells_list (P:=P) w ⟨b,o+n,none⟩ ((vs.drop n).take ti.size) (fun j v hj=>by
      rw [Yo]
      have hj2:vs[n+j]? = some v:=by
        rw [List.getElem?_take] at hj
        split at hj
        · simpa using hj
        · cases hj
      rw [show o+n+j=o+(n+j) by omega]
      exact hcell _ _ hj2)
    have hlen:((vs.drop n).take ti.size).length=ti.size:=by simp;omega
    rw [hlen] at hrun
    exact ⟨_,by simp [Result.andThen,Sem.run_bind,ht.run_sizeOf,hrun],Yx.2 ⟨_,rfl,Yt _ (Ys _ hc)⟩⟩
  | false =>
    rw [ha] at hd
    simp only [cond_false] at hd
    obtain ⟨v,h1,h2⟩:=Z3A hc hd
    exact ⟨v,by simp [Result.andThen,load,Sem.run,hcell _ _ h1],h2⟩
theorem Zbb:∀ {es:List (List DV)} {i e:Nat} {c:List DV},(∀ x∈es,x.length=e)→es[i]? = some c→(es.flatten.drop (i*e)).take e=c
  | [],i,e,c,_,h=>by simp at h
  | x::es,0,e,c,he,h=>by
    simp at h;subst h
    have:=he x (by simp)
    simp [this]
  | x::es,i+1,e,c,he,h=>by
    have hx:=he x (by simp)
    have:=Zbb (es:=es) (i:=i) (e:=e) (c:=c) (fun y hy=>he y (by simp [hy])) (by simpa using h)
    rw [←this,List.flatten_cons,Nat.add_mul,Nat.one_mul]
    rw [show i*e+e=x.length+i*e by omega,List.drop_append,List.drop_eq_nil_of_le (as:=x) (by omega)]
    simp
theorem Z8r (hE:∀ t ti,E.ty t=some ti→ZN P t ti) (hh:HR E w0 G0 D w β G h) {t:TypeId} {ti:TI} (ht:ZN P t ti) (hk:ti.k ≠ .other) {da d:DV} {u:Value} (hx:Rep β G da u) (hd:Z2U ti h da=some d) :
    ∃ r,(Instr.loadAt t u).run P w = .ok r w∧Rep β G d r:=by
  unfold Z2U at hd
  split at hd
  · rename_i id off
    obtain ⟨b,hb,rfl⟩:=Z2C.1 hx
    obtain ⟨ob,ho,hd⟩:=Z0 hd
    split at hd
    · rename_i t' cs
      obtain ⟨b',vs,h1,h2,h3,h4,h5⟩:=hh.obj id _ ho
      rw [hb] at h1;cases h1
      obtain ⟨r,h6,h7⟩:=Z3n (w:=w) ht hk (b:=b) (o:=0) (n:=off) h3 (fun j v hj=>by
        rw [Nat.zero_add,cell_of_row w b j vs t' (0,0) h2];simpa using hj) hd
      rw [Nat.zero_add] at h6
      exact ⟨r,by simp [Instr.loadAt,Instr.sureAddr,h6],h7⟩
    · cases hd
  · rename_i id v i e off
    obtain ⟨b,m,c,hb,rfl⟩:=Z30.1 hx
    obtain ⟨ob,ho,hd⟩:=Z0 hd
    split at hd
    · rename_i t' es p uu
      obtain ⟨cc,hc,hd⟩:=Z0 hd
      obtain ⟨hq,hd2⟩:=Z2 hd
      clear hd
      simp only [Bool.and_eq_true] at hq
      have hu:uu=v:=Nat.eq_of_beq_eq_true hq.1
      have hce:cc.length=e:=Nat.eq_of_beq_eq_true hq.2
      subst hu
      obtain ⟨hdr,vals,h1,h2,h3,h4,h5,h6,h7⟩:=hh.obj id _ ho
      rw [hb] at h1;cases h1
      have hee:e=YJ E t':=by rw [←hce];exact (h4 cc (List.mem_of_getElem? hc)).1
      have hcells:=h2.cells (g:=b) rfl
      have hsub:=Yt e (Ys (i*e) h3)
      rw [Zbb (e:=e) (fun x hx=>by rw [hee];exact (h4 x hx).1) hc] at hsub
      obtain ⟨r,h8,h9⟩:=Z3n (w:=w) ht hk (b:=b) (o:=i*e) (n:=off) hsub (fun j v hj=>by
        have:=hcells (i*e+j) v (by
          rw [List.getElem?_take] at hj
          split at hj
          · simpa using hj
          · cases hj)
        rwa [Yo,Nat.zero_add] at this) hd2
      exact ⟨r,by simp [Instr.loadAt,Instr.sureAddr,h8],h9⟩
    · cases hd
  · rename_i cs
    obtain ⟨_,b,off,rfl,hp⟩:=Z51.1 hx
    obtain ⟨vs,h1,h2⟩:=Z7X hh.agree cs off hp
    obtain ⟨r,h3,h4⟩:=Z3n (w:=w) ht hk (b:=b) (o:=off) (n:=0) h1 h2 hd
    exact ⟨r,by simp [Instr.loadAt,Instr.sureAddr];exact h3,h4⟩
  · cases hd
theorem Z6h:∀ {cs:List DV} {b o:Nat} (n:Nat),Pub β G b o cs→Pub β G b (o+n) (cs.drop n)
  | [],_,_,n,_=>by simp [Pub]
  | _::_,_,_,0,h=>h
  | c::cs,b,o,n+1,h=>by
    unfold Pub at h
    have:=Z6h n h.2
    rw [show o+(n+1)=o+1+n by omega]
    exact this
theorem Z65:∀ {cs:List DV} (n:Nat),Za cs=true→Za (cs.drop n)=true
  | [],n,_=>by simp [Za]
  | _::_,0,h=>h
  | c::cs,n+1,h=>by
    have h':Zb c=true∧Za cs=true:=by simpa [Za] using h
    exact Z65 n h'.2
theorem Z57 {da d:DV} {u:Value} {n:Nat} (hx:Rep β G da u) (hd:Z19 da n=some d):∃ b,u = .pointer (some b)∧Rep β G d (.pointer (some (b.add n))):=by
  unfold Z19 at hd
  split at hd
  · obtain ⟨b,hb,rfl⟩:=Z2C.1 hx
    cases hd
    exact ⟨_,rfl,Z2C.2 ⟨b,hb,by rw [Yo]⟩⟩
  · obtain ⟨b,m,c,hb,rfl⟩:=Z30.1 hx
    cases hd
    exact ⟨_,rfl,Z30.2 ⟨b,m,c,hb,by rw [Yo,Nat.add_assoc]⟩⟩
  · obtain ⟨hf,b,off,rfl,hp⟩:=Z51.1 hx
    cases hd
    exact ⟨_,rfl,Z51.2 ⟨Z65 n hf,b,off+n,by rw [Yo],Z6h n hp⟩⟩
  · cases hd
theorem Z6v {t:TypeId} {ti:TI} (ht:ZN P t ti) {fs:List (Nat×Nat)} (hk:ti.k = .struct fs) {f ft off:Nat} (hf:fs[f]? = some (ft,off)) :
    ∃ fields fd,P.underlying t=some (.struct fields)∧fields[f]? = some fd∧fd.type=ft∧fd.offset=off:=by
  have hd:=ht.desc
  rw [hk] at hd
  obtain ⟨fields,h1,h2,_⟩:=hd
  rw [←h2,List.getElem?_map] at hf
  cases hq:fields.toList[f]? with
  | none=>rw [hq] at hf;cases hf
  | some fd =>
    rw [hq] at hf
    simp only [Option.map_some,Option.some.injEq,Prod.mk.injEq] at hf
    exact ⟨fields,fd,h1,by simpa using hq,hf.1,hf.2⟩
theorem Z9b (hE:∀ t ti,E.ty t=some ti→ZN P t ti) {t:TypeId} {ti:TI} (ht:ZN P t ti) {fs:List (Nat×Nat)} (hk:ti.k = .struct fs) {f ft off:Nat} (hf:fs[f]? = some (ft,off))
    {fi:TI} (hfi:E.ty ft=some fi) (hs:0<fi.size) {da d:DV} {u:Value} (hx:Rep β G da u) (hd:Z19 da off=some d) :
    ∃ r,(Instr.fieldAt t u f).run P w = .ok r w∧Rep β G d r:=by
  obtain ⟨fields,fd,h1,h2,h3,h4⟩:=Z6v ht hk hf
  obtain ⟨b,rfl,hr⟩:=Z57 hx hd
  have hz:=(hE ft fi hfi).run_sizeOf w
  refine ⟨_,?_,hr⟩
  have hsz:(sizeOf fd.type).run P w = .ok fi.size w:=by rw [h3];exact hz
  have hn:fi.size≠0:=by omega
  simp [Instr.fieldAt,Sem.run_bind,Go.run_underlying h1,h2,Instr.sureAddr,fieldPlace,hsz,hn,h4]
end
end Go.Ab
namespace Go.Ab
open Go.RowKit
section
variable {P:Program} {E:Env} {w0:World} {G0:Gh} {D:DD} {o:Oper} {a:Act} {w:World} {β:Bi} {G:Gh} {h:Nat→Option Z8} {nid:Nat} {ρ:Nat→Option DV}
theorem ZcV:∀ (cs:List DV) (n:Nat),Y5 cs n []=cs
  | [],0=>rfl
  | [],_+1=>rfl
  | _::_,0=>rfl
  | _::_,_+1=>rfl
theorem Yu:∀ (cs:List DV) (n:Nat) (vs:List DV),n+vs.length≤cs.length→Y5 cs n vs=cs.take n++vs++cs.drop (n+vs.length)
  | cs,n,[],_=>by rw [ZcV];simp
  | [],n,v::vs,h=>by simp at h
  | c::cs,0,v::vs,h=>by
    have:=Yu cs 0 vs (by simp at h ⊢;omega)
    simp only [Y5,this]
    simp
  | c::cs,n+1,v::vs,h=>by
    have:=Yu cs n (v::vs) (by simp at h ⊢;omega)
    simp only [Y5,this]
    simp [show n+1+(vs.length+1)=n+(vs.length+1)+1 by omega]
theorem Z44 (w:World) (g:Nat) (cs:Array Value) {k:Nat} (hk:k≠g):(w.setRow g cs).heap[k]? = w.heap[k]? := by
  simp only [World.setRow,Array.getElem?_modify]
  rw [if_neg (fun e=>hk e.symm)]
theorem Z5S {B:Nat} {x w:World} (hb:Below B x w) {g:Nat} (hg:B≤g) (cs:Array Value):Below B x (w.setRow g cs) :=
  hb.trans ⟨rfl,rfl,rfl,by simp,fun k hk=>Z44 w g cs (by omega)⟩
theorem Z5m {t:TypeId} {ti:TI} (ht:ZN P t ti) {v:Value} (hl:v.cells.size=ti.size) (b n:Nat) {vs:Array Value} {t':TypeId} (hg:w.heap[b]? = some (.cells vs t' (0,0)))
    (hle:n+ti.size≤vs.size) (h1:∀ x∈v.cells.toList,x.oneCell'=true) :
    (Instr.storeAt t (.pointer (some ⟨b,n,none⟩)) v).run P w = .ok () (w.setRow b (vs.toList.take n++v.cells.toList++vs.toList.drop (n+v.cells.toList.length)).toArray):=by
  have hs:=ht.run_sizeOf w
  have hst:=run_storeCells_at P b n t' v.cells.toList 0 vs w hg (by simp;omega) h1
  have hne:¬ v.cells.size≠ti.size:=by omega
  simp only [Instr.storeAt,Instr.sureAddr,storeVar,Sem.run_bind,Sem.run_pure,Result.andThen_ok,hs,hne,if_false]
  simpa using hst
theorem ZcT (xs cs:List DV) (n:Nat) (vs:List DV) (h:n+vs.length≤cs.length):Y5 (xs++cs) (xs.length+n) vs=xs++Y5 cs n vs:=by
  rw [Yu _ _ _ (by rw [List.length_append];omega),Yu _ _ _ h,List.take_length_add_append,show xs.length+n+vs.length=xs.length+(n+vs.length) by omega,List.drop_length_add_append]
  simp
theorem Zc1 (cs ds:List DV) (n:Nat) (vs:List DV) (h:n+vs.length≤cs.length):Y5 (cs++ds) n vs=Y5 cs n vs++ds:=by
  rw [Yu _ _ _ (by rw [List.length_append];omega),Yu _ _ _ h,List.take_append_of_le_length (by omega),List.drop_append_of_le_length h]
  simp
theorem ZcU (cs:List DV) (n:Nat) (vs:List DV) (h:n+vs.length≤cs.length):(Y5 cs n vs).length=cs.length:=by
  rw [Yu _ _ _ h];simp;omega
theorem Z7g {e:Nat}:∀ {es:List (List DV)} {i:Nat} {c:List DV} (vs:List DV) {off:Nat},(∀ y∈es,y.length=e)→es[i]? = some c→off+vs.length≤e →
    (es.set i (Y5 c off vs)).flatten=Y5 es.flatten (i*e+off) vs
  | [],i,c,vs,off,_,h,_=>by simp at h
  | x::es,0,c,vs,off,he,h,hl=>by
    simp only [List.getElem?_cons_zero,Option.some.injEq] at h
    subst h
    rw [List.set_cons_zero,List.flatten_cons,List.flatten_cons,Nat.zero_mul,Nat.zero_add,Zc1 _ _ _ _ (by rw [he x (by simp)];exact hl)]
  | x::es,i+1,c,vs,off,he,h,hl=>by
    have hx:x.length=e:=he x (by simp)
    have hc:es[i]? = some c:=by simpa using h
    have ih:=Z7g vs (fun y hy=>he y (by simp [hy])) hc hl
    rw [List.set_cons_succ,List.flatten_cons,List.flatten_cons,ih,show (i+1)*e+off=x.length+(i*e+off) by rw [hx,Nat.succ_mul];omega,ZcT]
    have hi:i<es.length:=(List.getElem?_eq_some_iff.1 hc).1
    have hlen:es.flatten.length=es.length*e:=by
      have:∀ (l:List (List DV)),(∀ y∈l,y.length=e)→l.flatten.length=l.length*e:=fun l=>by
        induction l with
        | nil=>intro _;simp
        | cons y l ih=>intro hl;rw [List.flatten_cons,List.length_append,ih (fun z hz=>hl z (by simp [hz])),hl y (by simp),List.length_cons,Nat.succ_mul];omega
      exact this es fun y hy=>he y (by simp [hy])
    rw [hlen]
    have:=Nat.mul_le_mul_right e hi
    rw [Nat.succ_mul] at this
    omega
theorem Zfx {α:Type} (cur V:List α) (k N:Nat) (h1:k+V.length≤N) (h2:N≤cur.length) :
    List.take N (cur.take k++V++cur.drop (k+V.length))=(cur.take N).take k++V++(cur.take N).drop (k+V.length):=by
  have hk:(cur.take k).length=k:=by rw [List.length_take];omega
  have e1:(cur.take N).take k=cur.take k:=by rw [List.take_take,Nat.min_eq_left (by omega)]
  have e2:(cur.take N).drop (k+V.length)=(cur.drop (k+V.length)).take (N-(k+V.length)):=List.drop_take
  rw [e1,e2,List.take_append,List.length_append,hk,List.take_of_length_le (l:=cur.take k++V) (by rw [List.length_append,hk];exact h1)]
theorem Z14:∀ {cs:List DV},Za cs=true↔∀ c∈cs,Zb c=true
  | []=>by simp [Za]
  | c::cs=>by simp [Za,Z14 (cs:=cs)]
theorem Zc4 (hh:HR E w0 G0 D w β G h) {t:TypeId} {ti:TI} (ht:ZN P t ti) {da dv:DV} {u v:Value} (hx:Rep β G da u) (hy:Rep β G dv v) {us:List (Nat×Option Z8)}
    (hd:Z4N ti h da dv=some us):∃ w',(Instr.storeAt t u v).run P w = .ok () w'∧HR E w0 G0 D w' β G (ZA h us)∧Z2M β β h (ZA h us) nid:=by
  unfold Z4N at hd
  obtain ⟨hq,hd⟩:=Z2 hd
  simp only [Bool.and_eq_true] at hq
  have hlen:(cellsOf dv).length=ti.size:=Nat.eq_of_beq_eq_true hq.1
  have hcs:=Z3B hy
  have hvl:v.cells.size=ti.size:=by have:=ZF hcs;simp at this;omega
  have hone:∀ x∈v.cells.toList,x.oneCell'=true:=Z5J hq.2 hcs
  have hkept:∀ {id:Nat} {o':Z8} {o:Z8},h id=some o→Z2M β β h (ZA h [(id,some o')]) nid:=fun {id o' o} ho i _ hf=>by
    refine ⟨?_,rfl,fun _=>rfl⟩
    rw [Y2]
    by_cases e:i=id
    · subst e;rw [hf] at ho;cases ho
    · rw [if_neg e];exact hf
  split at hd
  · rename_i id off _
    obtain ⟨b,hb,rfl⟩:=Z2C.1 hx
    obtain ⟨ob,ho,hd⟩:=Z0 hd
    split at hd
    · rename_i t' cs
      obtain ⟨hle,hd⟩:=Z2 hd
      cases hd
      have hle:off+ti.size≤cs.length:=Nat.le_of_ble_eq_true hle
      obtain ⟨b',vs,h1,h2,h3,h4,h5⟩:=hh.obj id _ ho
      rw [hb] at h1;cases h1
      have hvs:vs.size=cs.length:=by have:=ZF h3;simpa using this
      refine ⟨_,Z5m ht hvl b off h2 (by omega) hone,?_,hkept ho⟩
      have hsp:=Yu cs off (cellsOf dv) (by omega)
      refine hh.move (fun x=>x=b) id _ (Ext.refl β G) (Z5S hh.below (hh.own id _ b ho hb).1 _) (fun x hx _=>Z44 w b _ hx) (fun _ _=>rfl) (by simp) ?_ ?_ ?_ ?_ ?_ ?_ (fun _ _=>⟨rfl,fun _=>rfl⟩)
      · rintro x rfl;exact ⟨(hh.own id _ _ ho hb).1,(hh.own id _ _ ho hb).2.2⟩
      · rintro x id' o2 rfl ho2 hb2;exact hh.inj id' id o2 _ _ ho2 ho hb2 hb
      · rintro x rfl n y hg;rw [h5] at hg;cases hg
      · refine ⟨b,_,hb,setRow_heap w b vs _ t' (0,0) h2,?_,?_,h5⟩
        · rw [hsp]
          simp only [List.append_assoc]
          refine ZY.2 ⟨_,_,rfl,Yt _ h3,ZY.2 ⟨_,_,rfl,hcs,?_⟩⟩
          have:v.cells.toList.length=(cellsOf dv).length:=ZF hcs
          rw [this]
          exact Ys _ h3
        · rw [hsp]
          simp only [List.all_append,Bool.and_eq_true]
          refine ⟨⟨?_,hq.2⟩,?_⟩
          · rw [List.all_eq_true] at h4 ⊢;exact fun x hx=>h4 x (List.mem_of_mem_take hx)
          · rw [List.all_eq_true] at h4 ⊢;exact fun x hx=>h4 x (List.mem_of_mem_drop hx)
      · intro x hx;exact .inr ⟨_,ho,hx⟩
      · intro x hx
        have:=(hh.own id _ x ho hx).2.1
        simpa using this
    · cases hd
  · rename_i id ver i e off _
    obtain ⟨b,m,c,hb,rfl⟩:=Z30.1 hx
    obtain ⟨ob,ho,hd⟩:=Z0 hd
    split at hd
    · rename_i t' es p uu
      obtain ⟨cc,hc,hd⟩:=Z0 hd
      obtain ⟨hq2,hd2⟩:=Z2 hd
      clear hd
      cases hd2
      simp only [Bool.and_eq_true] at hq2
      obtain ⟨⟨⟨⟨hu,hce⟩,hp0⟩,hfree⟩,hle⟩:=hq2
      have hu:uu=ver:=Nat.eq_of_beq_eq_true hu
      have hce:cc.length=e:=Nat.eq_of_beq_eq_true hce
      have hp0:p=0:=Nat.eq_of_beq_eq_true hp0
      have hle:off+ti.size≤cc.length:=Nat.le_of_ble_eq_true hle
      subst hu hp0
      obtain ⟨hdr,vals,h1,h2,h3,h4,h5,h6,h7⟩:=hh.obj id _ ho
      rw [hb] at h1;cases h1
      have hee:e=YJ E t':=by rw [←hce];exact (h4 cc (List.mem_of_getElem? hc)).1
      have hi:i<es.length:=(List.getElem?_eq_some_iff.1 hc).1
      have hfl:=Z7g (e:=e) (off:=off) (cellsOf dv) (fun y hy=>by rw [hee];exact (h4 y hy).1) hc (by omega)
      rcases h2.2 with ⟨e1,_⟩|⟨g,cap,cur,e1,hg1,hg2,hg3,hg4,hg5,hg6⟩
      · cases e1
      · cases e1
        have hlen:vals.length=es.length*YJ E t':=h2.1
        have hflen:es.flatten.length=vals.length:=(ZF h3).symm
        have hin:=Nat.mul_le_mul_right e hi
        rw [Nat.succ_mul] at hin
        have hcm:=Nat.mul_le_mul_right e hg3
        have hown:Yl β id (.row t' es 0 uu) b:=⟨_,_,hb⟩
        have hgn:∀ o,G b o=none:=fun o=>h6 b rfl o (by simp [pn])
        have hvc:v.cells.toList.length=(cellsOf dv).length:=ZF hcs
        have hmul:es.length*YJ E t'=es.length*e:=by rw [hee]
        have hmul2:c*YJ E t'=c*e:=by rw [hee]
        refine ⟨_,Z5m ht hvl b (i*e+off) hg2 (by rw [hg5,hmul2];omega) hone,?_,hkept ho⟩
        have hsp:=Yu es.flatten (i*e+off) (cellsOf dv) (by omega)
        refine hh.move (fun x=>x=b) id _ (Ext.refl β G) (Z5S hh.below hg1 _) (fun x hx _=>Z44 w b _ hx) (fun _ _=>rfl) (by simp) ?_ ?_ ?_ ?_ ?_ ?_ (fun _ _=>⟨rfl,fun _=>rfl⟩)
        · rintro x rfl;exact ⟨(hh.own id _ _ ho hown).1,(hh.own id _ _ ho hown).2.2⟩
        · rintro x id' o2 rfl ho2 hb2;exact hh.inj id' id o2 _ _ ho2 ho hb2 hown
        · rintro x rfl n y hg;rw [hgn] at hg;cases hg
        · refine ⟨_,vals.take (i*e+off)++v.cells.toList++vals.drop (i*e+off+v.cells.toList.length),hb,⟨?_,.inr ⟨b,c,_,?_,hg1,setRow_heap w b cur _ t' (0,0) hg2,?_,hg4,?_,?_⟩⟩,?_,?_,⟨h5.1,Z8B _ _⟩,fun b' hb' o _ => ?_,h7⟩
          · simp only [List.length_append,List.length_take,List.length_drop,List.length_set];omega
          · rw [List.length_set]
          · rw [List.length_set];exact hg3
          · simp only [List.size_toArray,List.length_append,List.length_take,List.length_drop,Array.length_toList];omega
          · rw [List.length_set,←hg6]
            have hcl:cur.toList.length=c*e:=by rw [Array.length_toList,hg5,hmul2]
            exact Zfx cur.toList v.cells.toList (i*e+off) _ (by omega) (by omega)
          · rw [hfl,hsp]
            simp only [List.append_assoc]
            refine ZY.2 ⟨_,_,rfl,Yt _ h3,ZY.2 ⟨_,_,rfl,hcs,?_⟩⟩
            rw [hvc]
            exact Ys _ h3
          · intro y hy
            rcases List.mem_or_eq_of_mem_set hy with hy|rfl
            · exact h4 y hy
            · obtain ⟨q1,q2,q3⟩:=h4 cc (List.mem_of_getElem? hc)
              refine ⟨by rw [ZcU _ _ _ (by omega)];exact q1,?_,?_⟩
              · rw [Z14] at q2 hfree ⊢
                rw [Yu _ _ _ (by omega)]
                intro z hz
                simp only [List.mem_append] at hz
                rcases hz with (hz|hz)|hz
                · exact q2 z (List.mem_of_mem_take hz)
                · exact hfree z hz
                · exact q2 z (List.mem_of_mem_drop hz)
              · rw [Yu _ _ _ (by omega)]
                simp only [List.all_append,Bool.and_eq_true]
                refine ⟨⟨?_,hq.2⟩,?_⟩
                · rw [List.all_eq_true] at q3 ⊢;exact fun x hx=>q3 x (List.mem_of_mem_take hx)
                · rw [List.all_eq_true] at q3 ⊢;exact fun x hx=>q3 x (List.mem_of_mem_drop hx)
          · simp only [Value.ownBlock,Option.some.injEq] at hb'
            subst hb';exact hgn o
        · rintro x ⟨n',c',hx⟩;rw [hb] at hx;cases hx;exact .inl rfl
        · rintro x ⟨n',c',hx⟩;rw [hb] at hx;cases hx
          have:=(hh.own id _ _ ho hown).2.1
          simpa using this
    · cases hd
  · cases hd
theorem Z9u (hh:HR E w0 G0 D w β G h) (hf:ZJ β h nid) {t:TypeId} {cs:List DV} {vs:Array Value} (hr:Zd β G cs vs.toList) (hc:cs.all Zz=true) :
    ∃ β',Ext β G β' G∧β'.blk nid=some w.heap.size∧HR E w0 G0 D (w.alloc (.cells vs t)) β' G (ZA h [(nid,some (.cells t cs))])∧Z2M β β' h (ZA h [(nid,some (.cells t cs))]) nid:=by
  refine hh.lay hf (.cells vs t) (.cells t cs) (by intros;simp) (fun β' hx hb => ?_)
  exact ⟨w.heap.size,vs,hb,heap_alloc_new w _,Zd.mono hx _ _ hr,hc,fun o=>glt hh (Nat.le_refl _) o⟩
theorem Z8O (t:TypeId) (v:Value):(newVar t v).run P w = .ok ⟨w.heap.size,0,none⟩ (w.alloc (.cells v.cells t)):=by
  rfl
theorem ZaV (hh:HR E w0 G0 D w β G h) (hf:ZJ β h nid) {t:TypeId} {ti:TI} (ht:ZN P t ti) (ho:o.op = .alloc t) :
    Yb P E w0 G0 D o a w β G h nid ⟨some (.ptr nid 0),[(nid,some (.cells t ti.zero))]⟩:=by
  obtain ⟨z,hz,_,hr⟩:=ht.run_zero w
  obtain ⟨β',hx,hb,hh',hk⟩:=Z9u (t:=t) hh hf (hr β G) ht.zc
  refine ⟨.value (.pointer (some ⟨w.heap.size,0,none⟩)),_,w.alloc (.cells z.cells t),β',G,?_,.inl rfl,?_,hx,hh',hk⟩
  · unfold execOp;rw [ho];simp [Instr.alloc,Sem.run_bind,hz,Z8O]
  · intro d hd;cases hd;exact Z2C.2 ⟨_,hb,rfl⟩
theorem ZdT (hh:HR E w0 G0 D w β G h) (hf:ZJ β h nid) {t:TypeId} {x:Operand} {d:DV} (ho:o.op = .box t x) (hx:Rep β G d (a.eval x)) (hc:(cellsOf d).all Zz=true) :
    Yb P E w0 G0 D o a w β G h nid ⟨some (.ptr nid 0),[(nid,some (.cells t (cellsOf d)))]⟩:=by
  obtain ⟨β',hx',hb,hh',hk⟩:=Z9u (t:=t) hh hf (Z3B hx) hc
  refine ⟨.value (.pointer (some ⟨w.heap.size,0,none⟩)),_,w.alloc (.cells (a.eval x).cells t),β',G,?_,.inl rfl,?_,hx',hh',hk⟩
  · unfold execOp;rw [ho];simp [Instr.box,Z8O]
  · intro d hd;cases hd;exact Z2C.2 ⟨_,hb,rfl⟩
end
end Go.Ab
namespace Go.Ab
open Go.RowKit
section
variable {P:Program} {E:Env} {w0:World} {G0:Gh} {D:DD} {o:Oper} {a:Act} {w:World} {β:Bi} {G:Gh} {h:Nat→Option Z8} {nid:Nat} {ρ:Nat→Option DV}
theorem Zbe:∀ (us:List Value) (off k:Nat) (cells:Array Value),off+k+us.length≤cells.size →
    ((us.zipIdx k).foldl (fun cs (c,j)=>cs.setIfInBounds (off+j) c) cells).toList=cells.toList.take (off+k)++us++cells.toList.drop (off+k+us.length)
  | [],off,k,cells,_=>by simp
  | u::us,off,k,cells,h=>by
    have ih:=Zbe us off (k+1) (cells.setIfInBounds (off+k) u) (by simp at h ⊢;omega)
    simp only [List.zipIdx_cons,List.foldl_cons]
    rw [ih]
    have:=list_seg_step cells.toList (off+k) u us (by simp at h ⊢;omega)
    simpa [Array.toList_setIfInBounds,Nat.add_assoc] using this
theorem Z3R (us:Array Value) (off:Nat) (cells:Array Value) (h:off+us.size≤cells.size) :
    (us.zipIdx.foldl (fun cs (c,j)=>cs.setIfInBounds (off+j) c) cells).toList=cells.toList.take off++us.toList++cells.toList.drop (off+us.size):=by
  have:=Zbe us.toList off 0 cells (by simpa using h)
  rw [←Array.foldl_toList,Array.toList_zipIdx]
  simpa using this
def Z4f (β:Bi) (G:Gh):List (Nat×DV)→List (Nat×Value)→Prop
  | [],ps=>ps=[]
  | (i,d)::ds,ps=>∃ v ps',ps=(i,v)::ps'∧Rep β G d v∧Z4f β G ds ps'
theorem Z6N (hf:FrM β G ρ a.tmps):∀ {ps:List (Nat×Operand)} {ds:List (Nat×DV)},Z1O ρ ps=some ds→Z4f β G ds (ps.map fun (i,x)=>(i,a.eval x))
  | [],ds,hd=>by simp only [Z1O,Option.some.injEq] at hd;subst hd;rfl
  | (i,x)::ps,ds,hd=>by
    simp only [Z1O] at hd
    obtain ⟨d,h1,hd⟩:=Z0 hd
    obtain ⟨ds',h2,h3⟩:=Z0 hd
    cases h3
    exact ⟨_,_,rfl,Zq hf h1,Z6N hf h2⟩
theorem Z7o {cs us:List DV} {vs xs:List Value} {off:Nat} (hc:Zd β G cs vs) (hu:Zd β G us xs) (hl:off+us.length≤cs.length) :
    Zd β G (Y5 cs off us) (vs.take off++xs++vs.drop (off+xs.length)):=by
  rw [Yu cs off us hl,ZF hu,List.append_assoc,List.append_assoc]
  exact ZY.2 ⟨_,_,rfl,Yt _ hc,ZY.2 ⟨_,_,rfl,hu,Ys _ hc⟩⟩
theorem Z48 {size:Nat}:∀ {ds:List (Nat×DV)} {ps:List (Nat×Value)} {cs res:List DV} {vs:Array Value},Z4f β G ds ps→Zd β G cs vs.toList →
    Z1w size ds cs=some res→∃ out,Instr.fill (fun i=>some (i*size,size)) vs ps=some out∧Zd β G res out.toList
  | [],ps,cs,res,vs,hp,hc,hd=>by
    simp only [Z4f] at hp;subst hp
    simp only [Z1w,Option.some.injEq] at hd;subst hd
    exact ⟨vs,rfl,hc⟩
  | (i,d)::ds,_,cs,res,vs,⟨v,ps',hps,hv,hp⟩,hc,hd=>by
    subst hps
    simp only [Z1w] at hd
    obtain ⟨hq,hd⟩:=Z2 hd
    simp only [Bool.and_eq_true] at hq
    have h1:(cellsOf d).length=size:=Nat.eq_of_beq_eq_true hq.1
    have h2:i*size+size≤cs.length:=Nat.le_of_ble_eq_true hq.2
    have hcv:=Z3B hv
    have hvl:v.cells.size=size:=by have:=ZF hcv;simp at this;omega
    have hvs:vs.size=cs.length:=by have:=ZF hc;simpa using this
    have hrep:=Z7o (off:=i*size) hc hcv (by omega)
    have hfo:=Z3R v.cells (i*size) vs (by omega)
    have hrep2:Zd β G (Y5 cs (i*size) (cellsOf d)) (v.cells.zipIdx.foldl (fun cs (c,j)=>cs.setIfInBounds (i*size+j) c) vs).toList:=by
      rw [hfo];simpa using hrep
    obtain ⟨out,h3,h4⟩:=Z48 hp hrep2 hd
    refine ⟨out,?_,h4⟩
    have hn:(v.cells.size≠size||i*size+v.cells.size>vs.size)=false:=by simp;omega
    simp only [Instr.fill,hn,Bool.false_eq_true,if_false]
    exact h3
theorem Z3w {fs:List (Nat×Nat)} (place:Nat→Option (Nat×Nat)) (hpl:∀ i ft off ti,fs[i]? = some (ft,off)→E.ty ft=some ti→place i=some (off,ti.size)) :
    ∀ {ds:List (Nat×DV)} {ps:List (Nat×Value)} {cs res:List DV} {vs:Array Value},Z4f β G ds ps→Zd β G cs vs.toList →
    Z13 fs E ds cs=some res→∃ out,Instr.fill place vs ps=some out∧Zd β G res out.toList
  | [],ps,cs,res,vs,hp,hc,hd=>by
    simp only [Z4f] at hp;subst hp
    simp only [Z13,Option.some.injEq] at hd;subst hd
    exact ⟨vs,rfl,hc⟩
  | (i,d)::ds,_,cs,res,vs,⟨v,ps',hps,hv,hp⟩,hc,hd=>by
    subst hps
    simp only [Z13] at hd
    obtain ⟨⟨ft,off⟩,hf,hd⟩:=Z0 hd
    obtain ⟨ti,hti,hd⟩:=Z0 hd
    obtain ⟨hq,hd⟩:=Z2 hd
    simp only [Bool.and_eq_true] at hq
    have h1:(cellsOf d).length=ti.size:=Nat.eq_of_beq_eq_true hq.1
    have h2:off+ti.size≤cs.length:=Nat.le_of_ble_eq_true hq.2
    have hcv:=Z3B hv
    have hvl:v.cells.size=ti.size:=by have:=ZF hcv;simp at this;omega
    have hvs:vs.size=cs.length:=by have:=ZF hc;simpa using this
    have hrep:=Z7o (off:=off) hc hcv (by omega)
    have hfo:=Z3R v.cells off vs (by omega)
    have hrep2:Zd β G (Y5 cs off (cellsOf d)) (v.cells.zipIdx.foldl (fun cs (c,j)=>cs.setIfInBounds (off+j) c) vs).toList:=by
      rw [hfo];simpa using hrep
    obtain ⟨out,h3,h4⟩:=Z3w place hpl hp hrep2 hd
    refine ⟨out,?_,h4⟩
    have hn:(v.cells.size≠ti.size||off+v.cells.size>vs.size)=false:=by simp;omega
    simp only [Instr.fill,hpl i ft off ti hf hti,hn,Bool.false_eq_true,if_false]
    exact h3
theorem Zbt {α γ:Type} {f:α→Option γ}:∀ {l:List α} {r:List γ},l.mapM f=some r→∀ {i:Nat} {x:α},l[i]? = some x→f x=r[i]?
  | [],_,_,i,x,hx=>by simp at hx
  | y::l,r,h,i,x,hx=>by
    simp only [List.mapM_cons,Option.bind_eq_bind,Option.pure_def] at h
    obtain ⟨z,h1,h⟩:=Z0 h
    obtain ⟨zs,h2,h⟩:=Z0 h
    cases h
    cases i with
    | zero=>simp at hx;subst hx;simpa using h1
    | succ i=>simpa using Zbt h2 (i:=i) (x:=x) (by simpa using hx)
theorem Zb0 (hE:∀ t ti,E.ty t=some ti→ZN P t ti) (hf:FrM β G ρ a.tmps) {t:TypeId} {ps:Array (Nat×Operand)} {d:DV}
    (hd:((E.ty t).bind fun ti=>(Z1O ρ ps.toList).bind fun vs=>match ti.k with
      | .struct fs=>(Z13 fs E vs ti.zero).bind fun cs=>ret (.agg cs)
      | .array _ e=>(E.ty e).bind fun ei=>(Z1w ei.size vs ti.zero).bind fun cs=>ret (.agg cs)
      | _=>none)=some ⟨some d,[]⟩) :
    ∃ r,(Instr.build t (ps.map fun (i,x)=>(i,a.eval x))).run P w = .ok r w∧Rep β G d r:=by
  obtain ⟨ti,hti,hd⟩:=Z0 hd
  obtain ⟨vs,hvs,hd⟩:=Z0 hd
  have ht:=hE t ti hti
  have hp:=Z6N hf hvs
  have hpl:(ps.map fun (i,x)=>(i,a.eval x)).toList=ps.toList.map fun (i,x)=>(i,a.eval x):=by simp
  obtain ⟨it,z,h1,h2,_,h4,h5,h6⟩:=ht.info
  split at hd
  · rename_i fs hk
    obtain ⟨cs,hcs,hd⟩:=Z0 hd
    cases hd
    have hdesc:=ht.desc
    rw [hk] at hdesc
    obtain ⟨fields,hu,hfs,places,hplc⟩:=hdesc
    obtain ⟨out,h7,h8⟩:=Z3w (E:=E) (fs:=fs) (fun i=>places.toArray[i]?) (fun i ft off fi hif hfi=>by
      rw [←hfs,List.getElem?_map] at hif
      cases hq:fields.toList[i]? with
      | none=>rw [hq] at hif;cases hif
      | some fd =>
        rw [hq] at hif
        simp only [Option.map_some,Option.some.injEq,Prod.mk.injEq] at hif
        obtain ⟨e1,e2⟩:=hif
        obtain ⟨ii,zz,k1,k2,_⟩:=(hE ft fi hfi).info
        have:=Zbt hplc hq
        rw [e1,k1] at this
        simp only [Option.map_some,Option.some.injEq] at this
        simp [←this,e2,k2]) hp (h6 β G) hcs
    refine ⟨.agg out,run_build w t _ out ?_,Yx.2 ⟨out.toList,by simp,h8⟩⟩
    rw [hpl]
    simp only [Program.built,h1,hu,h4,hplc]
    exact h7
  · rename_i n e hk
    obtain ⟨ei,hei,hd⟩:=Z0 hd
    obtain ⟨cs,hcs,hd⟩:=Z0 hd
    cases hd
    have hdesc:=ht.desc
    rw [hk] at hdesc
    obtain ⟨ie,ze,k1,k2,_⟩:=(hE e ei hei).info
    obtain ⟨out,h7,h8⟩:=Z48 hp (h6 β G) hcs
    refine ⟨.agg out,run_build w t _ out ?_,Yx.2 ⟨out.toList,by simp,h8⟩⟩
    rw [hpl]
    simp only [Program.built,h1,hdesc,h4,k1,k2]
    exact h7
  · cases hd
end
end Go.Ab
namespace Go.Ab
open Go.RowKit
section
variable {P:Program} {E:Env} {w0:World} {G0:Gh} {D:DD} {w:World} {β:Bi} {G:Gh} {h:Nat→Option Z8}
def Z2d (G:Gh) (g:Nat) (vals:List Value):Gh:=fun b o=>if b=g then (if o<vals.length then vals[o]? else G b o) else G b o
def Z3b (E:Env) (β:Bi) (G:Gh) (h:Nat→Option Z8) (id:Nat):Prop :=
  ∀ t es p u,h id=some (.row t es p u)→∃ hdr,β.hdr id u=some hdr∧∃ a c,(hdr = .slice a es.length c∧es.length≤c)∧(es=[]∨∃ b,a=some ⟨b,0,none⟩∧Yk β G b (YJ E t) 0 es)
theorem Z4E {g:Nat}:∀ {cs:List DV} {vs:List Value} {o:Nat},Zd β G cs vs→(∀ j v,vs[j]? = some v→G g (o+j)=some v)→Pub β G g o cs
  | [],_,_,_,_=>by unfold Pub;trivial
  | c::cs,_,o,hr,hv=>by
    obtain ⟨v,vs',rfl,h1,h2⟩:=Zc.1 hr
    unfold Pub
    refine ⟨⟨v,by simpa using hv 0 v rfl,h1⟩,Z4E h2 (fun j u hj => ?_)⟩
    rw [show o+1+j=o+(j+1) by omega]
    exact hv (j+1) u (by simpa using hj)
theorem Z6g {g e:Nat}:∀ {es:List (List DV)} {vs:List Value} {o:Nat},Zd β G es.flatten vs→(∀ c∈es,c.length=e∧Za c=true∧c.all Zz=true)→(∀ j v,vs[j]? = some v→G g (o+j)=some v)→Yk β G g e o es
  | [],_,_,_,_,_=>by unfold Yk;trivial
  | c::cs,_,o,hr,hc,hv=>by
    rw [List.flatten_cons] at hr
    obtain ⟨as,bs,rfl,h1,h2⟩:=ZY.1 hr
    obtain ⟨hl,hfr⟩:=hc c (by simp)
    have hla:=ZF h1
    unfold Yk
    refine ⟨hl,hfr,Z4E h1 (fun j v hj=>hv j v ?_),Z6g h2 (fun x hx=>hc x (by simp [hx])) (fun j v hj => ?_)⟩
    · have hjl:j<as.length:=(List.getElem?_eq_some_iff.1 hj).1
      rw [List.getElem?_append_left hjl];exact hj
    · have:=hv (e+j) v (by rw [List.getElem?_append_right (by omega)];rw [show e+j-as.length=j by omega];exact hj)
      rwa [show o+e+j=o+(e+j) by omega]
theorem Zft (hh:HR E w0 G0 D w β G h) {id:Nat} {t:TypeId} {es:List (List DV)} {p u:Nat} (ho:h id=some (.row t es p u)) :
    ∃ G',Ext β G β G'∧HR E w0 G0 D w β G' (ZA h [(id,some (.row t es 1 u))])∧Z3b E β G' (ZA h [(id,some (.row t es 1 u))]) id:=by
  obtain ⟨hdr,vals,h1,h2,h3,h4,h5,h6,h7⟩:=hh.obj id _ ho
  rcases h2.2 with ⟨rfl,hn⟩|⟨g,cap,cur,rfl,hg1,hg2,hg3,hg4,hg5,hg6⟩
  · have hes:es=[]:=List.eq_nil_of_length_eq_zero hn
    refine ⟨G,Ext.refl β G,?_,fun t' es' p' u' hq => ?_⟩
    · refine hh.move (fun _=>False) id _ (Ext.refl β G) hh.below (fun _ _ _=>rfl) (fun _ _=>rfl) (Nat.le_refl _) (fun _ hf=>hf.elim) (fun _ _ _ hf=>hf.elim) (fun _ hf=>hf.elim) ?_ ?_ ?_ (fun _ _=>⟨rfl,fun _=>rfl⟩)
      · exact ⟨_,vals,h1,h2,h3,h4,⟨h5.1,Z8B _ _⟩,fun b hb=>by simp [Value.ownBlock] at hb,h7⟩
      · rintro b ⟨n,c,hb⟩;rw [h1] at hb;cases hb
      · rintro b ⟨n,c,hb⟩;rw [h1] at hb;cases hb
    · rw [Y2,if_pos rfl] at hq;cases hq
      exact ⟨_,h1,none,0,⟨by rw [hes];rfl,by rw [hes];exact Nat.le_refl _⟩,.inl hes⟩
  · have hown:Yl β id (.row t es p u) g:=⟨es.length,cap,h1⟩
    obtain ⟨hb0,hb1,hb2⟩:=hh.own id _ g ho hown
    have hlen:vals.length=es.length*YJ E t:=h2.1
    have hcell:=h2.cells (g:=g) rfl
    have hx:Ext β G β (Z2d G g vals):=⟨fun b o v hg=>by
      unfold Z2d
      by_cases e:b=g
      · rw [if_pos e]
        by_cases hl:o<vals.length
        · rw [if_pos hl]
          have:=hh.agree b o v hg
          subst e
          have hc:=hcell o (vals[o]) (by simp [hl])
          rw [Yo,Nat.zero_add] at hc
          rw [hc] at this
          cases this
          simp [hl]
        · rw [if_neg hl];exact hg
      · rw [if_neg e];exact hg,fun _ _ h=>h,fun _ _ _ h=>h⟩
    refine ⟨Z2d G g vals,hx,?_,fun t' es' p' u' hq => ?_⟩
    · refine hh.move (fun b=>b=g) id _ hx hh.below (fun _ _ _=>rfl) (fun b hb=>by funext o;unfold Z2d;rw [if_neg hb]) (Nat.le_refl _) ?_ ?_ ?_ ?_ ?_ ?_ (fun _ _=>⟨rfl,fun _=>rfl⟩)
      · rintro b rfl;exact ⟨hb0,hb2⟩
      · rintro b id' o2 rfl ho2 hb2;exact hh.inj id' id o2 _ _ ho2 ho hb2 hown
      · rintro b rfl o v hg
        unfold Z2d at hg
        rw [if_pos rfl] at hg
        by_cases hl:o<vals.length
        · rw [if_pos hl] at hg
          have:=hcell o v hg
          rwa [Yo,Nat.zero_add] at this
        · rw [if_neg hl] at hg;exact hh.agree _ _ _ hg
      · refine ⟨_,vals,h1,h2,Zd.mono hx _ _ h3,h4,⟨h5.1,Z8B _ _⟩,fun b hb o hoo => ?_,h7⟩
        replace hoo:es.length*YJ E t≤o:=hoo
        simp only [Value.ownBlock,Option.some.injEq] at hb
        subst hb
        unfold Z2d
        rw [if_pos rfl,if_neg (by omega)]
        refine h6 _ rfl o (Nat.le_trans ?_ hoo)
        exact Nat.mul_le_mul_right _ h5.2
      · intro b hb;exact .inr ⟨_,ho,hb⟩
      · rintro b ⟨n,c,hb⟩;rw [h1] at hb;cases hb;exact hb1
    · rw [Y2,if_pos rfl] at hq;cases hq
      refine ⟨_,h1,_,cap,⟨rfl,hg3⟩,.inr ⟨g,rfl,Z6g (Zd.mono hx _ _ h3) h4 (fun j v hj => ?_)⟩⟩
      have hjl:j<vals.length:=(List.getElem?_eq_some_iff.1 hj).1
      unfold Z2d
      rw [if_pos rfl,Nat.zero_add,if_pos hjl];exact hj
theorem Z9V (h:Nat→Option Z8) (x:Nat×Option Z8) (us:List (Nat×Option Z8)) (i:Nat) :
    ZA h (x::us) i=match Zp i us with|some y=>y|none=>if i=x.1 then x.2 else h i:=by
  unfold ZA
  obtain ⟨id,o⟩:=x
  simp only [Zp]
  cases hq:Zp i us with
  | some y=>rfl
  | none =>
    by_cases e:i=id
    · subst e;simp
    · have:Nat.beq id i=false:=by
        cases hb:Nat.beq id i with
        | false=>rfl
        | true=>exact absurd (Nat.eq_of_beq_eq_true hb).symm e
      simp [this,e]
theorem Y1 (h:Nat→Option Z8):∀ (is:List Nat) (i:Nat) (y:Option Z8),Zp i (Zn h is)=some y→∃ t es p u,h i=some (.row t es p u)∧y=some (.row t es 1 u)
  | [],i,y,hy=>by simp [Zn,Zp] at hy
  | j::is,i,y,hy=>by
    simp only [Zn] at hy
    split at hy
    · rename_i t es p u hj
      cases hp1:Nat.beq p 1 with
      | true=>rw [hp1] at hy;exact Y1 h is i y (by simpa using hy)
      | false =>
      rw [hp1] at hy
      simp only [cond_false,List.singleton_append,Zp] at hy
      cases hq:Zp i (Zn h is) with
      | some z =>
        rw [hq] at hy;cases hy
        exact Y1 h is i y hq
      | none =>
        rw [hq] at hy
        simp only at hy
        cases hb:Nat.beq j i with
        | false=>rw [hb] at hy;cases hy
        | true =>
          rw [hb] at hy;cases hy
          have:=Nat.eq_of_beq_eq_true hb
          subst this
          exact ⟨t,es,p,u,hj,rfl⟩
    · exact Y1 h is i y (by simpa using hy)
theorem Z3b.mono {β':Bi} {G':Gh} {id:Nat} (hx:Ext β G β' G') (hs:Z3b E β G h id):Z3b E β' G' h id:=fun t es p u hq=>by
  obtain ⟨hdr,h1,a,c,h2,h3⟩:=hs t es p u hq
  refine ⟨hdr,hx.hdr _ _ _ h1,a,c,h2,?_⟩
  rcases h3 with h3|⟨b,h3,h4⟩
  · exact .inl h3
  · exact .inr ⟨b,h3,Yk.mono hx _ _ _ _ h4⟩
theorem Z1R (hh:HR E w0 G0 D w β G h):∀ (is:List Nat),∃ G',Ext β G β G'∧HR E w0 G0 D w β G' (ZA h (Zn h is))∧∀ i∈is,Z3b E β G' (ZA h (Zn h is)) i
  | []=>⟨G,Ext.refl β G,hh,fun i hi=>by cases hi⟩
  | j::is=>by
    obtain ⟨G1,hx1,hh1,hs1⟩:=Z1R hh is
    simp only [Zn]
    split
    · rename_i t es p u hj
      have hrow:∃ p',ZA h (Zn h is) j=some (.row t es p' u):=by
        unfold ZA
        cases hq:Zp j (Zn h is) with
        | none=>exact ⟨p,hj⟩
        | some y =>
          obtain ⟨t',es',p',u',k1,k2⟩:=Y1 h is j y hq
          rw [hj] at k1;cases k1
          exact ⟨_,k2⟩
      obtain ⟨p',hp'⟩:=hrow
      obtain ⟨G2,hx2,hh2,hs2⟩:=Zft hh1 hp'
      cases hp1:Nat.beq p 1 with
      | true =>
        have hp1:p=1:=Nat.eq_of_beq_eq_true hp1
        subst hp1
        have hp1':p'=1:=by
          unfold ZA at hp'
          cases hq:Zp j (Zn h is) with
          | none=>rw [hq] at hp';simp only at hp';rw [hj] at hp';cases hp';rfl
          | some y =>
            obtain ⟨t',es',p'',u',k1,k2⟩:=Y1 h is j y hq
            rw [hq] at hp';simp only at hp';rw [k2] at hp';cases hp';rfl
        subst hp1'
        simp only [cond_true,List.nil_append]
        have heq:∀ i,ZA h (Zn h is) i=ZA (ZA h (Zn h is)) [(j,some (.row t es 1 u))] i:=fun i=>by
          rw [Y2]
          by_cases e:i=j
          · rw [if_pos e,e];exact hp'
          · rw [if_neg e]
        refine ⟨G2,hx1.trans hx2,hh2.eq heq,fun i hi => ?_⟩
        intro t' es' p'' u' hq
        by_cases e:i=j
        · subst e
          exact hs2 t' es' p'' u' ((heq i).symm.trans hq)
        · rcases List.mem_cons.1 hi with rfl|hi
          · exact absurd rfl e
          · exact (hs1 i hi).mono hx2 t' es' p'' u' hq
      | false =>
      simp only [cond_false]
      have heq:∀ i,ZA h ([(j,some (.row t es 1 u))]++Zn h is) i=ZA (ZA h (Zn h is)) [(j,some (.row t es 1 u))] i:=fun i=>by
        rw [Y2,List.singleton_append,Z9V]
        unfold ZA
        by_cases e:i=j
        · subst e
          rw [if_pos rfl]
          cases hq:Zp i (Zn h is) with
          | none=>simp
          | some y =>
            obtain ⟨t',es',p',u',k1,k2⟩:=Y1 h is i y hq
            rw [hj] at k1;cases k1
            simp [k2]
        · rw [if_neg e]
          cases hq:Zp i (Zn h is) with
          | none=>simp [e]
          | some y=>simp [e]
      refine ⟨G2,hx1.trans hx2,hh2.eq heq,fun i hi => ?_⟩
      have hsh:Z3b E β G2 (ZA (ZA h (Zn h is)) [(j,some (.row t es 1 u))]) i:=by
        rcases List.mem_cons.1 hi with rfl|hi
        · exact hs2
        · intro t' es' p'' u' hq
          rw [Y2] at hq
          by_cases e:i=j
          · subst e;exact hs2 t' es' p'' u' (by rw [Y2];exact hq)
          · rw [if_neg e] at hq;exact (hs1 i hi).mono hx2 t' es' p'' u' hq
      intro t' es' p'' u' hq
      rw [heq i] at hq
      exact hsh t' es' p'' u' hq
    · rename_i hj
      refine ⟨G1,hx1,by simpa using hh1,fun i hi => ?_⟩
      rw [List.nil_append]
      rcases List.mem_cons.1 hi with rfl|hi
      · intro t es p u hq
        exfalso
        unfold ZA at hq
        cases hf:Zp i (Zn h is) with
        | none=>rw [hf] at hq;exact hj t es p u hq
        | some y =>
          obtain ⟨t',es',p',u',k1,_⟩:=Y1 h is i y hf
          exact hj t' es' p' u' k1
      · exact hs1 i hi
mutual
theorem Z64 {h':Nat→Option Z8} {G':Gh} (hx:Ext β G β G') (hsame:∀ i t es p u,h i=some (.row t es p u)→∃ p',h' i=some (.row t es p' u)) :
    ∀ {d d':DV} {v:Value},frz h d=some d'→(∀ i∈Ze d,Z3b E β G' h' i)→Rep β G d v→Rep β G' d' v∧Zb d'=true
  | .rs id ver,d',v,hd,hs,hr=>by
    simp only [frz] at hd
    obtain ⟨ob,ho,hd⟩:=Z0 hd
    split at hd
    · rename_i t es p u
      obtain ⟨hu,hd⟩:=Z2 hd
      cases hd
      have hu:u=ver:=Nat.eq_of_beq_eq_true hu
      subst hu
      obtain ⟨p',hp'⟩:=hsame _ _ _ _ _ ho
      obtain ⟨hdr,h1,a,c,h2,h3⟩:=hs id (by simp [Ze]) _ _ _ _ hp'
      obtain ⟨h4,_⟩:=Z3q.1 hr
      rw [h1] at h4;cases h4
      refine ⟨Z5L.2 ⟨a,c,h2,?_⟩,rfl⟩
      rcases h3 with h3|⟨b,h3,h4⟩
      · exact .inl h3
      · exact .inr ⟨b,0,_,h3,h4⟩
    · cases hd
  | .agg cs,d',v,hd,hs,hr=>by
    simp only [frz] at hd
    obtain ⟨cs',hc,hd⟩:=Z0 hd
    cases hd
    obtain ⟨vs,rfl,hr2⟩:=Yx.1 hr
    obtain ⟨k1,k2⟩:=Z4o hx hsame hc (by simpa [Ze] using hs) hr2
    exact ⟨Yx.2 ⟨vs,rfl,k1⟩,by simpa [Zb] using k2⟩
  | .tup cs,d',v,hd,hs,hr=>by
    simp only [frz] at hd
    obtain ⟨cs',hc,hd⟩:=Z0 hd
    cases hd
    obtain ⟨vs,rfl,hr2⟩:=YX.1 hr
    obtain ⟨k1,k2⟩:=Z4o hx hsame hc (by simpa [Ze] using hs) hr2
    exact ⟨YX.2 ⟨vs,rfl,k1⟩,by simpa [Zb] using k2⟩
  | .iface t x,d',v,hd,hs,hr=>by
    simp only [frz] at hd
    obtain ⟨x',hc,hd⟩:=Z0 hd
    cases hd
    unfold Rep at hr
    obtain ⟨u,rfl,hr2⟩:=hr
    obtain ⟨k1,k2⟩:=Z64 hx hsame hc (by simpa [Ze] using hs) hr2
    refine ⟨?_,by simpa [Zb] using k2⟩
    unfold Rep
    exact ⟨u,rfl,k1⟩
  | .bool _,d',v,hd,_,hr=>by simp only [frz,Zb,cond_true,Option.some.injEq] at hd;subst hd;exact ⟨Rep.mono hx _ _ hr,rfl⟩
  | .int _ _,d',v,hd,_,hr=>by simp only [frz,Zb,cond_true,Option.some.injEq] at hd;subst hd;exact ⟨Rep.mono hx _ _ hr,rfl⟩
  | .str _,d',v,hd,_,hr=>by simp only [frz,Zb,cond_true,Option.some.injEq] at hd;subst hd;exact ⟨Rep.mono hx _ _ hr,rfl⟩
  | .nilp,d',v,hd,_,hr=>by simp only [frz,Zb,cond_true,Option.some.injEq] at hd;subst hd;exact ⟨Rep.mono hx _ _ hr,rfl⟩
  | .ptr _ _,d',v,hd,_,hr=>by simp [frz,Zb] at hd
  | .rptr _ _ _ _ _,d',v,hd,_,hr=>by simp [frz,Zb] at hd
  | .pub _,d',v,hd,_,hr=>by simp [frz,Zb] at hd
  | .nils,d',v,hd,_,hr=>by
    simp only [frz,Option.some.injEq] at hd
    subst hd
    unfold Rep at hr
    exact ⟨Z5L.2 ⟨none,0,⟨hr,Nat.le_refl _⟩,.inl rfl⟩,rfl⟩
  | .sl _,d',v,hd,_,hr=>by simp only [frz,Zb,cond_true,Option.some.injEq] at hd;subst hd;exact ⟨Rep.mono hx _ _ hr,rfl⟩
  | .fn f x c,d',v,hd,_,hr=>by
    simp only [frz] at hd
    obtain ⟨hi,hd⟩:=Z2 hd
    cases hd
    exact ⟨Rep.mono hx _ _ hr,hi⟩
  | .nilfn,d',v,hd,_,hr=>by simp only [frz,Zb,cond_true,Option.some.injEq] at hd;subst hd;exact ⟨Rep.mono hx _ _ hr,rfl⟩
  | .map _,d',v,hd,_,hr=>by simp [frz,Zb] at hd
  | .nilmap,d',v,hd,_,hr=>by simp only [frz,Zb,cond_true,Option.some.injEq] at hd;subst hd;exact ⟨Rep.mono hx _ _ hr,rfl⟩
  | .nilif,d',v,hd,_,hr=>by simp only [frz,Zb,cond_true,Option.some.injEq] at hd;subst hd;exact ⟨Rep.mono hx _ _ hr,rfl⟩
  | .iter _,d',v,hd,_,hr=>by simp [frz,Zb] at hd
  | .yld _,d',v,hd,_,hr=>by simp [frz,Zb] at hd
theorem Z4o {h':Nat→Option Z8} {G':Gh} (hx:Ext β G β G') (hsame:∀ i t es p u,h i=some (.row t es p u)→∃ p',h' i=some (.row t es p' u)) :
    ∀ {ds ds':List DV} {vs:List Value},Z1o h ds=some ds'→(∀ i∈Zf ds,Z3b E β G' h' i)→Zd β G ds vs→Zd β G' ds' vs∧Za ds'=true
  | [],ds',vs,hd,_,hr=>by simp only [Z1o,Option.some.injEq] at hd;subst hd;rw [Zo] at hr;subst hr;exact ⟨Zo.2 rfl,rfl⟩
  | d::ds,ds',vs,hd,hs,hr=>by
    simp only [Z1o] at hd
    obtain ⟨d1,h1,hd⟩:=Z0 hd
    obtain ⟨ds1,h2,hd⟩:=Z0 hd
    cases hd
    obtain ⟨v,vs',rfl,hr1,hr2⟩:=Zc.1 hr
    obtain ⟨k1,k2⟩:=Z64 hx hsame h1 (fun i hi=>hs i (by simp [Zf,hi])) hr1
    obtain ⟨k3,k4⟩:=Z4o hx hsame h2 (fun i hi=>hs i (by simp [Zf,hi])) hr2
    exact ⟨Zc.2 ⟨v,vs',rfl,k1,k3⟩,by simp [Za,k2,k4]⟩
end
theorem Z3G (h:Nat→Option Z8) (is:List Nat):∀ i t es p u,h i=some (.row t es p u)→∃ p',ZA h (Zn h is) i=some (.row t es p' u):=fun i t es p u hi=>by
  unfold ZA
  cases hq:Zp i (Zn h is) with
  | none=>exact ⟨p,hi⟩
  | some y =>
    obtain ⟨t',es',p',u',k1,k2⟩:=Y1 h is i y hq
    rw [hi] at k1;cases k1
    exact ⟨_,k2⟩
theorem Z70 {nid:Nat} (is:List Nat):Z2M β β h (ZA h (Zn h is)) nid:=fun i _ hf=>by
  refine ⟨?_,rfl,fun _=>rfl⟩
  unfold ZA
  cases hq:Zp i (Zn h is) with
  | none=>exact hf
  | some y =>
    obtain ⟨t',es',p',u',k1,k2⟩:=Y1 h is i y hq
    rw [hf] at k1;cases k1
end
end Go.Ab
namespace Go.Ab
open Go.RowKit
section
variable {P:Program} {E:Env} {w0:World} {G0:Gh} {D:DD} {o:Oper} {a:Act} {w:World} {β:Bi} {G:Gh} {h:Nat→Option Z8} {nid:Nat} {ρ:Nat→Option DV}
theorem Z7b (hh:HR E w0 G0 D w β G h) {d:DV} {es:List (List DV)} {v:Value} (hd:Ym h d=some es) (hr:Rep β G d v) :
    ∃ A c,v = .slice A es.length c∧es.length≤c∧(es=[]∨∃ b off e vals,A=some ⟨b,off,none⟩∧(∀ x∈es,x.length=e∧Za x=true∧x.all Zz=true)∧Zd β G es.flatten vals ∧
      ∀ j u,vals[j]? = some u→w.cell? ⟨b,off+j,none⟩=some u):=by
  unfold Ym at hd
  split at hd
  · cases hd
    rw [Z2f] at hr
    exact ⟨none,0,hr,Nat.le_refl _,.inl rfl⟩
  · cases hd
    obtain ⟨A,c,⟨rfl,hle⟩,h1⟩:=Z5L.1 hr
    refine ⟨A,c,rfl,hle,?_⟩
    rcases h1 with h1|⟨b,off,e,h1,h2⟩
    · exact .inl h1
    · refine .inr ⟨b,off,e,?_⟩
      have key:∀ (es:List (List DV)) (off:Nat),Yk β G b e off es→∃ vals,(∀ x∈es,x.length=e∧Za x=true∧x.all Zz=true)∧Zd β G es.flatten vals∧∀ j u,vals[j]? = some u→w.cell? ⟨b,off+j,none⟩=some u:=by
        intro es
        induction es with
        | nil=>intro off _;exact ⟨[],by simp,Zo.2 rfl,by simp⟩
        | cons x xs ih =>
          intro off hp
          unfold Yk at hp
          obtain ⟨k1,k2,k3,k4⟩:=hp
          obtain ⟨vs1,k5,k6⟩:=Z7X hh.agree x off k3
          obtain ⟨vs2,k7,k8,k9⟩:=ih (off+e) k4
          refine ⟨vs1++vs2,?_,?_,?_⟩
          · intro y hy
            rcases List.mem_cons.1 hy with rfl|hy
            · exact ⟨k1,k2⟩
            · exact k7 y hy
          · rw [List.flatten_cons];exact ZY.2 ⟨_,_,rfl,k5,k8⟩
          · intro j u hj
            have hl:=ZF k5
            by_cases hlt:j<vs1.length
            · rw [List.getElem?_append_left hlt] at hj;exact k6 j u hj
            · rw [List.getElem?_append_right (by omega)] at hj
              have:=k9 _ u hj
              rwa [show off+e+(j-vs1.length)=off+j by omega] at this
      obtain ⟨vals,k1,k2,k3⟩:=key es off h2
      exact ⟨vals,h1,k1,k2,k3⟩
  · rename_i id ver
    obtain ⟨ob,ho,hd⟩:=Z0 hd
    split at hd
    · rename_i t _ p u
      obtain ⟨hu,hd2⟩:=Z2 hd
      clear hd
      cases hd2
      have hu:u=ver:=Nat.eq_of_beq_eq_true hu
      subst hu
      obtain ⟨hdr,vals,h1,h2,h3,h4,h5,h6,h7⟩:=hh.obj id _ ho
      obtain ⟨h8,_⟩:=Z3q.1 hr
      rw [h1] at h8;cases h8
      rcases h2.2 with ⟨hv,hn⟩|⟨g,cap,cur,hv,hg1,hg2,hg3,hg4,hg5,hg6⟩
      · have hes:es=[]:=List.eq_nil_of_length_eq_zero hn
        exact ⟨none,0,by rw [hv,hes];rfl,by rw [hes];exact Nat.le_refl _,.inl hes⟩
      · refine ⟨_,cap,hv,hg3,.inr ⟨g,0,YJ E t,vals,rfl,h4,h3,fun j u hj => ?_⟩⟩
        have:=h2.cells (g:=g) (by rw [hv];rfl) j u hj
        rwa [Yo] at this
    · cases hd
  · cases hd
theorem Z4s {n:Nat} {d:DV} {i:Nat} {v:Value} (hd:Z2S n d=some i) (hr:Rep β G d v):∃ k,v = .int k (i:Int)∧i<n:=by
  unfold Z2S at hd
  split at hd
  · rename_i k x
    rw [ZH] at hr
    obtain ⟨hq,hd⟩:=Z2 hd
    simp only [Bool.and_eq_true,decide_eq_true_eq] at hq
    cases hd
    refine ⟨k,?_,by omega⟩
    rw [hr,Int.toNat_of_nonneg hq.1]
  · cases hd
theorem Zbu:∀ {es:List (DV×DV)} {ms:List MapEntry},Z6y β G es ms→ms.length=es.length
  | [],_,h=>by simp only [Z6y] at h;simp [h]
  | _::_,_,⟨m,ms',h1,_,_,_,_,h6⟩=>by subst h1;simp [Zbu h6]
theorem Ze6 (hh:HR E w0 G0 D w β G h) {t:TypeId} {ti:TI} (ht:ZN P t ti) {ts:Array TypeId} (hts:ts[0]? = some t) {ty:TypeId} {d r:DV} {v:Value} (hd:Z5y ti.k h d=some r) (hr:Rep β G d v) :
    ∃ u,(Builtin.len_ ts ty #[v]).run P w = .ok u w∧Rep β G r u:=by
  have hdesc:=ht.desc
  unfold Z5y at hd
  split at hd<;>rename_i hk
  · cases hd
    rw [hk] at hdesc
    rw [YW] at hr;subst hr
    exact ⟨_,by simp [Builtin.len_,hts,Go.run_underlying hdesc,goInt],ZH.2 rfl⟩
  · cases hd
    rw [hk] at hdesc
    rw [Z5K] at hr;subst hr
    exact ⟨_,by simp [Builtin.len_,hts,Go.run_underlying hdesc,goInt],ZH.2 rfl⟩
  · rename_i k e id
    rw [hk] at hdesc
    obtain ⟨ob,ho,hd⟩:=Z0 hd
    split at hd
    · cases hd
      obtain ⟨b,hb,rfl⟩:=Z7I.1 hr
      obtain ⟨b',ms,clock,h1,h2,h3⟩:=hh.obj id _ ho
      rw [hb] at h1;cases h1
      have hl:=Zbu h3
      simp at hl
      exact ⟨.int .i64 (ms.size:Nat),by simp [Builtin.len_,hts,Go.run_underlying hdesc,goInt,getObj,Sem.run,h2],ZH.2 (by rw [hl])⟩
    · cases hd
  · rw [hk] at hdesc
    obtain ⟨es,hes,hd⟩:=Z0 hd
    cases hd
    obtain ⟨A,c,rfl,_,_⟩:=Z7b hh hes hr
    exact ⟨_,by simp [Builtin.len_,hts,Go.run_underlying hdesc,goInt],ZH.2 rfl⟩
  · rw [hk] at hdesc
    cases hd
    exact ⟨_,by simp [Builtin.len_,hts,Go.run_underlying hdesc,goInt],ZH.2 rfl⟩
  · cases hd
theorem Z7R {base:Nat} {t ty e:TypeId} {ti:TI} (ht:P.underlying t=some (.slice e)) (hei:ZN P e ti) {v:Value} {n:Nat} {xs:List Value}
    (hown:w.ownsRow base e ti.size v n xs) {A:Option Addr} {m c:Nat} {news:List Value} (hl:news.length=m*ti.size)
    (hnews:m=0∨∃ b off,A=some ⟨b,off,none⟩∧∀ j u,news[j]? = some u→w.cell? ⟨b,off+j,none⟩=some u) (h1:∀ u∈news,u.oneCell'=true)
    (hb:(n+m)*(ti.bytes+1)≤200000000000000) (hby2:ti.bytes≤100000000000) (hbase:base≤w.heap.size) :
    ∃ v' w' row,(Builtin.append_ #[t,t] ty #[v,.slice A m c]).run P w = .ok v' w'∧w'.ownsRow base e ti.size v' (n+m) (xs++news)∧w.grownBy w' row ∧
      (row=none∧(v'.ownBlock=some w.heap.size∨v'=v)∨row=v.ownBlock∧v'.ownBlock=v.ownBlock):=by
  obtain ⟨i,z,hi,hs,hby,hz,hzs,_⟩:=hei.info
  have hn1:n+m≤200000000000000:=by
    have:=Nat.le_mul_of_pos_right (n+m) (show 0<ti.bytes+1 by omega)
    omega
  have hn2:(n+m)*ti.bytes≤200000000000000:=by
    have:=Nat.mul_le_mul_left (n+m) (show ti.bytes≤ti.bytes+1 by omega)
    omega
  have hwide:(n+m+(n+m) / 4+192)*i.bytes≤281474976710656:=by
    rw [hby]
    have h1:=Nat.mul_le_mul_right ti.bytes (Nat.div_mul_le_self (n+m) 4)
    have h2:(n+m) / 4*4*ti.bytes=(n+m) / 4*ti.bytes*4:=by rw [Nat.mul_assoc,Nat.mul_comm 4,Nat.mul_assoc]
    rw [h2] at h1
    rw [Nat.add_mul,Nat.add_mul]
    omega
  by_cases hm:m=0
  · subst hm
    have hne:news=[]:=List.eq_nil_of_length_eq_zero (by simpa using hl)
    subst hne
    refine ⟨v,w,none,?_,by simpa using hown,World.grownBy.refl w _,.inl ⟨rfl,.inr rfl⟩⟩
    rcases hown.2 with ⟨rfl,rfl⟩|⟨g,cap,cur,rfl,_,hg,hnc,_,hcs,_⟩
    · cases A<;>simp [Builtin.append_,Go.run_underlying ht,sizeOf,typeInfo,hi,Builtin.lenOf,Builtin.firstCells,loadCells,loadCellsFrom]
    · cases A<;>simp [Builtin.append_,Go.run_underlying ht,sizeOf,typeInfo,hi,Builtin.lenOf,Builtin.firstCells,hnc,loadCells,loadCellsFrom,storeCells]
  · obtain ⟨b,off,rfl,hcell⟩:=hnews.resolve_left hm
    have hcell':∀ j u,news[j]? = some u→w.cell? ((⟨b,off,none⟩:Addr).add j)=some u:=fun j u hj=>by rw [Yo];exact hcell j u hj
    have h63:((n+m:Nat):Int)≤9223372036854775807:=by omega
    rcases hown.2 with ⟨rfl,rfl⟩|⟨g,cap,cur,rfl,hgb,hg,hnc,hcm,hcs,htake⟩
    · have hxs:xs=[]:=List.eq_nil_of_length_eq_zero (by simpa using hown.1)
      subst hxs
      have hr:=run_append_nil (P:=P) w t ty e i z ht hi hz ⟨b,off,none⟩ m c news (by rw [hs];exact hl) hcell' (by omega) (by omega) (by rw [hby];simp at hn2;omega)
      have hge:=grownCap_ge w m 0 e
      refine ⟨_,_,none,hr,⟨by simpa using hl,.inr ⟨w.heap.size,_,_,by rw [Nat.zero_add],hbase,heap_alloc_new w.drew _,by omega,grownCap_le_maxLen w m 0 e (by simp only [maxLen];omega),?_,?_⟩⟩,?_,.inl ⟨rfl,.inl rfl⟩⟩
      · simp only [Array.size_append,List.size_toArray,size_zeroCells,hl,hzs]
        rw [←Nat.add_mul];congr 1;omega
      · simp only [Array.toList_append,List.nil_append,Nat.zero_add]
        rw [←hl];simp
      · exact ⟨rfl,rfl,rfl,by simp,fun k hk _=>Below.heap_alloc w.drew _ k hk⟩
    · by_cases hroom:n+m≤cap
      · obtain ⟨w',hr,ho,hgr⟩:=run_append_fits (P:=P) w base t ty e i ti.size ht hi hs g n cap xs hown ⟨b,off,none⟩ m c news hl hcell' h1 hroom
        exact ⟨_,w',_,hr,ho,hgr,.inr ⟨rfl,rfl⟩⟩
      · have hxl:xs.length=n*i.size:=by rw [hs];exact hown.1
        have hxc:=hown.cells (g:=g) rfl
        have hr:=run_append_grow (P:=P) w t ty e i z ht hi hz ⟨g,0,none⟩ n cap xs hxl hxc ⟨b,off,none⟩ m c news (by rw [hs];exact hl) hcell' (by omega) h63 (growslice_fits_wide (by omega) hwide)
        have hge:=grownCap_ge w (n+m) cap e
        refine ⟨_,_,none,hr,⟨by rw [List.length_append,hown.1,hl,Nat.add_mul],.inr ⟨w.heap.size,_,_,rfl,hbase,heap_alloc_new w.drew _,hge,grownCap_le_maxLen w (n+m) cap e (by simp only [maxLen];omega),?_,?_⟩⟩,?_,.inl ⟨rfl,.inl rfl⟩⟩
        · simp only [Array.size_append,List.size_toArray,size_zeroCells,hl,hown.1,hzs]
          rw [←Nat.add_mul,←Nat.add_mul];congr 1;omega
        · simp only [Array.toList_append]
          rw [Nat.add_mul,←hown.1,←hl]
          exact List.take_left' (by simp)
        · exact ⟨rfl,rfl,rfl,by simp,fun k hk _=>Below.heap_alloc w.drew _ k hk⟩
end
end Go.Ab
namespace Go.Ab
open Go.RowKit
section
variable {P:Program} {E:Env} {w0:World} {G0:Gh} {D:DD} {o:Oper} {a:Act} {w:World} {β:Bi} {G:Gh} {h:Nat→Option Z8} {nid:Nat} {ρ:Nat→Option DV}
theorem Z5Z {t:TypeId} {ti:TI} (ht:E.ty t=some ti):YJ E t=ti.size:=by simp [YJ,ht]
theorem Z2Y {id:Nat} {t:TypeId} {es:List (List DV)} {p u:Nat} {hdr:Value} (h1:β.hdr id u=some hdr) {base e:Nat} {n:Nat} {xs:List Value} {size:Nat} (h2:w.ownsRow base e size hdr n xs) (b:Nat) :
    Yl β id (.row t es p u) b↔hdr.ownBlock=some b:=by
  constructor
  · rintro ⟨n',c,hb⟩
    rw [h1] at hb;cases hb;rfl
  · intro hb
    obtain ⟨c,hc⟩:=Z5e h2 hb
    exact ⟨n,c,by rw [h1,hc]⟩
def Z1d (β:Bi) (id u:Nat) (v:Value):Bi:={ β with hdr:=fun i x=>if i=id∧x=u then some v else β.hdr i x }
theorem Z8T {id u:Nat} {v:Value} (hn:β.hdr id u=none):Ext β G (Z1d β id u v) G :=
  ⟨fun _ _ _ h=>h,fun _ _ h=>h,fun i x y hy=>by
    by_cases e:i=id∧x=u
    · obtain ⟨rfl,rfl⟩:=e;rw [hn] at hy;cases hy
    · simp [Z1d,e,hy]⟩
theorem ZaH (hh:HR E w0 G0 D w β G h) (hf:ZJ β h nid) {w':World} {hdr:Value} {t:TypeId} {es:List (List DV)} {vals:List Value}
    (hg:w.grownBy w' none) (hown:w'.ownsRow w0.heap.size t (YJ E t) hdr es.length vals) (hblk:∀ b,hdr.ownBlock=some b→b=w.heap.size) (hsl:∃ a n c,hdr = .slice a n c)
    (hr:Zd β G es.flatten vals) (hes:∀ c∈es,c.length=YJ E t∧Za c=true∧c.all Zz=true) (hsz:0<YJ E t) :
    ∃ β',Ext β G β' G∧Rep β' G (.rs nid 0) hdr∧HR E w0 G0 D w' β' G (ZA h [(nid,some (.row t es 0 0))])∧Z2M β β' h (ZA h [(nid,some (.row t es 0 0))]) nid:=by
  have hx:Ext β G (Z1d β nid 0 hdr) G:=Z8T (hf.hdr 0)
  have hhd:(Z1d β nid 0 hdr).hdr nid 0=some hdr:=by simp [Z1d]
  refine ⟨Z1d β nid 0 hdr,hx,Z3q.2 ⟨hhd,hsl⟩,?_,?_⟩
  · refine hh.move (fun b=>w.heap.size≤b) nid _ hx (hh.below.grown hg hh.below.size (fun _ e=>by cases e)) (fun b hb hlt=>hg.block b hlt (by simp)) (fun _ _=>rfl) hg.size ?_ ?_ ?_ ?_ ?_ ?_ ?_
    · intro b hb
      refine ⟨Nat.le_trans hh.below.size hb,hh.dfree hb⟩
    · intro b id' o2 hb ho2 hob
      have:=(hh.own id' o2 _ ho2 hob).2.1
      omega
    · intro b hb o v hgv
      rw [glt hh hb] at hgv;cases hgv
    · refine ⟨hdr,vals,hhd,hown,Zd.mono hx _ _ hr,hes,⟨hsz,Z8B _ _⟩,fun b hb o _ => ?_,fun u' hu' => ?_⟩
      · rw [hblk b hb];exact glt hh (Nat.le_refl _) o
      · have:¬ u'=0:=by omega
        simp only [Z1d,this,and_false,if_false]
        exact hf.hdr u'
    · intro b hb
      rw [Z2Y hhd hown] at hb
      left;rw [hblk b hb];exact Nat.le_refl _
    · intro b hb
      rw [Z2Y hhd hown] at hb
      exact (hown.lt b hb).2
    · intro i hi
      exact ⟨rfl,fun u=>by simp [Z1d,hi]⟩
  · intro i hi hfr
    exact ⟨by rw [Y2,if_neg hi];exact hfr,rfl,fun u=>by simp [Z1d,hi]⟩
theorem Zfq (hh:HR E w0 G0 D w β G h) {id:Nat} {w':World} {v v':Value} {row:Option Nat} {t:TypeId} {es xs:List (List DV)} {p u:Nat} {vals news:List Value}
    (ho:h id=some (.row t es p u)) (hv:β.hdr id u=some v) (hold:w.ownsRow w0.heap.size t (YJ E t) v es.length vals) (hrep:Zd β G es.flatten vals)
    (hg:w.grownBy w' row) (hown:w'.ownsRow w0.heap.size t (YJ E t) v' (es.length+xs.length) (vals++news))
    (hrow:row=none∧(v'.ownBlock=some w.heap.size∨v'=v)∨row=v.ownBlock∧v'.ownBlock=v.ownBlock)
    (hn:Zd β G xs.flatten news) (hxs:∀ c∈xs,c.length=YJ E t∧Za c=true∧c.all Zz=true) :
    ∃ β',Ext β G β' G∧Rep β' G (.rs id (u+1)) v'∧HR E w0 G0 D w' β' G (ZA h [(id,some (.row t (es++xs) p (u+1)))])∧Z2M β β' h (ZA h [(id,some (.row t (es++xs) p (u+1)))]) nid:=by
  obtain ⟨hdr,vals',h1,h2,h3,h4,h5,h6,h7⟩:=hh.obj id _ ho
  rw [hv] at h1;cases h1
  have hx:Ext β G (Z1d β id (u+1) v') G:=Z8T (h7 (u+1) (by omega))
  have hhd:(Z1d β id (u+1) v').hdr id (u+1)=some v':=by simp [Z1d]
  have hsl:∃ a n c,v' = .slice a n c:=by
    rcases hown.2 with ⟨e,_⟩|⟨g,cap,cur,e,_⟩<;>exact ⟨_,_,_,e⟩
  have hrowT:∀ b,row=some b→v.ownBlock=some b:=fun b hb=>by
    rcases hrow with ⟨e,_⟩|⟨e,_⟩
    · rw [e] at hb;cases hb
    · rw [←e];exact hb
  have hblk:∀ b,v'.ownBlock=some b→b=w.heap.size∨v.ownBlock=some b:=fun b hb=>by
    rcases hrow with ⟨_,e|e⟩|⟨_,e⟩
    · rw [e] at hb;cases hb;exact .inl rfl
    · subst e;exact .inr hb
    · right;rw [←e];exact hb
  refine ⟨Z1d β id (u+1) v',hx,Z3q.2 ⟨hhd,hsl⟩,?_,?_⟩
  · refine hh.move (fun b=>w.heap.size≤b∨row=some b) id _ hx (hh.below.grown hg hh.below.size (fun k e=>(hold.lt k (hrowT k e)).1))
      (fun b hb hlt=>hg.block b hlt (fun e=>hb (.inr e.symm))) (fun _ _=>rfl) hg.size ?_ ?_ ?_ ?_ ?_ ?_ ?_
    · rintro b (hb|hb)
      · refine ⟨Nat.le_trans hh.below.size hb,hh.dfree hb⟩
      · have hob:Yl β id (.row t es p u) b:=(Z2Y hv hold b).2 (hrowT b hb)
        exact ⟨(hh.own id _ b ho hob).1,(hh.own id _ b ho hob).2.2⟩
    · rintro b id' o2 (hb|hb) ho2 hob
      · have:=(hh.own id' o2 _ ho2 hob).2.1
        omega
      · exact hh.inj id' id o2 _ b ho2 ho hob ((Z2Y hv hold b).2 (hrowT b hb))
    · rintro b (hb|hb) off x hgx
      · rw [glt hh hb] at hgx;cases hgx
      · have hvb:=hrowT b hb
        have hv'b:v'.ownBlock=some b:=by
          rcases hrow with ⟨e,_⟩|⟨_,e⟩
          · rw [e] at hb;cases hb
          · rw [e];exact hvb
        have hoff:off<vals.length:=by
          have hlt:off<pn p es.length*YJ E t:=by
            rcases Nat.lt_or_ge off (pn p es.length*YJ E t) with hlt|hge
            · exact hlt
            · rw [h6 b hvb off hge] at hgx;cases hgx
          have:=Nat.mul_le_mul_right (YJ E t) h5.2
          rw [hold.1];omega
        have hc:=hold.cells hvb off (vals[off]) (by simp [hoff])
        rw [Yo,Nat.zero_add] at hc
        have:=hh.agree b off x hgx
        rw [hc] at this
        cases this
        have hc':=hown.cells hv'b off (vals[off]) (by rw [List.getElem?_append_left hoff];simp [hoff])
        rwa [Yo,Nat.zero_add] at hc'
    · refine ⟨v',vals++news,hhd,by rw [List.length_append];exact hown,?_,?_,⟨h5.1,Z8B _ _⟩,?_,?_⟩
      · rw [List.flatten_append]
        exact ZY.2 ⟨_,_,rfl,Zd.mono hx _ _ hrep,Zd.mono hx _ _ hn⟩
      · intro c hc
        rcases List.mem_append.1 hc with hc|hc
        · exact h4 c hc
        · exact hxs c hc
      · intro b hb off hoff
        rcases hblk b hb with rfl|hvb
        · exact glt hh (Nat.le_refl _) off
        · exact h6 b hvb off (Nat.le_trans (Nat.mul_le_mul_right _ (Zgc p (by rw [List.length_append];omega))) hoff)
      · intro u' hu'
        have:¬ u'=u+1:=by omega
        simp only [Z1d,this,and_false,if_false]
        exact h7 u' (by omega)
    · intro b hb
      rw [Z2Y hhd hown] at hb
      rcases hblk b hb with rfl|hvb
      · exact .inl (.inl (Nat.le_refl _))
      · exact .inr ⟨_,ho,(Z2Y hv hold b).2 hvb⟩
    · intro b hb
      rw [Z2Y hhd hown] at hb
      exact (hown.lt b hb).2
    · intro i hi
      exact ⟨rfl,fun x=>by simp [Z1d,hi]⟩
  · intro i hi hfr
    have hne:i≠id:=by rintro rfl;rw [hfr] at ho;cases ho
    exact ⟨by rw [Y2,if_neg hne];exact hfr,rfl,fun x=>by simp [Z1d,hne]⟩
theorem Zbc {e:Nat}:∀ {xs:List (List DV)},(∀ c∈xs,c.length=e)→xs.flatten.length=xs.length*e
  | [],_=>by simp
  | y::ys,h=>by
    have ih:=Zbc (xs:=ys) (fun c hc=>h c (by simp [hc]))
    rw [List.flatten_cons,List.length_append,ih,h y (by simp),List.length_cons,Nat.add_mul,Nat.one_mul,Nat.add_comm]
theorem Za1 (hE:∀ t ti,E.ty t=some ti→ZN P t ti) (hh:HR E w0 G0 D w β G h) (hf:ZJ β h nid) {t ty:TypeId} {ds dx:DV} {s x:Value} (hs:Rep β G ds s) (hx:Rep β G dx x) {r:Out}
    (hd:Z3c E nid h t ds dx=some r) :
    ∃ v w' β',(Builtin.append_ #[t,t] ty #[s,x]).run P w = .ok v w'∧(∀ d,r.val=some d→Rep β' G d v)∧Ext β G β' G∧HR E w0 G0 D w' β' G (ZA h r.upd)∧Z2M β β' h (ZA h r.upd) nid:=by
  unfold Z3c at hd
  obtain ⟨ti,hti,hd⟩:=Z0 hd
  have htd:=(hE t ti hti).desc
  split at hd
  · rename_i e hk
    rw [hk] at htd
    obtain ⟨ei,hei,hd⟩:=Z0 hd
    obtain ⟨xs,hxs,hd⟩:=Z0 hd
    have hpos:=(Z2 hd).1
    replace hd:=(Z2 hd).2
    simp only [Bool.and_eq_true] at hpos
    have hby2:=Nat.le_of_ble_eq_true hpos.2
    have hpos:0<ei.size:=Nat.le_of_ble_eq_true hpos.1
    have hesz:=Z5Z hei
    obtain ⟨A,c,rfl,_,hsrc⟩:=Z7b hh hxs hx
    have hall:∀ {xs:List (List DV)},(xs.all fun c=>Nat.beq c.length ei.size)=true→∀ c∈xs,c.length=ei.size:=fun h c hc=>Nat.eq_of_beq_eq_true (List.all_eq_true.1 h c hc)
    have src:(xs.all fun c=>Nat.beq c.length ei.size)=true→∃ news,news.length=xs.length*ei.size∧Zd β G xs.flatten news∧(∀ u∈news,u.oneCell'=true) ∧
        (xs.length=0∨∃ b off,A=some ⟨b,off,none⟩∧∀ j u,news[j]? = some u→w.cell? ⟨b,off+j,none⟩=some u)∧(∀ c∈xs,Za c=true∧c.all Zz=true):=fun hal=>by
      rcases hsrc with rfl|⟨b,off,e',vals,hA,h1,h2,h3⟩
      · exact ⟨[],by simp,Zo.2 rfl,by simp,.inl rfl,by simp⟩
      · have hfl:xs.flatten.length=xs.length*ei.size:=Zbc (hall hal)
        refine ⟨vals,by rw [ZF h2,hfl],h2,Z5J ?_ h2,.inr ⟨b,off,hA,h3⟩,fun c hc=>(h1 c hc).2⟩
        rw [List.all_eq_true]
        intro y hy
        obtain ⟨c,hc,hy⟩:=List.mem_flatten.1 hy
        exact List.all_eq_true.1 (h1 c hc).2.2 y hy
    cases ds with
    | nils =>
      simp only at hd
      rw [Z2f] at hs;subst hs
      split at hd
      · cases hd
        refine ⟨.slice none 0 0,w,β,?_,fun d hd=>by cases hd;exact Z2f.2 rfl,Ext.refl β G,by rw [Zc8];exact hh,Z2M.refl β h nid⟩
        obtain ⟨i,z,hi,hs',_⟩:=(hE e ei hei).info
        cases A<;>simp [Builtin.append_,Go.run_underlying htd,sizeOf,typeInfo,hi,Builtin.lenOf,Builtin.firstCells,loadCells,loadCellsFrom]
      · skip
        obtain ⟨hq,hdx⟩:=Z2 hd
        clear hd
        cases hdx
        simp only [Bool.and_eq_true] at hq
        obtain ⟨news,k1,k2,k3,k4,k5⟩:=src hq.1
        have hown:w.ownsRow w0.heap.size e ei.size (.slice none 0 0) 0 []:=⟨by simp,.inl ⟨rfl,rfl⟩⟩
        have hle:=Nat.le_of_ble_eq_true hq.2
        obtain ⟨v',w',row,hr,ho',hg,hrow⟩:=Z7R (P:=P) (ty:=ty) (c:=c) htd (hE e ei hei) hown k1 k4 k3 (by rw [Nat.zero_add];exact hle) hby2 hh.below.size
        rw [Nat.zero_add,List.nil_append] at ho'
        have hg':w.grownBy w' none:=by
          rcases hrow with ⟨e1,_⟩|⟨e1,_⟩<;>rw [e1] at hg<;>exact hg
        have hb:∀ b,v'.ownBlock=some b→b=w.heap.size:=fun b hb=>by
          rcases hrow with ⟨_,e1|e1⟩|⟨_,e1⟩
          · rw [e1] at hb;cases hb;rfl
          · rw [e1] at hb;cases hb
          · rw [e1] at hb;cases hb
        have hsl:∃ a n c,v' = .slice a n c:=by
          rcases ho'.2 with ⟨e1,_⟩|⟨g,cap,cur,e1,_⟩<;>exact ⟨_,_,_,e1⟩
        obtain ⟨β',m1,m2,m3,m4⟩:=ZaH hh hf hg' (by rw [hesz];exact ho') hb hsl k2 (fun c hc=>⟨by rw [hesz];exact hall hq.1 c hc,(k5 c hc).1,(k5 c hc).2⟩) (by rw [hesz];exact hpos)
        exact ⟨v',w',β',hr,fun d hd=>by cases hd;exact m2,m1,m3,m4⟩
    | rs id ver =>
      simp only at hd
      obtain ⟨ob,ho,hd⟩:=Z0 hd
      split at hd
      · rename_i e' es p u
        obtain ⟨hq,hd2⟩:=Z2 hd
        clear hd
        cases hd2
        simp only [Bool.and_eq_true] at hq
        obtain ⟨⟨⟨hu,he⟩,hal⟩,hle⟩:=hq
        have hu:u=ver:=Nat.eq_of_beq_eq_true hu
        have he:e'=e:=Nat.eq_of_beq_eq_true he
        subst hu he
        obtain ⟨news,k1,k2,k3,k4,k5⟩:=src hal
        obtain ⟨hv,_⟩:=Z3q.1 hs
        obtain ⟨hdr,vals,h1,h2,h3,h4,h5,h6,h7⟩:=hh.obj id _ ho
        rw [hv] at h1;cases h1
        have h2':=h2
        rw [hesz] at h2'
        obtain ⟨v',w',row,hr,ho',hg,hrow⟩:=Z7R (P:=P) (ty:=ty) (c:=c) htd (hE e' ei hei) h2' k1 k4 k3 (Nat.le_of_ble_eq_true hle) hby2 hh.below.size
        obtain ⟨β',m1,m2,m3,m4⟩:=Zfq (nid:=nid) (xs:=xs) (news:=news) hh ho hv h2 h3 hg (by rw [hesz];exact ho') hrow k2 (fun c hc=>⟨by rw [hesz];exact hall hal c hc,(k5 c hc).1,(k5 c hc).2⟩)
        exact ⟨v',w',β',hr,fun d hd=>by cases hd;exact m2,m1,m3,m4⟩
      · cases hd
    | _=>cases hd
  · cases hd
end
end Go.Ab
namespace Go.Ab
open Go.RowKit
section
variable {P:Program} {E:Env} {w0:World} {G0:Gh} {D:DD} {o:Oper} {a:Act} {w:World} {β:Bi} {G:Gh} {h:Nat→Option Z8} {nid:Nat} {ρ:Nat→Option DV}
theorem Z8c {size:Nat}:∀ (ps:List (Nat×Value)) (k:Nat) (base:Array Value),(∀ j p,ps[j]? = some p→p.1=k+j∧p.2.cells.size=size)→(k+ps.length)*size≤base.size →
    ∃ out,Instr.fill (fun i=>some (i*size,size)) base ps=some out∧out.size=base.size∧out.toList.take ((k+ps.length)*size)=base.toList.take (k*size)++ps.flatMap (fun p=>p.2.cells.toList)
  | [],k,base,_,_=>⟨base,rfl,rfl,by simp⟩
  | (i,v)::ps,k,base,hp,hs=>by
    obtain ⟨h1,h2⟩:=hp 0 (i,v) rfl
    simp only [Nat.add_zero] at h1 h2
    subst h1
    have hmul:(i+((i,v)::ps).length)*size=i*size+size+ps.length*size:=by
      simp only [List.length_cons];rw [show i+(ps.length+1)=i+1+ps.length by omega,Nat.add_mul,Nat.add_mul,Nat.one_mul]
    have hfo:=Z3R v.cells (i*size) base (by rw [h2];omega)
    obtain ⟨out,h3,h4,h5⟩:=Z8c ps (i+1) (v.cells.zipIdx.foldl (fun cs (c,j)=>cs.setIfInBounds (i*size+j) c) base)
      (fun j p hj=>by
        obtain ⟨k1,k2⟩:=hp (j+1) p (by simpa using hj)
        exact ⟨by omega,k2⟩)
      (by
        have hsz:(v.cells.zipIdx.foldl (fun cs (c,j)=>cs.setIfInBounds (i*size+j) c) base).size=base.size:=by
          rw [←Array.length_toList,hfo];simp;omega
        rw [hsz,Nat.add_mul,Nat.add_mul,Nat.one_mul];omega)
    have hsz:(v.cells.zipIdx.foldl (fun cs (c,j)=>cs.setIfInBounds (i*size+j) c) base).size=base.size:=by
      rw [←Array.length_toList,hfo];simp;omega
    refine ⟨out,?_,h4.trans hsz,?_⟩
    · have hn:(v.cells.size≠size||i*size+v.cells.size>base.size)=false:=by simp;omega
      simp only [Instr.fill,hn,Bool.false_eq_true,if_false]
      exact h3
    · rw [show i+((i,v)::ps).length=i+1+ps.length by simp;omega,h5,hfo]
      have hl:(base.toList.take (i*size)).length=i*size:=by simp;omega
      rw [Nat.add_mul,Nat.one_mul,List.append_assoc]
      simp only [List.flatMap_cons,←List.append_assoc]
      congr 1
      rw [List.append_assoc,List.take_append,hl,List.take_of_length_le (by rw [hl];omega),show i*size+size-i*size=size by omega,List.take_append]
      simp [h2]
      exact List.take_of_length_le (by simp [h2])
theorem Z6q (d:DV):Zf (cellsOf d)=Ze d:=by
  cases d<;>simp [cellsOf,Ze,Zf]
theorem Z7q {h':Nat→Option Z8} {G':Gh} (hx:Ext β G β G') (hsame:∀ i t es p u,h i=some (.row t es p u)→∃ p',h' i=some (.row t es p' u)) {size:Nat} :
    ∀ {ds:List (Nat×DV)} {ps:List (Nat×Value)} {k:Nat} {es:List (List DV)},Z4f β G ds ps→(∀ i∈Zf (ds.map (·.2)),Z3b E β G' h' i)→Z5i h size k ds=some es →
      Zd β G' es.flatten (ps.flatMap fun p=>p.2.cells.toList)∧(∀ c∈es,c.length=size∧Za c=true∧c.all Zz=true)∧es.length=ps.length∧∀ j p,ps[j]? = some p→p.1=k+j∧p.2.cells.size=size
  | [],ps,k,es,hp,_,hd=>by
    simp only [Z4f] at hp;subst hp
    simp only [Z5i,Option.some.injEq] at hd;subst hd
    exact ⟨Zo.2 rfl,by simp,rfl,by simp⟩
  | (i,d)::ds,_,k,es,⟨v,ps',hps,hv,hp⟩,hs,hd=>by
    subst hps
    simp only [Z5i] at hd
    obtain ⟨hq,hd⟩:=Z2 hd
    simp only [Bool.and_eq_true] at hq
    obtain ⟨c,hc,hd⟩:=Z0 hd
    obtain ⟨hall,hd⟩:=Z2 hd
    obtain ⟨r,hr,hd⟩:=Z0 hd
    cases hd
    have hi:i=k:=Nat.eq_of_beq_eq_true hq.1
    have hl:(cellsOf d).length=size:=Nat.eq_of_beq_eq_true hq.2
    subst hi
    have hrc:=Z3B hv
    obtain ⟨k1,k2⟩:=Z4o (E:=E) hx hsame hc (fun j hj=>hs j (by rw [Z6q] at hj;simp [Zf,hj])) hrc
    obtain ⟨m1,m2,m3,m4⟩:=Z7q hx hsame hp (fun j hj=>hs j (by simp [Zf,hj])) hr
    have hcl:c.length=size:=by have:=ZF k1;have:=ZF hrc;omega
    refine ⟨?_,?_,by simp [m3],?_⟩
    · rw [List.flatten_cons,List.flatMap_cons]
      exact ZY.2 ⟨_,_,rfl,k1,m1⟩
    · intro x hx
      rcases List.mem_cons.1 hx with rfl|hx
      · exact ⟨hcl,k2,hall⟩
      · exact m2 x hx
    · intro j p hj
      cases j with
      | zero =>
        simp at hj;subst hj
        have:=ZF hrc
        refine ⟨by simp,?_⟩
        show v.cells.size=size
        rw [←hl,←this];simp
      | succ j =>
        obtain ⟨n1,n2⟩:=m4 j p (by simpa using hj)
        exact ⟨by omega,n2⟩
theorem Z92 {id:Nat} {x:Option Z8} {us:List (Nat×Option Z8)} (hn:Zp id us=none) (i:Nat):ZA h ((id,x)::us) i=ZA (ZA h us) [(id,x)] i:=by
  rw [Z9V,Y2]
  unfold ZA
  by_cases e:i=id
  · subst e;rw [hn]
  · simp only [e,if_false]<;>(cases Zp i us<;>rfl)
theorem Z6C (hE:∀ t ti,E.ty t=some ti→ZN P t ti) (hf:FrM β G ρ a.tmps) (hh:HR E w0 G0 D w β G h) (hfr:ZJ β h nid) {t:TypeId} {n:Nat} {ps:Array (Nat×Operand)} {r:Out}
    (hd:Zx E nid ρ h (.buildSlice t n ps)=some r) :
    ∃ v w' β' G',(Instr.buildSlice t n (ps.map fun (i,x)=>(i,a.eval x))).run P w = .ok v w'∧(∀ d,r.val=some d→Rep β' G' d v)∧Ext β G β' G'∧HR E w0 G0 D w' β' G' (ZA h r.upd)∧Z2M β β' h (ZA h r.upd) nid:=by
  simp only [Zx] at hd
  obtain ⟨ti,hti,hd⟩:=Z0 hd
  have htd:=(hE t ti hti).desc
  split at hd
  · rename_i e hk
    rw [hk] at htd
    obtain ⟨ei,hei,hd⟩:=Z0 hd
    obtain ⟨vs,hvs,hd⟩:=Z0 hd
    obtain ⟨es,hes,hd⟩:=Z0 hd
    obtain ⟨hq,hd⟩:=Z2 hd
    cases hd
    simp only [Bool.and_eq_true] at hq
    obtain ⟨⟨hlen,hsm⟩,hpos⟩:=hq
    have hlen:es.length=n:=Nat.eq_of_beq_eq_true hlen
    have hsm:n*ei.size≤1048576:=Nat.le_of_ble_eq_true hsm
    have hpos:0<ei.size:=Nat.le_of_ble_eq_true hpos
    have hesz:=Z5Z hei
    have hpr:=Z6N hf hvs
    obtain ⟨G1,hx1,hh1,hs1⟩:=Z1R hh (Zf (vs.map (·.2)))
    obtain ⟨k1,k2,k3,k4⟩:=Z7q (E:=E) hx1 (Z3G h _) hpr hs1 hes
    have hpl:(ps.map fun (i,x)=>(i,a.eval x)).toList=ps.toList.map fun (i,x)=>(i,a.eval x):=by simp
    obtain ⟨ie,z,hi,hs',hby,hz,hzs,_⟩:=(hE e ei hei).info
    have hnid:Zp nid (Zn h (Zf (vs.map (·.2))))=none:=by
      cases hq:Zp nid (Zn h (Zf (vs.map (·.2)))) with
      | none=>rfl
      | some y =>
        obtain ⟨t',es',p',u',m1,_⟩:=Y1 h _ nid y hq
        rw [hfr.h] at m1;cases m1
    have hfr1:ZJ β (ZA h (Zn h (Zf (vs.map (·.2))))) nid:=by
      refine ⟨hfr.blk,hfr.hdr,?_⟩
      unfold ZA;rw [hnid];exact hfr.h
    have hrun:∃ cells:Array Value,(Instr.buildSlice t n (ps.map fun (i,x)=>(i,a.eval x))).run P w = .ok (.slice (some ⟨w.heap.size,0,none⟩) n n) (w.alloc (.cells cells e))∧cells.size=n*ei.size ∧
        cells.toList=(ps.toList.map fun (i,x)=>(i,a.eval x)).flatMap fun p=>p.2.cells.toList:=by
      have hpsl:(ps.toList.map fun (i,x)=>(i,a.eval x)).length=n:=by rw [List.length_map] at k3 ⊢;omega
      obtain ⟨out,n1,n2,n3⟩:=Z8c (size:=ei.size) (ps.toList.map fun (i,x)=>(i,a.eval x)) 0 ((Array.range (n*ei.size)).map (z.cells[· % z.cells.size]!)) (by simpa using k4) (by rw [hpsl];simp)
      have hos:out.size=n*ei.size:=by rw [n2];simp
      have hol:out.toList=(ps.toList.map fun (i,x)=>(i,a.eval x)).flatMap fun p=>p.2.cells.toList:=by
        rw [Nat.zero_add,hpsl,List.take_of_length_le (by rw [Array.length_toList,hos];exact Nat.le_refl _)] at n3
        simpa using n3
      by_cases h0:n*ei.size=0
      · have hn0:n=0:=by
          rcases Nat.mul_eq_zero.1 h0 with e1|e1
          · exact e1
          · omega
        subst hn0
        have hpe:ps.toList=[]:=by
          have:ps.toList.length=0:=by simpa using hpsl
          exact List.eq_nil_of_length_eq_zero this
        have hpa:ps = #[]:=by simpa using hpe
        subst hpa
        refine ⟨#[],?_,by simp,by simp⟩
        simp [Instr.buildSlice,Go.run_underlying htd,sizeOf,typeInfo,hi,Instr.fill,newRow]
        congr 2
        apply Array.ext'
        simp
      · refine ⟨out,?_,hos,hol⟩
        refine run_buildSlice w t e n _ out ie z htd hi hz (by rw [hs'];omega) (by rw [hs'];exact h0) ?_
        rw [hpl,hs'];exact n1
    obtain ⟨cells,hr,hcs,hcl⟩:=hrun
    have hmax:n≤maxLen:=by
      have:n≤n*ei.size:=Nat.le_mul_of_pos_right n hpos
      simp only [maxLen];omega
    have hown:(w.alloc (.cells cells e)).ownsRow w0.heap.size e (YJ E e) (.slice (some ⟨w.heap.size,0,none⟩) n n) es.length cells.toList:=by
      rw [hesz,hlen]
      exact World.ownsRow_lit w cells n hh.below.size hmax hcs
    rw [←hcl] at k1
    obtain ⟨β',m1,m2,m3,m4⟩:=ZaH (nid:=nid) hh1 hfr1 (World.grownBy_alloc w _ none) hown (by intro b hb;cases hb;rfl) ⟨_,_,_,rfl⟩ k1 (fun c hc=>by rw [hesz];exact k2 c hc) (by rw [hesz];exact hpos)
    refine ⟨_,_,β',G1,hr,fun d hd=>by cases hd;exact m2,hx1.trans m1,m3.eq (Z92 hnid),fun i hi hq => ?_⟩
    obtain ⟨q1,q2,q3⟩:=m4 i hi (Z70 (β:=β) (nid:=nid) _ i hi hq).1
    exact ⟨by rw [Z92 hnid];exact q1,q2,q3⟩
  · cases hd
end
end Go.Ab
namespace Go.Ab
open Go.RowKit
section
variable {P:Program} {E:Env} {w0:World} {G0:Gh} {D:DD} {o:Oper} {a:Act} {w:World} {β:Bi} {G:Gh} {h:Nat→Option Z8} {nid:Nat} {ρ:Nat→Option DV}
theorem Z9c {t:TypeId} {ti ei:TI} (ht:ZN P t ti) {len e:Nat} (hk:ti.k = .array len e) (he:ZN P e ei) {x d:DV} {di:DV} {u v:Value} {i:Nat} (hx:Rep β G x u) (hi:Rep β G di v) (hid:Z2S len di=some i)
    (hd:Z19 x (i*ei.size)=some d):∃ r,(Instr.indexAt t u v).run P w = .ok r w∧Rep β G d r:=by
  have hdesc:=ht.desc
  rw [hk] at hdesc
  obtain ⟨k,rfl,hlt⟩:=Z4s hid hi
  obtain ⟨b,rfl,hr⟩:=Z57 hx hd
  refine ⟨_,?_,hr⟩
  have h1:(0:Int)≤(i:Int)∧(i:Int)<(len:Int):=⟨by omega,by omega⟩
  simp [Instr.indexAt,asIntOf,Go.run_underlying hdesc,Instr.sureAddr,he.run_sizeOf,h1,hlt]
theorem Z5d {t:TypeId} {ti ei:TI} (ht:ZN P t ti) {e:Nat} (hk:ti.k = .slice e) (he:ZN P e ei) {di:DV} {v:Value} {i n c:Nat} {A:Addr} (hi:Rep β G di v) (hid:Z2S n di=some i) :
    (Instr.indexAt t (.slice (some A) n c) v).run P w = .ok (.pointer (some (A.add (i*ei.size)))) w:=by
  have hdesc:=ht.desc
  rw [hk] at hdesc
  obtain ⟨k,rfl,hlt⟩:=Z4s hid hi
  have h1:(0:Int)≤(i:Int)∧(i:Int)<(n:Int):=⟨by omega,by omega⟩
  simp [Instr.indexAt,asIntOf,Go.run_underlying hdesc,he.run_sizeOf,h1,hlt]
theorem ZbE {b e:Nat}:∀ {es:List (List DV)} {off i:Nat} {c:List DV},Yk β G b e off es→es[i]? = some c→Za c=true∧Pub β G b (off+i*e) c∧c.length=e
  | [],_,i,c,_,h=>by simp at h
  | x::es,off,0,c,hp,h=>by
    simp at h;subst h
    unfold Yk at hp
    exact ⟨hp.2.1.1,by simpa using hp.2.2.1,hp.1⟩
  | x::es,off,i+1,c,hp,h=>by
    unfold Yk at hp
    obtain ⟨h1,h2,h3⟩:=ZbE (i:=i) (c:=c) hp.2.2.2 (by simpa using h)
    refine ⟨h1,?_,h3⟩
    rwa [show off+(i+1)*e=off+e+i*e by rw [Nat.add_mul,Nat.one_mul];omega]
theorem Zbo (hE:∀ t ti,E.ty t=some ti→ZN P t ti) {t:TypeId} {ti:TI} (ht:ZN P t ti) {x di d:DV} {u v:Value} 
    (hd:(match ti.k,x with
      | .array len e,.agg cs=>(E.ty e).bind fun ei=>(Z2S len di).bind fun i=>Yy ei cs (i*ei.size)
      | .string,.str s=>(Z2S s.size di).bind fun i=>(s[i]?).bind fun b=>some (.int .u8 b.toNat)
      | _,_=>none)=some d) (hx:Rep β G x u) (hi:Rep β G di v):∃ r,(Instr.index t u v).run P w = .ok r w∧Rep β G d r:=by
  have hdesc:=ht.desc
  split at hd<;>rename_i hk
  · rename_i len e cs
    rw [hk] at hdesc
    obtain ⟨ei,hei,hd⟩:=Z0 hd
    obtain ⟨i,hid,hd⟩:=Z0 hd
    obtain ⟨k,rfl,hlt⟩:=Z4s hid hi
    obtain ⟨vs,rfl,hr⟩:=Yx.1 hx
    obtain ⟨r,h1,h2⟩:=Z8z (w:=w) (hE e ei hei) (hE e ei hei).ko hr hd
    have h3:(0:Int)≤(i:Int)∧(i:Int)<(len:Int):=⟨by omega,by omega⟩
    exact ⟨r,by simp [Instr.index,asIntOf,Go.run_underlying hdesc,(hE e ei hei).run_sizeOf,h3,hlt,h1],h2⟩
  · rename_i s
    rw [hk] at hdesc
    obtain ⟨i,hid,hd⟩:=Z0 hd
    obtain ⟨b,hb,hd⟩:=Z0 hd
    cases hd
    obtain ⟨k,rfl,hlt⟩:=Z4s hid hi
    rw [YW] at hx;subst hx
    have h3:(0:Int)≤(i:Int):=by omega
    exact ⟨_,by simp [Instr.index,asIntOf,Go.run_underlying hdesc,h3,hb],ZH.2 rfl⟩
  · cases hd
theorem Zba (hE:∀ t ti,E.ty t=some ti→ZN P t ti) {t:TypeId} {ti:TI} (ht:ZN P t ti) {f:Nat} {x d:DV} {u:Value}
    (hd:(match ti.k,x with
      | .struct fs,.agg cs=>(fs[f]?).bind fun (ft,off)=>(E.ty ft).bind fun fi=>Yy fi cs off
      | _,_=>none)=some d) (hx:Rep β G x u):∃ r,(Instr.field t u f).run P w = .ok r w∧Rep β G d r:=by
  split at hd<;>rename_i hk
  · rename_i fs cs
    obtain ⟨⟨ft,off⟩,hf,hd⟩:=Z0 hd
    obtain ⟨fi,hfi,hd⟩:=Z0 hd
    obtain ⟨fields,fd,h1,h2,h3,h4⟩:=Z6v ht hk hf
    obtain ⟨vs,rfl,hr⟩:=Yx.1 hx
    obtain ⟨r,h5,h6⟩:=Z8z (w:=w) (hE ft fi hfi) (hE ft fi hfi).ko hr hd
    exact ⟨r,by simp [Instr.field,Go.run_underlying h1,h2,asAgg,h3,h4,h5],h6⟩
  · cases hd
def Z9Y (β:Bi) (G:Gh) (d:Option DV) (v:Option Value):Prop:=d=none∧v=none∨∃ d' v',d=some d'∧v=some v'∧Rep β G d' v'
theorem Zdw (hf:FrM β G ρ a.tmps) {x:Option Operand} {d:Option DV} (hd:Z1Y ρ x=some d):Z9Y β G d (x.map a.eval):=by
  cases x with
  | none=>simp only [Z1Y,Option.some.injEq] at hd;subst hd;exact .inl ⟨rfl,rfl⟩
  | some x =>
    simp only [Z1Y] at hd
    obtain ⟨d',h1,h2⟩:=Z0 hd
    cases h2
    exact .inr ⟨d',_,rfl,rfl,Zq hf h1⟩
theorem Z6s {d:DV} {v:Value} {dflt y cap m:Nat} {code:BoundsCode} (hd:Z3i (some d) dflt y=some m) (hr:Rep β G d v) (hc:y≤cap):(Instr.sliceBound v cap code).run P w = .ok m w∧m≤y:=by
  cases d with
  | int k i =>
    rw [ZH] at hr;subst hr
    simp only [Z3i] at hd
    obtain ⟨hq,hd⟩:=Z2 hd
    simp only [Bool.and_eq_true,decide_eq_true_eq] at hq
    cases hd
    refine ⟨?_,by omega⟩
    have:(0:Int)≤i∧i≤(cap:Int):=⟨hq.1,by omega⟩
    simp [Instr.sliceBound,asIntOf,this]
  | _=>cases hd
theorem Z3M {isSlice:Bool} {n cap:Nat} {lo hi:Option DV} {vlo vhi:Option Value} (hl:Z9Y β G lo vlo) (hh:Z9Y β G hi vhi) {l m:Nat}
    (h1:Z3i hi n n=some m) (h2:Z3i lo 0 m=some l) (hc:n≤cap):(Instr.sliceBounds isSlice n cap vlo vhi none).run P w = .ok (l,m,cap) w∧l≤m∧m≤n:=by
  rcases hh with ⟨rfl,rfl⟩|⟨dh,vh,rfl,rfl,hrh⟩<;>rcases hl with ⟨rfl,rfl⟩|⟨dl,vl,rfl,rfl,hrl⟩
  · cases h1;cases h2
    exact ⟨by simp [Instr.sliceBounds],by omega,Nat.le_refl _⟩
  · cases h1
    obtain ⟨k1,k2⟩:=Z6s (P:=P) (w:=w) (code := .sliceB) h2 hrl (Nat.le_refl _)
    exact ⟨by simp [Instr.sliceBounds,k1],k2,Nat.le_refl _⟩
  · cases h2
    obtain ⟨k1,k2⟩:=Z6s (P:=P) (w:=w) (code:=if isSlice then .sliceAcap else .sliceAlen) h1 hrh hc
    exact ⟨by simp [Instr.sliceBounds,k1],by omega,k2⟩
  · obtain ⟨k1,k2⟩:=Z6s (P:=P) (w:=w) (code:=if isSlice then .sliceAcap else .sliceAlen) h1 hrh hc
    obtain ⟨k3,k4⟩:=Z6s (P:=P) (w:=w) (code := .sliceB) h2 hrl (Nat.le_refl _)
    exact ⟨by simp [Instr.sliceBounds,k1,k3],k4,k2⟩
theorem Z6S {b e:Nat}:∀ {es:List (List DV)} {off:Nat} (n:Nat),Yk β G b e off es→Yk β G b e off (es.take n)
  | [],_,n,_=>by simp [Yk]
  | _::_,_,0,_=>by simp [Yk]
  | x::es,off,n+1,h=>by
    unfold Yk at h
    simp only [List.take_succ_cons]
    unfold Yk
    exact ⟨h.1,h.2.1,h.2.2.1,Z6S n h.2.2.2⟩
theorem Z6R {b e:Nat}:∀ {es:List (List DV)} {off:Nat} (n:Nat),Yk β G b e off es→Yk β G b e (off+n*e) (es.drop n)
  | [],_,n,_=>by simp [Yk]
  | _::_,_,0,h=>by simpa using h
  | x::es,off,n+1,h=>by
    unfold Yk at h
    have:=Z6R n h.2.2.2
    rwa [show off+e+n*e=off+(n+1)*e by rw [Nat.add_mul,Nat.one_mul];omega] at this
theorem ZbZ {t:TypeId} {ti ei:TI} (ht:ZN P t ti) {e:Nat} (hk:ti.k = .slice e) (he:ZN P e ei) {es:List (List DV)} {u:Value} (hsh:∃ A c,u = .slice A es.length c∧es.length≤c∧(es=[]∨∃ b off,A=some ⟨b,off,none⟩∧Yk β G b ei.size off es))
    {lo hi:Option DV} {vlo vhi:Option Value} (hl:Z9Y β G lo vlo) (hh:Z9Y β G hi vhi) {d:DV} (hd:Z7s es lo hi=some d) :
    ∃ r,(Instr.sliceAt t u vlo vhi none).run P w = .ok r w∧Rep β G d r:=by
  have hdesc:=ht.desc
  rw [hk] at hdesc
  obtain ⟨A,c,rfl,hle,hcell⟩:=hsh
  unfold Z7s at hd
  obtain ⟨m,h1,hd⟩:=Z0 hd
  obtain ⟨l,h2,hd⟩:=Z0 hd
  cases hd
  obtain ⟨k1,k2,k3⟩:=Z3M (P:=P) (w:=w) (isSlice:=true) hl hh h1 h2 hle
  have hlen:((es.take m).drop l).length=m-l:=by simp;omega
  refine ⟨.slice (if c=l then A else A.map (·.add (l*ei.size))) (m-l) (c-l),by simp [Instr.sliceAt,Instr.slice,Go.run_underlying hdesc,k1,he.run_sizeOf],Z5L.2 ?_⟩
  rw [hlen]
  refine ⟨_,_,⟨rfl,by omega⟩,?_⟩
  rcases hcell with rfl|⟨b,off,rfl,hp⟩
  · exact .inl (by simp)
  · by_cases hcl:c=l
    · left
      have:m=l:=by omega
      subst this
      simp
    · right
      refine ⟨b,off+l*ei.size,ei.size,?_,Z6R l (Z6S m hp)⟩
      simp [hcl,Yo]
end
end Go.Ab
namespace Go.Ab
open Go.RowKit
section
variable {P:Program} {E:Env} {w0:World} {G0:Gh} {D:DD} {o:Oper} {a:Act} {w:World} {β:Bi} {G:Gh} {h:Nat→Option Z8} {nid:Nat} {ρ:Nat→Option DV}
theorem Z6H {id:Nat} {o o':Z8} (ho:h id=some o):Z2M β β h (ZA h [(id,some o')]) nid:=fun i _ hf=>by
  refine ⟨?_,rfl,fun _=>rfl⟩
  rw [Y2]
  by_cases e:i=id
  · subst e;rw [hf] at ho;cases ho
  · rw [if_neg e];exact hf
theorem Z4O (hh:HR E w0 G0 D w β G h) {id b:Nat} {o o':Z8} {ob ob':Obj} (ho:h id=some o) (hown:Yl β id o b) (hb:w.heap[b]? = some ob) (hnc:∀ c t f,ob ≠ .cells c t f)
    (hown':∀ x,Yl β id o' x→x=b) (hob:Z2m E w0.heap.size (w.putObj b ob') β G id o'):HR E w0 G0 D (w.putObj b ob') β G (ZA h [(id,some o')]):=by
  have hlt:b<w.heap.size:=(Array.getElem?_eq_some_iff.1 hb).1
  obtain ⟨k1,_,k3⟩:=hh.own id o b ho hown
  refine hh.move (fun x=>x=b) id o' (Ext.refl β G) ?_ (fun x hx _=>World.putObj_heap_other hx) (fun _ _=>rfl) (by simp) ?_ ?_ ?_ hob ?_ ?_ (fun _ _=>⟨rfl,fun _=>rfl⟩)
  · exact hh.below.trans ⟨rfl,rfl,rfl,by simp,fun k hk=>World.putObj_heap_other (by omega)⟩
  · rintro x rfl;exact ⟨k1,k3⟩
  · rintro x id' o2 rfl ho2 hb2;exact hh.inj id' id o2 o x ho2 ho hb2 hown
  · rintro x rfl off v hg
    have:=hh.agree x off v hg
    unfold World.cell? at this
    rw [hb] at this
    cases ob<;>first|cases this|exact absurd rfl (hnc _ _ _)
  · intro x hx;exact .inl (hown' x hx)
  · intro x hx;rw [hown' x hx];simpa using hlt
theorem Z7T (s t:ByteArray):(s==t)=decide (s=t):=by
  cases s;cases t;rename_i a b
  have:((⟨a⟩:ByteArray)==⟨b⟩)=(a==b):=rfl
  rw [this]
  by_cases h:a=b
  · subst h;simp
  · simp [h]
theorem Z1s {b:Bool} {kt:TypeId} {dd:TypeDesc} {v:Value} (hu:P.underlying kt=some dd) (hd:match dd with | .bool | .int _ | .string=>True|_=>False) (d:Nat):(Instr.checkKey b (d+1) kt v).run P w = .ok () w:=by
  cases dd<;>simp only at hd<;>simp [Instr.checkKey,Go.run_underlying hu]
theorem ZbU (n:Nat) (k j:IntKind) (x y:Int):Instr.sameBits n (.int k x) (.int j y)=(k==j&&x==y):=by cases n<;>simp [Instr.sameBits]
theorem ZbV (n:Nat) (x y:ByteArray):Instr.sameBits n (.string x) (.string y)=(x==y):=by cases n<;>simp [Instr.sameBits]
theorem Z9N (n:Nat) (x y:Bool):Instr.sameBits n (.bool x) (.bool y)=(x==y):=by cases n<;>simp [Instr.sameBits]
def scK:DV→Bool
  | .agg _=>false
  | _=>true
theorem Z3f:∀ {zs xs ys:List DV} {r:Bool},Zg xs ys=some r→Z9 zs xs=true→Z9 zs ys=true
  | [],[],[],_,_,_=>rfl
  | [],[],y::ys,_,h,_=>by cases y<;>simp [Zg] at h
  | [],x::xs,_,_,_,hk=>by simp [Z9] at hk
  | z::zs,[],_,_,_,hk=>by cases z<;>simp [Z9] at hk
  | z::zs,x::xs,[],_,h,_=>by cases x<;>simp [Zg] at h
  | z::zs,x::xs,y::ys,r,h,hk=>by
    cases x<;>cases y<;>simp only [Zg,reduceCtorEq] at h
    · obtain ⟨q,h1,_⟩:=Z0 h
      cases z<;>simp only [Z9,Bool.false_eq_true] at hk ⊢
      exact Z3f h1 hk
    · obtain ⟨hq,h⟩:=Z2 h
      obtain ⟨q,h1,_⟩:=Z0 h
      cases z<;>simp only [Z9,Bool.false_eq_true,Bool.and_eq_true] at hk ⊢
      have:=eq_of_beq hq
      subst this
      exact ⟨hk.1,Z3f h1 hk.2⟩
    · obtain ⟨q,h1,_⟩:=Z0 h
      cases z<;>simp only [Z9,Bool.false_eq_true] at hk ⊢
      exact Z3f h1 hk
theorem Z1Z:∀ {zs xs:List DV},Z9 zs xs=true→xs.all ZcR=true
  | [],[],_=>rfl
  | [],x::xs,h=>by simp [Z9] at h
  | z::zs,[],h=>by cases z<;>simp [Z9] at h
  | z::zs,x::xs,h=>by
    cases z<;>cases x<;>simp only [Z9,Bool.false_eq_true,Bool.and_eq_true] at h
    · simp [ZcR,Z1Z h]
    · simp [ZcR,Z1Z h.2]
    · simp [ZcR,Z1Z h]
theorem Z41 (n:Nat):∀ {xs ys:List DV} {vx vy:List Value},Zg xs ys=some true→Zd β G xs vx→Zd β G ys vy→vy.length=vx.length∧((vy.zip vx).all fun p=>Instr.sameBits n p.1 p.2)=true
  | [],[],vx,vy,_,hx,hy=>by rw [Zo] at hx hy;subst hx hy;exact ⟨rfl,rfl⟩
  | [],y::ys,_,_,h,_,_=>by cases y<;>simp [Zg] at h
  | x::xs,[],_,_,h,_,_=>by cases x<;>simp [Zg] at h
  | x::xs,y::ys,vx,vy,h,hx,hy=>by
    obtain ⟨u,vx',rfl,hu,hx'⟩:=Zc.1 hx
    obtain ⟨u',vy',rfl,hu',hy'⟩:=Zc.1 hy
    cases x<;>cases y<;>simp only [Zg,reduceCtorEq] at h
    · obtain ⟨q,h1,h2⟩:=Z0 h
      simp only [Option.some.injEq,Bool.and_eq_true] at h2
      rw [h2.2] at h1
      obtain ⟨k1,k2⟩:=Z41 n h1 hx' hy'
      rw [ZK] at hu hu';subst hu hu'
      have:=eq_of_beq h2.1
      subst this
      exact ⟨by simp [k1],by simp only [List.zip_cons_cons,List.all_cons,k2,Z9N,beq_self_eq_true,Bool.and_self]⟩
    · obtain ⟨hq,h⟩:=Z2 h
      obtain ⟨q,h1,h2⟩:=Z0 h
      simp only [Option.some.injEq,Bool.and_eq_true] at h2
      rw [h2.2] at h1
      obtain ⟨k1,k2⟩:=Z41 n h1 hx' hy'
      rw [ZH] at hu hu';subst hu hu'
      have:=eq_of_beq h2.1
      have:=eq_of_beq hq
      subst_vars
      exact ⟨by simp [k1],by simp only [List.zip_cons_cons,List.all_cons,k2,ZbU,beq_self_eq_true,Bool.and_self]⟩
    · obtain ⟨q,h1,h2⟩:=Z0 h
      simp only [Option.some.injEq,Bool.and_eq_true] at h2
      rw [h2.2] at h1
      obtain ⟨k1,k2⟩:=Z41 n h1 hx' hy'
      rw [YW] at hu hu';subst hu hu'
      have h3:=h2.1
      rw [Z7T] at h3
      have:=of_decide_eq_true h3
      subst this
      refine ⟨by simp [k1],?_⟩
      simp only [List.zip_cons_cons,List.all_cons,k2,ZbV,Z7T,decide_true,Bool.and_self]
theorem Z7i {kt:TypeId} {ki:TI} (hk:ZN P kt ki) {k k':DV} {v v':Value} {r:Bool} (hf:Yg ki k=true) (hd:Z68 k k'=some r) (hr:Rep β G k v) (hr':Rep β G k' v') :
    ∃ dd,P.underlying kt=some dd∧(scK k=true→Instr.sameNow dd v v'=some r)∧(scK k=false→Instr.sameNow dd v v'=none∧∀ w,(Op.equal kt v v').run P w = .ok r w)∧(r=true→Instr.sameBits 10000 v' v=true):=by
  have hdesc:=hk.desc
  cases k with
  | int kk n =>
    cases hkk:ki.k<;>rw [hkk] at hdesc<;>simp [Yg,hkk] at hf
    cases k' with
    | int kk' n' =>
      rw [ZH] at hr hr';subst hr hr'
      simp only [Z68] at hd
      have hq:=(Z2 hd).1
      replace hd:=(Z2 hd).2
      have hq:kk=kk':=by simpa using hq
      subst hq
      simp only [Option.some.injEq] at hd
      subst hd
      refine ⟨_,hdesc,fun _=>by simp [Instr.sameNow],fun h=>(by cases h),fun h => ?_⟩
      have:n=n':=by simpa using h
      subst this
      rw [ZbU];simp
    | _=>cases hd
  | str s =>
    cases hkk:ki.k<;>rw [hkk] at hdesc<;>simp [Yg,hkk] at hf
    cases k' with
    | str s' =>
      rw [YW] at hr hr';subst hr hr'
      simp only [Z68,Option.some.injEq] at hd
      subst hd
      refine ⟨_,hdesc,fun _=>by simp [Instr.sameNow],fun h=>(by cases h),fun h => ?_⟩
      rw [Z7T] at h
      have:s=s':=by simpa using h
      subst this
      rw [ZbV,Z7T];simp
    | _=>cases hd
  | bool b =>
    cases hkk:ki.k<;>rw [hkk] at hdesc<;>simp [Yg,hkk] at hf
    cases k' with
    | bool b' =>
      rw [ZK] at hr hr';subst hr hr'
      simp only [Z68,Option.some.injEq] at hd
      subst hd
      refine ⟨_,hdesc,fun _=>by simp [Instr.sameNow],fun h=>(by cases h),fun h => ?_⟩
      have:b=b':=by simpa using h
      subst this
      rw [Z9N];simp
    | _=>cases hd
  | agg cs =>
    cases hkk:ki.k<;>rw [hkk] at hdesc<;>simp [Yg,hkk] at hf
    cases k' with
    | agg cs' =>
      obtain ⟨vx,rfl,hx⟩:=Yx.1 hr
      obtain ⟨vy,rfl,hy⟩:=Yx.1 hr'
      simp only [Z68] at hd
      obtain ⟨fields,hu,_⟩:=hdesc
      refine ⟨_,hu,fun h=>(by cases h),fun _=>⟨rfl,fun w=>(hk.eqr hf.1.1).1 cs cs' r hd hf.2 (Z3f hd hf.2) β G vx vy w hx hy⟩,fun h => ?_⟩
      subst h
      obtain ⟨k1,k2⟩:=Z41 (β:=β) (G:=G) 9999 hd hx hy
      show (vy.toArray.size==vx.toArray.size&&(vy.toArray.toList.zip vx.toArray.toList).all fun (x,y)=>Instr.sameBits 9999 x y)=true
      simp only [List.size_toArray,k1,beq_self_eq_true,Bool.true_and]
      exact k2
    | _=>cases hd
  | _=>cases hkk:ki.k<;>simp [Yg,hkk] at hf
theorem Zbp {kt:TypeId} {ki:TI} (hk:ZN P kt ki) {k:DV} {v:Value} (hf:Yg ki k=true) (hr:Rep β G k v):∃ dd,P.underlying kt=some dd∧(∀ b w,(Instr.checkKey b 10000 kt v).run P w = .ok () w)∧(scK k=false→∃ fs,dd = .struct fs):=by
  have hdesc:=hk.desc
  cases hkk:ki.k<;>rw [hkk] at hdesc<;>cases k<;>simp [Yg,hkk] at hf
  · rw [ZK] at hr;subst hr;exact ⟨_,hdesc,fun b w=>Z1s hdesc trivial 9999,fun h=>by cases h⟩
  · rw [ZH] at hr;subst hr;exact ⟨_,hdesc,fun b w=>Z1s hdesc trivial 9999,fun h=>by cases h⟩
  · rw [YW] at hr;subst hr;exact ⟨_,hdesc,fun b w=>Z1s hdesc trivial 9999,fun h=>by cases h⟩
  · obtain ⟨vx,rfl,hx⟩:=Yx.1 hr
    obtain ⟨fields,hu,_⟩:=hdesc
    exact ⟨_,hu,fun b w=>hk.key hf.1.2 _ hf.2 b β G vx w hx,fun _=>⟨_,rfl⟩⟩
theorem Zdi {ki:TI} {k:DV} (hf:Yg ki k=true):keyOk k=true:=by
  cases hkk:ki.k<;>cases k<;>simp [Yg,hkk] at hf<;>first|rfl|skip
  exact Z1Z hf.2
def FN (P:Program) (kt:TypeId) (dd:TypeDesc) (sc:Bool) (v:Value) (ms:List MapEntry) (i:Nat) (r:Option (Nat×Value)):Prop :=
  (sc=true→Instr.findNow dd v ms i=some r)∧(sc=false→(∀ w,(Instr.findAsking kt v ms i).run P w = .ok r w)∧(Instr.findNow dd v ms i=none∨(ms=[]∧r=none)))
theorem FN.run {kt:TypeId} {dd:TypeDesc} {sc:Bool} {v:Value} {ms:List MapEntry} {r:Option (Nat×Value)} (h:FN P kt dd sc v ms 0 r) (hu:P.underlying kt=some dd) (w:World):(Instr.findKey kt v ms).run P w = .ok r w:=by
  cases sc with
  | true=>simp [Instr.findKey,Go.run_underlying hu,h.1 rfl]
  | false =>
    obtain ⟨h1,h2⟩:=h.2 rfl
    rcases h2 with h2|⟨rfl,rfl⟩
    · simp [Instr.findKey,Go.run_underlying hu,h2,h1]
    · simp [Instr.findKey,Go.run_underlying hu,Instr.findNow]
theorem FN.nil {kt:TypeId} {dd:TypeDesc} {sc:Bool} {v:Value} {i:Nat}:FN P kt dd sc v [] i none :=
  ⟨fun _=>rfl,fun _=>⟨fun w=>rfl,.inr ⟨rfl,rfl⟩⟩⟩
theorem FN.hit {kt:TypeId} {dd:TypeDesc} {sc:Bool} {v:Value} {m:MapEntry} {ms:List MapEntry} {i:Nat} (h1:sc=true→Instr.sameNow dd v m.key=some true) (h2:sc=false→Instr.sameNow dd v m.key=none∧∀ w,(Op.equal kt v m.key).run P w = .ok true w):FN P kt dd sc v (m::ms) i (some (i,m.val)) :=
  ⟨fun h=>by simp [Instr.findNow,h1 h],fun h=>⟨fun w=>by simp [Instr.findAsking,(h2 h).2],.inl (by simp [Instr.findNow,(h2 h).1])⟩⟩
theorem FN.miss {kt:TypeId} {dd:TypeDesc} {sc:Bool} {v:Value} {m:MapEntry} {ms:List MapEntry} {i:Nat} {r:Option (Nat×Value)} (h1:sc=true→Instr.sameNow dd v m.key=some false) (h2:sc=false→Instr.sameNow dd v m.key=none∧∀ w,(Op.equal kt v m.key).run P w = .ok false w) (h:FN P kt dd sc v ms (i+1) r):FN P kt dd sc v (m::ms) i r :=
  ⟨fun hs=>by simp [Instr.findNow,h1 hs,h.1 hs],fun hs=>⟨fun w=>by simp [Instr.findAsking,(h2 hs).2,(h.2 hs).1],.inl (by simp [Instr.findNow,(h2 hs).1])⟩⟩
theorem Z8e {kt:TypeId} {ki:TI} (hk:ZN P kt ki) {k:DV} {v:Value} (hf:Yg ki k=true) (hr:Rep β G k v) {dd:TypeDesc} (hdd:P.underlying kt=some dd) :
    ∀ {es:List (DV×DV)} {ms:List MapEntry} {r:Option DV} (i:Nat),Z6y β G es ms→Z2A k es=some r →
    ∃ r',FN P kt dd (scK k) v ms i r'∧((r=none∧r'=none)∨∃ d j u,r=some d∧r'=some (i+j,u)∧Rep β G d u)
  | [],ms,r,i,hm,hd=>by
    simp only [Z6y] at hm;subst hm
    simp only [Z2A,Option.some.injEq] at hd;subst hd
    exact ⟨none,FN.nil,.inl ⟨rfl,rfl⟩⟩
  | (k',d')::es,ms,r,i,⟨m,ms',hms,h2,h3,h4,h5,h6⟩,hd=>by
    subst hms
    simp only [Z2A] at hd
    obtain ⟨b,hb,hd⟩:=Z0 hd
    obtain ⟨dd',h7,h8,h9,_⟩:=Z7i hk hf hb hr h2
    rw [hdd] at h7;cases h7
    cases b with
    | true =>
      cases hd
      exact ⟨_,FN.hit h8 h9,.inr ⟨d',0,m.val,rfl,rfl,h3⟩⟩
    | false =>
      obtain ⟨r',h10,h11⟩:=Z8e hk hf hr hdd (i+1) h6 hd
      refine ⟨r',FN.miss h8 h9 h10,?_⟩
      rcases h11 with h11|⟨d,j,u,e1,e2,e3⟩
      · exact .inl h11
      · exact .inr ⟨d,j+1,u,e1,by rw [e2];congr 2;omega,e3⟩
theorem Zaj (hE:∀ t ti,E.ty t=some ti→ZN P t ti) (hh:HR E w0 G0 D w β G h) {t kt e:TypeId} {ti ei ki:TI} (hti:ZN P t ti) (hkk:ti.k = .map kt e) (hei:ZN P e ei) (hki:ZN P kt ki)
    {m k:DV} {um uk:Value} (hk:Rep β G k uk) (hf:Yg ki k=true) {es:List (DV×DV)}
    (hes:(match m with | .nilmap=>some [] | .map id=>(h id).bind (fun | .map es=>some es|_=>none)|_=>none)=some es) {r:Option DV} (hr:Z2A k es=some r) {z:DV} (hz:ei.zero=[z]) (hsz:ei.size=1) (hna:ei.isAgg=false)
    (ok:Bool) (hm:Rep β G m um):∃ v,(Instr.lookup t um uk ok).run P w = .ok v w∧Rep β G (match r with|some d=>(bif ok then .tup [d,.bool true] else d)|none=>(bif ok then .tup [z,.bool false] else z)) v:=by
  have hdesc:=hti.desc
  rw [hkk] at hdesc
  obtain ⟨dd,hdd,hck,_⟩:=Zbp (β:=β) (G:=G) hki hf hk
  obtain ⟨i,zv,hi,_,_,hzv,_⟩:=hei.info
  have hzrep:Rep β G z zv:=hei.zr hna z hz i zv hi hzv β G
  have hzrun:(zeroValue e).run P w = .ok zv w:=by simp [zeroValue,typeInfo,hi,hzv]
  have fin:∀ {r':Option (Nat×Value)},((r=none∧r'=none)∨∃ d j u,r=some d∧r'=some (0+j,u)∧Rep β G d u) →
      Rep β G (match r with|some d=>(bif ok then .tup [d,.bool true] else d)|none=>(bif ok then .tup [z,.bool false] else z))
        (match r' with|some (_,v)=>(if ok then Value.tuple #[v,.bool true] else v)|none=>(if ok then Value.tuple #[zv,.bool false] else zv)):=by
    rintro r' (⟨rfl,rfl⟩|⟨d,j,u,rfl,rfl,e3⟩)
    · cases ok
      · exact hzrep
      · exact YX.2 ⟨[zv,.bool false],rfl,Zc.2 ⟨_,_,rfl,hzrep,Zc.2 ⟨_,_,rfl,ZK.2 rfl,Zo.2 rfl⟩⟩⟩
    · cases ok
      · exact e3
      · exact YX.2 ⟨[u,.bool true],rfl,Zc.2 ⟨_,_,rfl,e3,Zc.2 ⟨_,_,rfl,ZK.2 rfl,Zo.2 rfl⟩⟩⟩
  cases m with
  | nilmap =>
    cases hes
    rw [Z5K] at hm;subst hm
    cases hr
    have hfind:(Instr.findKey kt uk ([]:List MapEntry)).run P w = .ok none w:=by simp [Instr.findKey,Go.run_underlying hdd,Instr.findNow]
    refine ⟨_,?_,fin (r':=none) (.inl ⟨rfl,rfl⟩)⟩
    simp [Instr.lookup,Go.run_underlying hdesc,hck,hfind,hzrun]
  | map id =>
    obtain ⟨ob,ho,hes⟩:=Z0 hes
    cases ob with
    | map es' =>
      cases hes
      obtain ⟨b,hb,rfl⟩:=Z7I.1 hm
      obtain ⟨b',ms,clock,h1,h2,h3⟩:=hh.obj id _ ho
      rw [hb] at h1;cases h1
      have hget:(getObj b).run P w = .ok (.map ms clock) w:=by simp [getObj,Sem.run,h2]
      obtain ⟨r',h4,h5⟩:=Z8e hki hf hk hdd 0 h3 hr
      have hfind:(Instr.findKey kt uk ms.toList).run P w = .ok r' w:=h4.run hdd w
      refine ⟨_,?_,fin h5⟩
      cases r' with
      | none=>simp [Instr.lookup,Go.run_underlying hdesc,hget,hck,hfind,hzrun]
      | some jx=>simp [Instr.lookup,Go.run_underlying hdesc,hget,hck,hfind]
    | _=>cases hes
  | _=>cases hes
theorem Z9F {kt:TypeId} {ki:TI} (hk:ZN P kt ki) {k d:DV} {v u:Value} (hf:Yg ki k=true) (hr:Rep β G k v) (hu:Rep β G d u) (hif:Zb d=true) {dd:TypeDesc} (hdd:P.underlying kt=some dd) :
    ∀ {es es':List (DV×DV)} {ms:List MapEntry} (i clock:Nat),Z6y β G es ms→Z4w k d es=some es' →
    ∃ r',FN P kt dd (scK k) v ms i r'∧(∀ j x,r'=some (j,x)→i≤j∧∃ m,ms[j-i]? = some m∧Instr.sameBits 10000 m.key v=true) ∧
      Z6y β G es' (match r' with|some (j,_)=>ms.modify (j-i) (fun e=>{ e with key:=v,val:=u })|none=>ms++[{ key:=v,val:=u,born:=clock }])
  | [],es',ms,i,clock,hm,hd=>by
    simp only [Z6y] at hm;subst hm
    simp only [Z4w,Option.some.injEq] at hd;subst hd
    have hko:keyOk k=true:=Zdi hf
    exact ⟨none,FN.nil,by simp,⟨_,[],rfl,hr,hu,hko,hif,rfl⟩⟩
  | (k',d')::es,es',ms,i,clock,⟨m,ms',hms,h2,h3,h4,h5,h6⟩,hd=>by
    subst hms
    simp only [Z4w] at hd
    obtain ⟨b,hb,hd⟩:=Z0 hd
    obtain ⟨dd',h7,h8,h8',h9⟩:=Z7i hk hf hb hr h2
    rw [hdd] at h7;cases h7
    have hko:keyOk k=true:=Zdi hf
    cases b with
    | true =>
      cases hd
      refine ⟨some (i,m.val),FN.hit h8 h8',fun j x hj => ?_,?_⟩
      · cases hj
        exact ⟨Nat.le_refl _,m,by simp,h9 rfl⟩
      · simp only [Nat.sub_self,List.modify_zero_cons]
        exact ⟨_,ms',rfl,hr,hu,hko,hif,h6⟩
    | false =>
      obtain ⟨es2,h10,hd⟩:=Z0 hd
      cases hd
      obtain ⟨r',h11,h12,h13⟩:=Z9F hk hf hr hu hif hdd (i+1) clock h6 h10
      refine ⟨r',FN.miss h8 h8' h11,fun j x hj => ?_,?_⟩
      · obtain ⟨k1,m1,k2,k3⟩:=h12 j x hj
        exact ⟨by omega,m1,by rw [show j-i=(j-(i+1))+1 by omega];simpa using k2,k3⟩
      · cases r' with
        | none=>exact ⟨m,_,rfl,h2,h3,h4,h5,h13⟩
        | some jx =>
          obtain ⟨j,x⟩:=jx
          obtain ⟨k1,_⟩:=h12 j x rfl
          simp only at h13 ⊢
          rw [show j-i=(j-(i+1))+1 by omega,List.modify_succ_cons]
          exact ⟨m,_,rfl,h2,h3,h4,h5,h13⟩
theorem Z7x (hh:HR E w0 G0 D w β G h) {t kt e:TypeId} {ti ki:TI} (hti:ZN P t ti) (hkk:ti.k = .map kt e) (hki:ZN P kt ki)
    {id:Nat} {k d:DV} {um uk u:Value} (hm:Rep β G (.map id) um) (hk:Rep β G k uk) (hu:Rep β G d u) (hif:Zb d=true) (hf:Yg ki k=true) {es es':List (DV×DV)}
    (ho:h id=some (.map es)) (hp:Z4w k d es=some es') :
    ∃ w',(Instr.mapUpdate t um uk u).run P w = .ok () w'∧HR E w0 G0 D w' β G (ZA h [(id,some (.map es'))])∧Z2M β β h (ZA h [(id,some (.map es'))]) nid:=by
  have hdesc:=hti.desc
  rw [hkk] at hdesc
  obtain ⟨dd,hdd,hck,_⟩:=Zbp (β:=β) (G:=G) hki hf hk
  obtain ⟨b,hb,rfl⟩:=Z7I.1 hm
  obtain ⟨b',ms,clock,h1,h2,h3⟩:=hh.obj id _ ho
  rw [hb] at h1;cases h1
  obtain ⟨r',h4,h5,h6⟩:=Z9F hki hf hk hu hif hdd 0 clock h3 hp
  have hfind:(Instr.findKey kt uk ms.toList).run P w = .ok r' w:=h4.run hdd w
  have hget:(getObj b).run P w = .ok (.map ms clock) w:=by simp [getObj,Sem.run,h2]
  have hset:∀ ob,(setObj b ob).run P w = .ok () (w.putObj b ob):=fun ob=>by simp [setObj,Sem.run,h2,World.putObj]
  cases r' with
  | none =>
    refine ⟨w.putObj b (.map (ms.push { key:=uk,val:=u,born:=clock }) (clock+1)),by simp [Instr.mapUpdate,Go.run_underlying hdesc,hget,hck,hfind,hset],?_,Z6H ho⟩
    refine Z4O hh ho hb h2 (by intros;simp) (fun x hx=>by rw [show β.blk id=some x from hx] at hb;cases hb;rfl) ?_
    exact ⟨b,_,_,hb,World.putObj_heap_same (Array.getElem?_eq_some_iff.1 h2).1,by simpa using h6⟩
  | some jx =>
    obtain ⟨j,x⟩:=jx
    obtain ⟨_,m1,k2,k3⟩:=h5 j x rfl
    have k2':ms[j]? = some m1:=by simpa using k2
    refine ⟨w.putObj b (.map (ms.modify j fun e=>{ e with key:=uk,val:=u }) clock),by simp [Instr.mapUpdate,Go.run_underlying hdesc,hget,hck,hfind,hset,Instr.keyThatStays,k2',k3],?_,Z6H ho⟩
    refine Z4O hh ho hb h2 (by intros;simp) (fun x hx=>by rw [show β.blk id=some x from hx] at hb;cases hb;rfl) ?_
    exact ⟨b,_,_,hb,World.putObj_heap_same (Array.getElem?_eq_some_iff.1 h2).1,by simpa using h6⟩
end
end Go.Ab
namespace Go.Ab
open Go.RowKit
section
variable {P:Program} {E:Env} {w0:World} {G0:Gh} {D:DD} {o:Oper} {a:Act} {w:World} {β:Bi} {G:Gh} {h:Nat→Option Z8} {nid:Nat} {ρ:Nat→Option DV}
theorem Z6V {t:TypeId} {d:DV} {v:Value}:Rep β G (.iface t d) v↔∃ u,v = .iface t u∧Rep β G d u:=by conv=>lhs;unfold Rep
theorem Zeh {v:Value}:Rep β G .nilif v↔v = .nilIface:=by conv=>lhs;unfold Rep
theorem ZaR {t:TypeId} {ti:TI} (ht:ZN P t ti) {z:DV} (hz:Z17 ti=some z):∃ zv,(zeroValue t).run P w = .ok zv w∧Rep β G z zv:=by
  obtain ⟨i,zv,hi,_,_,hzv,hsz,hrep⟩:=ht.info
  refine ⟨zv,by simp [zeroValue,typeInfo,hi,hzv],?_⟩
  unfold Z17 at hz
  cases ha:ti.isAgg with
  | true =>
    rw [ha] at hz
    simp only [cond_true,Option.some.injEq] at hz
    subst hz
    obtain ⟨cs,rfl⟩:=ht.za ha i zv hi hzv
    have:=hrep β G
    exact Yx.2 ⟨cs.toList,by simp,by simpa [Value.cells] using this⟩
  | false =>
    rw [ha] at hz
    simp only [cond_false] at hz
    cases hzz:ti.zero with
    | nil=>rw [hzz] at hz;cases hz
    | cons d ds =>
      rw [hzz] at hz
      simp only [List.head?_cons,Option.some.injEq] at hz
      subst hz
      cases ds with
      | nil=>exact ht.zr ha d hzz i zv hi hzv β G
      | cons e es =>
        exfalso
        have h1:=ZF (hrep β G)
        rw [hzz] at h1
        have hna:∀ cs,zv ≠ .agg cs:=fun cs hc=>by
          subst hc
          have:=ht.zn ha
          rw [hzz] at this
          simp at this
        have:zv.cells = #[zv]:=by
          cases zv<;>first|rfl|exact absurd rfl (hna _)
        rw [this] at h1
        simp at h1
theorem Z9U {t:TypeId} {ti:TI} (ht:ZN P t ti) (hk:ti.k ≠ .iface):∃ d,P.underlying t=some d∧∀ ms,d ≠ .interface ms:=by
  have hd:=ht.desc
  cases hkk:ti.k<;>rw [hkk] at hd<;>simp only at hd
  all_goals first
    | exact ⟨_,hd,fun _ h=>by cases h⟩
    | (obtain ⟨f,hd,_⟩:=hd;exact ⟨_,hd,fun _ h=>by cases h⟩)
    | (obtain ⟨a,b,c,hd⟩:=hd;exact ⟨_,hd,fun _ h=>by cases h⟩)
    | (exact absurd hkk hk)
theorem Z7v {t:TypeId} {ti:TI} (ht:ZN P t ti) (hk:ti.k ≠ .iface) {d:DV} {v:Value} (hr:Rep β G d v):(Instr.makeInterface t v).run P w = .ok (.iface t v) w∧Rep β G (.iface t d) (.iface t v):=by
  obtain ⟨dd,hu,hn⟩:=Z9U ht hk
  refine ⟨?_,Z6V.2 ⟨v,rfl,hr⟩⟩
  unfold Instr.makeInterface
  rw [Sem.run_bind,Go.run_underlying hu w]
  cases dd<;>first|rfl|exact absurd rfl (hn _)
theorem Z75 {t xt:TypeId} {ti:TI} (ht:ZN P t ti) (hk:ti.k ≠ .iface) {x d:DV} {v:Value} {ok:Bool}
    (hd:(match x with
      | .nilif=>bif ok then (Z17 ti).bind fun z=>some (.tup [z,.bool false]) else none
      | .iface t' v=>bif Nat.beq t' t then some (bif ok then .tup [v,.bool true] else v) else bif ok then (Z17 ti).bind fun z=>some (.tup [z,.bool false]) else none
      | _=>none:Option DV)=some d) (hr:Rep β G x v):∃ r,(Instr.typeAssert v xt t ok).run P w = .ok r w∧Rep β G d r:=by
  obtain ⟨dd,hu,hn⟩:=Z9U ht hk
  have fail:∀ {z:DV},Z17 ti=some z→∃ zv,(zeroValue t).run P w = .ok zv w∧Rep β G (.tup [z,.bool false]) (.tuple #[zv,.bool false]):=fun hz=>by
    obtain ⟨zv,h1,h2⟩:=ZaR (P:=P) (w:=w) (β:=β) (G:=G) ht hz
    exact ⟨zv,h1,YX.2 ⟨[zv,.bool false],rfl,Zc.2 ⟨_,_,rfl,h2,Zc.2 ⟨_,_,rfl,ZK.2 rfl,Zo.2 rfl⟩⟩⟩⟩
  cases x with
  | nilif =>
    rw [Zeh] at hr;subst hr
    cases ok with
    | false=>cases hd
    | true =>
      obtain ⟨z,hz,hd⟩:=Z0 hd
      cases hd
      obtain ⟨zv,h1,h2⟩:=fail hz
      refine ⟨_,?_,h2⟩
      unfold Instr.typeAssert
      rw [Sem.run_bind,Go.run_underlying hu w]
      cases dd<;>first|(simp [Result.andThen,h1];done)|exact absurd rfl (hn _)
  | iface t' d' =>
    obtain ⟨u,rfl,hu'⟩:=Z6V.1 hr
    simp only at hd
    cases hq:Nat.beq t' t with
    | true =>
      have:t'=t:=Nat.eq_of_beq_eq_true hq
      subst this
      rw [hq] at hd
      simp only [cond_true,Option.some.injEq] at hd
      subst hd
      cases ok with
      | true =>
        refine ⟨.tuple #[u,.bool true],?_,YX.2 ⟨[u,.bool true],rfl,Zc.2 ⟨_,_,rfl,hu',Zc.2 ⟨_,_,rfl,ZK.2 rfl,Zo.2 rfl⟩⟩⟩⟩
        unfold Instr.typeAssert
        rw [Sem.run_bind,Go.run_underlying hu w]
        cases dd<;>first|(simp [Result.andThen];done)|exact absurd rfl (hn _)
      | false =>
        refine ⟨u,?_,hu'⟩
        unfold Instr.typeAssert
        rw [Sem.run_bind,Go.run_underlying hu w]
        cases dd<;>first|(simp [Result.andThen];done)|exact absurd rfl (hn _)
    | false =>
      have hne:t'≠t:=fun e=>by subst e;rw [Nat.beq_refl] at hq;cases hq
      rw [hq] at hd
      simp only [cond_false] at hd
      cases ok with
      | false=>cases hd
      | true =>
        obtain ⟨z,hz,hd⟩:=Z0 hd
        cases hd
        obtain ⟨zv,h1,h2⟩:=fail hz
        refine ⟨_,?_,h2⟩
        unfold Instr.typeAssert
        rw [Sem.run_bind,Go.run_underlying hu w]
        cases dd<;>first|(simp [Result.andThen,h1,hne];done)|exact absurd rfl (hn _)
  | _=>cases hd
theorem Z96 (z:Array Value) (e:Nat) (he:z.size=e) (hpos:0<e):∀ k,((Array.range (k*e)).map (z[· % z.size]!)).toList=(List.replicate k z.toList).flatten
  | 0=>by simp
  | k+1=>by
    have ih:=Z96 z e he hpos k
    simp only [Array.toList_map,Array.toList_range] at ih ⊢
    rw [List.replicate_succ,List.flatten_cons,←ih,show (k+1)*e=e+k*e by rw [Nat.add_mul,Nat.one_mul,Nat.add_comm],List.range_add,List.map_append,List.map_map]
    congr 1
    · apply List.ext_getElem
      · simp [he]
      · intro i h1 h2
        simp only [List.length_map,List.length_range] at h1
        simp only [List.getElem_map,List.getElem_range,Array.getElem_toList]
        rw [he,Nat.mod_eq_of_lt h1]
        simp [he,h1]
    · apply List.map_congr_left
      intro i _
      simp only [Function.comp_def]
      rw [he,Nat.add_mod_left]
theorem ZbK {zs:List DV} {vs:List Value} (h:Zd β G zs vs):∀ k,Zd β G (List.replicate k zs).flatten (List.replicate k vs).flatten
  | 0=>by simp [Zo]
  | k+1=>by
    rw [List.replicate_succ,List.replicate_succ,List.flatten_cons,List.flatten_cons]
    exact ZY.2 ⟨_,_,rfl,h,ZbK h k⟩
theorem Z7w (hE:∀ t ti,E.ty t=some ti→ZN P t ti) (hh:HR E w0 G0 D w β G h) (hfr:ZJ β h nid) {t e:TypeId} {ti ei:TI} (ht:ZN P t ti) (hk:ti.k = .slice e) (hei:E.ty e=some ei) {k1 k2:IntKind} {n:Int}
    (h0:0≤n) (hb:n.toNat*(ei.bytes+1)≤200000000000000) (hpos:0<ei.size) (hzf:Za ei.zero=true) :
    ∃ v w' β',(Instr.makeSlice t (.int k1 n) (.int k2 n)).run P w = .ok v w'∧Rep β' G (.rs nid 0) v∧Ext β G β' G∧HR E w0 G0 D w' β' G (ZA h [(nid,some (.row e (List.replicate n.toNat ei.zero) 0 0))])∧Z2M β β' h (ZA h [(nid,some (.row e (List.replicate n.toNat ei.zero) 0 0))]) nid:=by
  have htd:=ht.desc
  rw [hk] at htd
  have he:=hE e ei hei
  have hesz:=Z5Z hei
  obtain ⟨ie,z,hi,hs,hby,hz,hzs,hrep⟩:=he.info
  obtain ⟨m,rfl⟩:∃ m:Nat,n=(m:Int):=⟨n.toNat,by omega⟩
  simp only [Int.toNat_natCast] at hb ⊢
  have hm1:m≤200000000000000:=by
    have:=Nat.le_mul_of_pos_right m (show 0<ei.bytes+1 by omega)
    omega
  have hm2:ei.bytes*m≤200000000000000:=by
    have h1:=Nat.mul_le_mul_left m (show ei.bytes≤ei.bytes+1 by omega)
    rw [Nat.mul_comm] at h1;omega
  have hmax:m≤maxLen:=by simp only [maxLen];omega
  obtain ⟨w',hrun,hown,hgr⟩:=run_make_full (P:=P) w w0.heap.size t e ie z ei.size htd hi hz hs k1 k2 m (by rw [hby];omega) hmax hh.below.size
  have hcells:(madeCells z.cells (m*ei.size)).toList=(List.replicate m z.cells.toList).flatten:=Z96 z.cells ei.size hzs hpos m
  have hr2:Zd β G (List.replicate m ei.zero).flatten (madeCells z.cells (m*ei.size)).toList:=by
    rw [hcells];exact ZbK (hrep β G) m
  have hown':w'.ownsRow w0.heap.size e (YJ E e) (.slice (some ⟨w.heap.size,0,none⟩) m m) (List.replicate m ei.zero).length (madeCells z.cells (m*ei.size)).toList:=by
    rw [hesz,List.length_replicate];exact hown
  have hzl:ei.zero.length=ei.size:=by have:=ZF (hrep β G);simp at this;omega
  obtain ⟨β',m1,m2,m3,m4⟩:=ZaH (nid:=nid) hh hfr hgr hown' (by intro b hb;cases hb;rfl) ⟨_,_,_,rfl⟩ hr2 (fun c hc=>by
    rw [List.mem_replicate] at hc
    rw [hesz,hc.2];exact ⟨hzl,hzf,he.zc⟩) (by rw [hesz];exact hpos)
  exact ⟨_,_,β',hrun,m2,m1,m3,m4⟩
theorem Z6e {β':Bi} {G':Gh} (hx:Ext β G β' G') {d:Option DV} {v:Option Value} (h:Z9Y β G d v):Z9Y β' G' d v:=by
  rcases h with h|⟨dd,vv,h1,h2,h3⟩
  · exact .inl h
  · exact .inr ⟨dd,vv,h1,h2,Rep.mono hx _ _ h3⟩
theorem Z5r (e:Nat):∀ (n:Nat) (cs:List DV),(Z1J e n cs).length=n
  | 0,_=>rfl
  | n+1,cs=>by simp [Z1J,Z5r e n]
theorem Z7Z {g e:Nat} (hG:∀ o:Nat,True):∀ (n:Nat) (cs:List DV) (off:Nat),n*e≤cs.length→Za (cs.take (n*e))=true→cs.all Zz=true→Pub β G g off cs→Yk β G g e off (Z1J e n cs)
  | 0,_,_,_,_,_,_=>by simp [Z1J,Yk]
  | n+1,cs,off,hl,hf,hc,hp=>by
    have hne:(n+1)*e=e+n*e:=by rw [Nat.add_mul,Nat.one_mul,Nat.add_comm]
    rw [hne] at hl hf
    unfold Z1J Yk
    have h1:(cs.take e).length=e:=by simp;omega
    have hf1:Za (cs.take e)=true:=Z14.2 fun c hc=>(Z14.1 hf) c (by
      rw [List.take_add];exact List.mem_append.2 (.inl hc))
    have hf2:Za ((cs.drop e).take (n*e))=true:=Z14.2 fun c hc=>(Z14.1 hf) c (by
      rw [List.take_add];exact List.mem_append.2 (.inr hc))
    have hc1:(cs.take e).all Zz=true:=List.all_eq_true.2 fun c hcc=>List.all_eq_true.1 hc c (List.mem_of_mem_take hcc)
    have hc2:(cs.drop e).all Zz=true:=List.all_eq_true.2 fun c hcc=>List.all_eq_true.1 hc c (List.mem_of_mem_drop hcc)
    have hp1:∀ (k:Nat) (cs:List DV) (off:Nat),Pub β G g off cs→Pub β G g off (cs.take k):=by
      intro k
      induction k with
      | zero=>intro cs off _;simp [Pub]
      | succ k ih =>
        intro cs off hp
        cases cs with
        | nil=>simp [Pub]
        | cons c cs=>unfold Pub at hp;simp only [List.take_succ_cons];unfold Pub;exact ⟨hp.1,ih cs (off+1) hp.2⟩
    exact ⟨h1,⟨hf1,hc1⟩,hp1 e cs off hp,Z7Z hG n (cs.drop e) (off+e) (by simp;omega) hf2 hc2 (Z6h e hp)⟩
theorem Z8V (hE:∀ t ti,E.ty t=some ti→ZN P t ti) (hh:HR E w0 G0 D w β G h) {t e:TypeId} {ti ei:TI} (ht:ZN P t ti) {n:Nat} (hk:ti.k = .array n e) (hei:E.ty e=some ei) {id off:Nat} {u:Value} (hr:Rep β G (.ptr id off) u)
    {ct:TypeId} {cs:List DV} (ho:h id=some (.cells ct cs)) (hle:off+n*ei.size≤cs.length) (hpos:0<ei.size) (hf:Za ((cs.drop off).take (n*ei.size))=true)
    {lo hi:Option DV} {vlo vhi:Option Value} (hl:Z9Y β G lo vlo) (hhi:Z9Y β G hi vhi) {d:DV} (hd:Z7s (Z1J ei.size n (cs.drop off)) lo hi=some d) :
    ∃ r G',(Instr.sliceAt t u vlo vhi none).run P w = .ok r w∧Rep β G' d r∧Ext β G β G'∧HR E w0 G0 D w β G' (ZA h [(id,none)]):=by
  have htd:=ht.desc
  rw [hk] at htd
  have he:=hE e ei hei
  obtain ⟨b,hb,rfl⟩:=Z2C.1 hr
  obtain ⟨b',vs,h1,h2,h3,h4,h5⟩:=hh.obj id _ ho
  rw [hb] at h1;cases h1
  have hown:Yl β id (.cells ct cs) b:=hb
  obtain ⟨hb0,hb1,hb2⟩:=hh.own id _ b ho hown
  have hcell:∀ j v,vs.toList[j]? = some v→w.cell? ⟨b,j,none⟩=some v:=fun j v hj=>by
    unfold World.cell?
    simp only [h2]
    simpa using hj
  have hx:Ext β G β (Z2d G b vs.toList):=⟨fun b' o v hg=>by
    unfold Z2d
    by_cases e:b'=b
    · subst e;rw [h5 o] at hg;cases hg
    · rw [if_neg e];exact hg,fun _ _ h=>h,fun _ _ _ h=>h⟩
  have hpub:Pub β (Z2d G b vs.toList) b 0 cs:=Z4E (Zd.mono hx _ _ h3) (fun j v hj=>by
    have hjl:j<vs.toList.length:=(List.getElem?_eq_some_iff.1 hj).1
    unfold Z2d
    rw [if_pos rfl,Nat.zero_add,if_pos hjl];exact hj)
  have hpub2:Yk β (Z2d G b vs.toList) b ei.size off (Z1J ei.size n (cs.drop off)):=by
    refine Z7Z (fun _=>trivial) n (cs.drop off) off (by simp;omega) hf (List.all_eq_true.2 fun c hcc=>List.all_eq_true.1 h4 c (List.mem_of_mem_drop hcc)) ?_
    have:=Z6h off hpub
    rwa [Nat.zero_add] at this
  unfold Z7s at hd
  obtain ⟨m,k1,hd⟩:=Z0 hd
  obtain ⟨l,k2,hd⟩:=Z0 hd
  cases hd
  rw [Z5r] at k1
  obtain ⟨q1,q2,q3⟩:=Z3M (P:=P) (w:=w) (isSlice:=false) (Z6e hx hl) (Z6e hx hhi) k1 k2 (Nat.le_refl _)
  have hlen:(((Z1J ei.size n (cs.drop off)).take m).drop l).length=m-l:=by simp [Z5r];omega
  refine ⟨.slice (some (if n=l then ⟨b,off,none⟩ else (⟨b,off,none⟩:Addr).add (l*ei.size))) (m-l) (n-l),Z2d G b vs.toList,?_,Z5L.2 ?_,hx,?_⟩
  · simp [Instr.sliceAt,Go.run_underlying htd,Instr.sureAddr,q1,he.run_sizeOf]
  · rw [hlen]
    refine ⟨_,_,⟨rfl,by omega⟩,?_⟩
    by_cases hcl:n=l
    · left
      have:m=l:=by omega
      subst this
      simp
    · right
      refine ⟨b,off+l*ei.size,ei.size,?_,Z6R l (Z6S m hpub2)⟩
      simp [hcl,Yo]
  ·
    have hless:HR E w0 G0 D w β G (ZA h [(id,none)]):=hh.less fun i x hi=>by
      rw [Y2] at hi
      by_cases ei:i=id
      · rw [if_pos ei] at hi;cases hi
      · rw [if_neg ei] at hi;exact hi
    have hne:∀ i x b',ZA h [(id,none)] i=some x→Yl β i x b'→b'≠b:=fun i x b' hi hb' e=>by
      subst e
      rw [Y2] at hi
      by_cases ei:i=id
      · rw [if_pos ei] at hi;cases hi
      · rw [if_neg ei] at hi;exact ei (hh.inj i id x _ b' hi ho hb' hown)
    refine ⟨hless.below,fun b' hlt => ?_,fun b' o v hg => ?_,fun i x hi => ?_,hless.own,hless.inj,fun d x hd => ?_⟩
    · rw [←hless.g0 b' hlt]
      funext o;unfold Z2d;rw [if_neg (by omega)]
    · unfold Z2d at hg
      by_cases e:b'=b
      · subst e
        rw [if_pos rfl] at hg
        by_cases hlt:o<vs.toList.length
        · rw [if_pos hlt] at hg;exact hcell o v hg
        · rw [if_neg hlt] at hg;exact hh.agree _ _ _ hg
      · rw [if_neg e] at hg;exact hh.agree _ _ _ hg
    · refine Z2m.keep hx (fun _=>rfl) (fun b' hb'=>⟨rfl,fun o => ?_⟩) (hless.obj i x hi)
      unfold Z2d
      rw [if_neg (hne i x b' hi hb')]
    · obtain ⟨q1,q2,q3⟩:=hless.marks d x hd
      refine ⟨q1,q2,fun o => ?_⟩
      unfold Z2d
      rw [if_neg (fun e=>by rw [e,(hh.own id _ b ho hown).2.2] at hd;cases hd)]
      exact q3 o
end
end Go.Ab
namespace Go.Ab
open Go.RowKit
section
variable {P:Program} {E:Env} {w0:World} {G0:Gh} {D:DD} {o:Oper} {a:Act} {w:World} {β:Bi} {G:Gh} {h:Nat→Option Z8} {nid:Nat} {ρ:Nat→Option DV}
theorem Za2 {α:Type} {x:Array α} {l:List α} (h:x.toList=l):x=l.toArray:=by subst h;simp
theorem ZN.und {t:TypeId} {ti:TI} (ht:ZN P t ti):∃ d,P.underlying t=some d:=by
  have hd:=ht.desc
  cases hkk:ti.k<;>rw [hkk] at hd<;>simp only at hd
  all_goals first
    | exact ⟨_,hd⟩
    | (obtain ⟨f,hd,_⟩:=hd;exact ⟨_,hd⟩)
    | (obtain ⟨a,b,c,hd⟩:=hd;exact ⟨_,hd⟩)
    | (obtain ⟨a,hd⟩:=hd;exact ⟨_,hd⟩)
theorem Zgt {s:Sem Unit} {w':World} (he:execOp a.eval o=(do s;Pure.pure Next.skip)) (hs:s.run P w = .ok () w'):(execOp a.eval o).run P w = .ok .skip w':=by
  rw [he];simp [hs]
theorem YH {s:Sem Value} {v:Value} {w':World} (he:execOp a.eval o=(do Pure.pure (Next.value (←s)))) (hs:s.run P w = .ok v w'):(execOp a.eval o).run P w = .ok (.value v) w':=by
  rw [he];simp [hs]
theorem Z52:Rep β G (.tup []) undef:=YX.2 ⟨[],rfl,Zo.2 rfl⟩
theorem Zen (hh:HR E w0 G0 D w β G h) (hf:ZJ β h nid) (s:ByteArray) :
    ∃ β',Ext β G β' G∧β'.blk nid=some w.heap.size∧HR E w0 G0 D (w.alloc (.stringIter s 0)) β' G (ZA h [(nid,some (.siter s 0))])∧Z2M β β' h (ZA h [(nid,some (.siter s 0))]) nid :=
  hh.lay hf _ _ (fun _ _ _ _ hq=>by cases hq) fun β' _ hb=>⟨_,hb,heap_alloc_new w (.stringIter s 0)⟩
theorem Zg4 (hh:HR E w0 G0 D w β G h) (hf:ZJ β h nid) :
    ∃ β',Ext β G β' G∧β'.blk nid=some w.heap.size∧HR E w0 G0 D (w.alloc (.map #[] 0)) β' G (ZA h [(nid,some (.map []))])∧Z2M β β' h (ZA h [(nid,some (.map []))]) nid :=
  hh.lay hf _ _ (fun _ _ _ _ hq=>by cases hq) fun β' _ hb=>⟨_,_,_,hb,heap_alloc_new w (.map #[] 0),rfl⟩
theorem Z7l {b e e' o:Nat} {es:List (List DV)} (h:Yk β G b e o es) (hl:∀ c∈es,c.length=e'):es=[]∨Yk β G b e' o es:=by
  cases es with
  | nil=>exact .inl rfl
  | cons c cs =>
    right
    have h1:=hl c (by simp)
    have h2:c.length=e:=by unfold Yk at h;exact h.1
    have:e=e':=by omega
    subst this;exact h
theorem Z3F {l pos:Nat} {s:ByteArray} (h:w.heap[l]? = some (.stringIter s pos)):(getObj l).run P w = .ok (.stringIter s pos) w:=by simp [getObj,Sem.run,h]
theorem Z8P {l:Nat} {r:Obj} {ob:Obj} (h:w.heap[l]? = some ob) (hc:∀ c t f,ob ≠ .cells c t f):(setObj l r).run P w = .ok () (w.putObj l r):=by
  cases ob<;>first|(exact absurd rfl (hc _ _ _))|simp [setObj,Sem.run,World.putObj,h]
theorem Ze2 (hE:∀ t ti,E.ty t=some ti→ZN P t ti) (hf:FrM β G ρ a.tmps) (hh:HR E w0 G0 D w β G h) (hfr:ZJ β h nid) {c:Call} (ho:o.op = .call c) {r:Out}
    (hd:Zx E nid ρ h (.call c)=some r):Yb P E w0 G0 D o a w β G h nid r:=by
  have hexec:∀ b,c.callee = .builtin b→∃ cs,execOp a.eval o=Go.builtin b c.argTypes o.type cs (c.args.map a.eval):=fun b hb=>by
    refine ⟨c.args.map fun | .const _=>true|_=>false,?_⟩
    unfold execOp;rw [ho];simp [resolve,hb,invoke];rfl
  simp only [Zx] at hd
  split at hd
  · rename_i hb
    split at hd
    · rename_i x t ts hx ht
      obtain ⟨ti,hti,hd⟩:=Z0 hd
      obtain ⟨d,hdx,hd⟩:=Z0 hd
      obtain ⟨u,hu,hd⟩:=Z0 hd
      cases hd
      have hts:c.argTypes[0]? = some t:=by rw [Za2 ht];simp
      obtain ⟨v,h1,h2⟩:=Ze6 (ty:=o.type) hh (hE t ti hti) hts hu (Zq hf hdx)
      refine Yb.pure hh (v:=v) ?_ h2
      obtain ⟨cs,hcs⟩:=hexec _ hb
      rw [hcs,Za2 hx]
      simp [Go.builtin,h1]
    · cases hd
  · rename_i hb
    split at hd
    · rename_i s x t t' hx ht
      have hq:=(Z2 hd).1
      replace hd:=(Z2 hd).2
      have hq:t=t':=Nat.eq_of_beq_eq_true hq
      subst hq
      obtain ⟨ds,hds,hd⟩:=Z0 hd
      obtain ⟨dx,hdx,hd⟩:=Z0 hd
      obtain ⟨v,w',β',h1,h2,h3,h4,h5⟩:=Za1 (ty:=o.type) hE hh hfr (Zq hf hds) (Zq hf hdx) hd
      refine ⟨.value v,v,w',β',G,?_,.inl rfl,h2,h3,h4,h5⟩
      obtain ⟨cs,hcs⟩:=hexec _ hb
      rw [hcs,Za2 hx,Za2 ht]
      simp [Go.builtin,h1]
    · cases hd
  · rename_i hb
    obtain ⟨vs,hvs,hd⟩:=Z0 hd
    split at hd
    · rename_i x xs
      obtain ⟨d,hdd,hd⟩:=Z0 hd
      cases hd
      have hr:=Z1v hf hvs
      obtain ⟨v,vs',he,hr1,hr2⟩:=Zc.1 hr
      obtain ⟨u,h1,h2⟩:=Z4n (P:=P) (w:=w) (β:=β) (G:=G) (g:=Builtin.min2) Zcy hdd hr1 hr2
      refine Yb.pure hh (v:=u) ?_ h2
      obtain ⟨cs,hcs⟩:=hexec _ hb
      rw [hcs]
      simp [Go.builtin,Builtin.min_,he,h1]
    · cases hd
  · rename_i hb
    obtain ⟨vs,hvs,hd⟩:=Z0 hd
    split at hd
    · rename_i x xs
      obtain ⟨d,hdd,hd⟩:=Z0 hd
      cases hd
      have hr:=Z1v hf hvs
      obtain ⟨v,vs',he,hr1,hr2⟩:=Zc.1 hr
      obtain ⟨u,h1,h2⟩:=Z4n (P:=P) (w:=w) (β:=β) (G:=G) (g:=Builtin.max2) Zcx hdd hr1 hr2
      refine Yb.pure hh (v:=u) ?_ h2
      obtain ⟨cs,hcs⟩:=hexec _ hb
      rw [hcs]
      simp [Go.builtin,Builtin.max_,he,h1]
    · cases hd
  · cases hd
theorem Zcr (hE:∀ t ti,E.ty t=some ti→ZN P t ti) (hf:FrM β G ρ a.tmps) (hh:HR E w0 G0 D w β G h) (hfr:ZJ β h nid) {r:Out}
    (hd:Zx E nid ρ h o.op=some r):Yb P E w0 G0 D o a w β G h nid r:=by
  cases ho:o.op with
  | call c=>rw [ho] at hd;exact Ze2 hE hf hh hfr ho hd
  | move x =>
    rw [ho] at hd;simp only [Zx] at hd
    obtain ⟨d,h1,hd⟩:=Z0 hd
    cases hd
    exact Yb.pure hh (by unfold execOp;rw [ho];rfl) (Zq hf h1)
  | assign x =>
    rw [ho] at hd;simp only [Zx] at hd
    obtain ⟨d,h1,hd⟩:=Z0 hd
    cases hd
    exact Yb.pure hh (by unfold execOp;rw [ho];rfl) (Zq hf h1)
  | pick c x y =>
    rw [ho] at hd;simp only [Zx] at hd
    obtain ⟨dc,hc,hd⟩:=Z0 hd
    split at hd
    · rename_i b
      have hcv:=ZK.1 (Zq hf hc)
      have hr:(execOp a.eval o).run P w = .ok (.value (if b then a.eval x else a.eval y)) w:=by
        unfold execOp;rw [ho];simp [hcv,asBool]
      cases b
      · obtain ⟨d,h1,hd⟩:=Z0 hd
        cases hd
        exact Yb.pure hh hr (Zq hf h1)
      · obtain ⟨d,h1,hd⟩:=Z0 hd
        cases hd
        exact Yb.pure hh hr (Zq hf h1)
    · cases hd
  | alloc t =>
    rw [ho] at hd;simp only [Zx] at hd
    obtain ⟨ti,hti,hd⟩:=Z0 hd
    cases hd
    exact ZaV hh hfr (hE t ti hti) ho
  | box t x =>
    rw [ho] at hd;simp only [Zx] at hd
    obtain ⟨d,h1,hd⟩:=Z0 hd
    obtain ⟨hq,hd⟩:=Z2 hd
    cases hd
    exact ZdT hh hfr ho (Zq hf h1) hq
  | build t ps =>
    rw [ho] at hd;simp only [Zx] at hd
    have hrf:∃ d,r=⟨some d,[]⟩:=by
      obtain ⟨ti,hti,hd⟩:=Z0 hd
      obtain ⟨vs,hvs,hd⟩:=Z0 hd
      split at hd
      · obtain ⟨cs,hcs,hd⟩:=Z0 hd
        cases hd;exact ⟨_,rfl⟩
      · obtain ⟨ei,hei,hd⟩:=Z0 hd
        obtain ⟨cs,hcs,hd⟩:=Z0 hd
        cases hd;exact ⟨_,rfl⟩
      · cases hd
    obtain ⟨d,rfl⟩:=hrf
    obtain ⟨v,h1,h2⟩:=Zb0 (P:=P) (w:=w) (β:=β) (G:=G) hE hf hd
    exact Yb.pure hh (YH (by unfold execOp;rw [ho]) h1) h2
  | buildSlice t n ps =>
    rw [ho] at hd
    obtain ⟨v,w',β',G',h1,h2,h3,h4,h5⟩:=Z6C (P:=P) (a:=a) hE hf hh hfr hd
    exact ⟨.value v,v,w',β',G',YH (by unfold execOp;rw [ho]) h1,.inl rfl,h2,h3,h4,h5⟩
  | load t x =>
    rw [ho] at hd;simp only [Zx] at hd
    obtain ⟨ti,hti,hd⟩:=Z0 hd
    obtain ⟨dx,hx,hd⟩:=Z0 hd
    obtain ⟨d,h1,hd⟩:=Z0 hd
    cases hd
    obtain ⟨v,h2,h3⟩:=Z8r hE hh (hE t ti hti) (hE t ti hti).ko (Zq hf hx) h1
    exact Yb.pure hh (YH (by unfold execOp;rw [ho]) h2) h3
  | store t x y =>
    rw [ho] at hd;simp only [Zx] at hd
    obtain ⟨ti,hti,hd⟩:=Z0 hd
    obtain ⟨dx,hx,hd⟩:=Z0 hd
    obtain ⟨dy,hy,hd⟩:=Z0 hd
    obtain ⟨us,h1,hd⟩:=Z0 hd
    cases hd
    obtain ⟨w',h2,h3,h4⟩:=Zc4 (nid:=nid) hh (hE t ti hti) (Zq hf hx) (Zq hf hy) h1
    exact ⟨.skip,undef,w',β,G,Zgt (by unfold execOp;rw [ho]) h2,.inr ⟨rfl,rfl⟩,fun d hd=>by cases hd;exact Z52,Ext.refl β G,h3,h4⟩
  | nilCheck x =>
    rw [ho] at hd;simp only [Zx] at hd
    obtain ⟨d,h1,hd⟩:=Z0 hd
    have hr:=Zq hf h1
    have key:∀ A,a.eval x = .pointer (some A)→(execOp a.eval o).run P w = .ok (.value (a.eval x)) w:=fun A hA=>by
      unfold execOp;rw [ho];simp [hA]
    split at hd
    · cases hd
      obtain ⟨b,_,h2⟩:=Z2C.1 hr
      exact Yb.pure hh (key _ h2) hr
    · cases hd
      obtain ⟨b,_,_,_,h2⟩:=Z30.1 hr
      exact Yb.pure hh (key _ h2) hr
    · cases hd
      obtain ⟨_,b,_,h2,_⟩:=Z51.1 hr
      exact Yb.pure hh (key _ h2) hr
    · cases hd
  | binOp op t x y z =>
    rw [ho] at hd;simp only [Zx] at hd
    obtain ⟨dx,hx,hd⟩:=Z0 hd
    obtain ⟨dy,hy,hd⟩:=Z0 hd
    obtain ⟨d,h1,hd⟩:=Z0 hd
    cases hd
    obtain ⟨v,h2,h3⟩:=Zcj (P:=P) (w:=w) (x:=x) (y:=y) hE h1 (Zq hf hx) (Zq hf hy)
    exact Yb.pure hh (YH (by unfold execOp;rw [ho]) h2) h3
  | unOp op t x =>
    rw [ho] at hd;simp only [Zx] at hd
    obtain ⟨dx,hx,hd⟩:=Z0 hd
    obtain ⟨d,h1,hd⟩:=Z0 hd
    cases hd
    obtain ⟨v,h2,h3⟩:=Zer (P:=P) (w:=w) h1 (Zq hf hx)
    exact Yb.pure hh (YH (by unfold execOp;rw [ho]) h2) h3
  | convert s t x =>
    rw [ho] at hd;simp only [Zx] at hd
    obtain ⟨si,hsi,hd⟩:=Z0 hd
    obtain ⟨ti,hti,hd⟩:=Z0 hd
    obtain ⟨dx,hx,hd⟩:=Z0 hd
    obtain ⟨us,hus⟩:=(hE s si hsi).und
    have hdesc:=(hE t ti hti).desc
    have hr:=Zq hf hx
    cases hk:ti.k with
    | int k =>
      rw [hk] at hd hdesc
      cases dx with
      | int k' n =>
      cases hd
      rw [ZH] at hr
      refine Yb.pure hh (YH (v := .int k (k.wrap n)) (by unfold execOp;rw [ho]) ?_) (ZH.2 rfl)
      simp [convert,Go.run_underlying hus,Go.run_underlying hdesc,hr,Conv.intToInt]
      | _=>cases hd
    | string =>
      rw [hk] at hd hdesc
      cases dx with
      | str s' =>
      cases hd
      rw [YW] at hr
      refine Yb.pure hh (YH (v := .string s') (by unfold execOp;rw [ho]) ?_) (YW.2 rfl)
      simp [convert,Go.run_underlying hus,Go.run_underlying hdesc,hr]
      | _=>cases hd
    | _=>rw [hk] at hd;cases hd
  | makeInterface t x =>
    rw [ho] at hd;simp only [Zx] at hd
    obtain ⟨ti,hti,hd⟩:=Z0 hd
    obtain ⟨dx,hx,hd⟩:=Z0 hd
    have hk:ti.k ≠ .iface:=fun e=>by rw [e] at hd;cases hd
    have hd':ret (.iface t dx)=some r:=by
      cases hkk:ti.k<;>rw [hkk] at hd<;>first|exact hd|exact absurd hkk hk
    rw [Z6n hd']
    obtain ⟨h1,h2⟩:=Z7v (P:=P) (w:=w) (hE t ti hti) hk (Zq hf hx)
    exact Yb.pure hh (YH (by unfold execOp;rw [ho]) h1) h2
  | typeAssert x xt t ok =>
    rw [ho] at hd;simp only [Zx] at hd
    obtain ⟨ti,hti,hd⟩:=Z0 hd
    obtain ⟨dx,hx,hd⟩:=Z0 hd
    have hk:ti.k ≠ .iface:=fun e=>by rw [e] at hd;cases dx<;>cases hd
    have:∃ d,(match dx with
      | .nilif=>bif ok then (Z17 ti).bind fun z=>some (.tup [z,.bool false]) else none
      | .iface t' v=>bif Nat.beq t' t then some (bif ok then .tup [v,.bool true] else v) else bif ok then (Z17 ti).bind fun z=>some (.tup [z,.bool false]) else none
      | _=>none:Option DV)=some d∧r=⟨some d,[]⟩:=by
      cases dx with
      | nilif =>
        have hd':(bif ok then (Z17 ti).bind fun z=>ret (.tup [z,.bool false]) else none)=some r:=by
          cases hkk:ti.k<;>rw [hkk] at hd<;>first|exact hd|exact absurd hkk hk
        cases ok with
        | false=>cases hd'
        | true =>
          obtain ⟨z,hz,hd'⟩:=Z0 hd'
          exact ⟨_,by simp [hz],Z6n hd'⟩
      | iface t' v =>
        have hd':(bif Nat.beq t' t then ret (bif ok then .tup [v,.bool true] else v) else bif ok then (Z17 ti).bind fun z=>ret (.tup [z,.bool false]) else none)=some r:=by
          cases hkk:ti.k<;>rw [hkk] at hd<;>first|exact hd|exact absurd hkk hk
        simp only
        cases hq:Nat.beq t' t with
        | true=>rw [hq] at hd';exact ⟨_,rfl,Z6n hd'⟩
        | false =>
          rw [hq] at hd'
          cases ok with
          | false=>cases hd'
          | true =>
            obtain ⟨z,hz,hd'⟩:=Z0 hd'
            exact ⟨_,by simp [hz],Z6n hd'⟩
      | _=>cases hkk:ti.k<;>rw [hkk] at hd<;>cases hd
    obtain ⟨d,h1,rfl⟩:=this
    obtain ⟨v,h2,h3⟩:=Z75 (P:=P) (w:=w) (xt:=xt) (hE t ti hti) hk h1 (Zq hf hx)
    exact Yb.pure hh (YH (by unfold execOp;rw [ho]) h2) h3
  | makeSlice t l c =>
    rw [ho] at hd;simp only [Zx] at hd
    obtain ⟨ti,hti,hd⟩:=Z0 hd
    obtain ⟨dl,hl,hd⟩:=Z0 hd
    obtain ⟨dc,hc,hd⟩:=Z0 hd
    cases hk:ti.k with
    | slice e =>
     rw [hk] at hd
     obtain ⟨k1,n,rfl⟩:∃ k n,dl = .int k n:=by cases dl<;>first|exact ⟨_,_,rfl⟩|cases hd
     obtain ⟨k2,n',rfl⟩:∃ k n,dc = .int k n:=by cases dc<;>first|exact ⟨_,_,rfl⟩|cases hd
     simp only at hd
     obtain ⟨ei,hei,hd⟩:=Z0 hd
     obtain ⟨hq,hd⟩:=Z2 hd
     cases hd
     simp only [Bool.and_eq_true,decide_eq_true_eq,beq_iff_eq] at hq
     obtain ⟨⟨⟨⟨q1,q2⟩,q3⟩,q4⟩,q5⟩:=hq
     subst q1
     have e1:=Zq hf hl
     have e2:=Zq hf hc
     rw [ZH] at e1 e2
     obtain ⟨v,w',β',h1,h2,h3,h4,h5⟩:=Z7w (P:=P) (k1:=k1) (k2:=k2) hE hh hfr (hE t ti hti) hk hei q2 (Nat.le_of_ble_eq_true q3) (Nat.le_of_ble_eq_true q4) q5
     rw [←e1,←e2] at h1
     exact ⟨_,v,w',β',G,YH (by unfold execOp;rw [ho]) h1,.inl rfl,fun d hd=>by cases hd;exact h2,h3,h4,h5⟩
    | _=>rw [hk] at hd;cases hd
  | makeFunc f x y =>
    rw [ho] at hd;simp only [Zx] at hd
    obtain ⟨dx,hx,hd⟩:=Z0 hd
    obtain ⟨dy,hy,hd⟩:=Z0 hd
    cases hd
    refine Yb.pure hh (YH (v := .func f (x.map a.eval) (y.map a.eval)) (by unfold execOp;rw [ho]) rfl) (ZcL.2 ⟨_,_,?_,Z1v hf hx,Z1v hf hy⟩)
    congr 1<;>(apply Array.ext';simp)
  | makeMap t x =>
    cases x with
    | some x=>rw [ho] at hd;simp [Zx] at hd
    | none =>
      rw [ho] at hd;simp only [Zx] at hd
      cases hd
      obtain ⟨β',h1,h2,h3,h4⟩:=Zg4 hh hfr
      refine ⟨_,.map (some w.heap.size),_,β',G,YH (by unfold execOp;rw [ho]) ?_,.inl rfl,fun d hd=>by cases hd;exact Z7I.2 ⟨_,h2,rfl⟩,h1,h3,h4⟩
      simp [Instr.makeMap]
  | slice t x lo hi mx =>
    cases mx with
    | some m=>rw [ho] at hd;simp [Zx] at hd
    | none =>
      rw [ho] at hd;simp only [Zx] at hd
      obtain ⟨ti,hti,hd⟩:=Z0 hd
      obtain ⟨dx,hx,hd⟩:=Z0 hd
      obtain ⟨dl,hl,hd⟩:=Z0 hd
      obtain ⟨dh,hhi,hd⟩:=Z0 hd
      have hdesc:=(hE t ti hti).desc
      have hr:=Zq hf hx
      have hlo:=Zdw hf hl
      have hhr:=Zdw hf hhi
      cases hk:ti.k with
      | string =>
        rw [hk] at hdesc hd
        cases dx with
        | str s =>
          obtain ⟨d,h1,hd⟩:=Z0 hd
          cases hd
          rw [YW] at hr
          unfold ZcZ at h1
          obtain ⟨m,k1,h1⟩:=Z0 h1
          obtain ⟨l,k2,h1⟩:=Z0 h1
          cases h1
          obtain ⟨k3,_,_⟩:=Z3M (P:=P) (w:=w) (isSlice:=false) hlo hhr k1 k2 (Nat.le_refl _)
          refine Yb.pure hh (YH (v := .string (s.extract l m)) (by unfold execOp;rw [ho]) ?_) (YW.2 rfl)
          simp [Instr.sliceAt,Instr.slice,Go.run_underlying hdesc,hr,k3]
        | _=>cases hd
      | array n e =>
        rw [hk] at hd
        cases dx with
        | ptr id off =>
          simp only at hd
          obtain ⟨ei,hei,hd⟩:=Z0 hd
          obtain ⟨ob,hob,hd⟩:=Z0 hd
          cases ob with
          | cells ct cs =>
            obtain ⟨hq,hd⟩:=Z2 hd
            obtain ⟨d,h1,hd⟩:=Z0 hd
            cases hd
            simp only [Bool.and_eq_true] at hq
            obtain ⟨v,G1,h2,h3,h4,h5⟩:=Z8V (P:=P) hE hh (hE t ti hti) hk hei hr hob (Nat.le_of_ble_eq_true hq.1.1) (Nat.le_of_ble_eq_true hq.1.2) hq.2 hlo hhr h1
            exact ⟨_,v,w,β,G1,YH (by unfold execOp;rw [ho]<;>rfl) h2,.inl rfl,fun d hd=>by cases hd;exact h3,h4,h5,fun i _ hq=>⟨by rw [Y2];split;exact rfl;exact hq,rfl,fun _=>rfl⟩⟩
          | _=>cases hd
        | _=>cases hd
      | slice e =>
        rw [hk] at hd
        simp only at hd
        obtain ⟨ei,hei,hd⟩:=Z0 hd
        obtain ⟨es,hes,hd⟩:=Z0 hd
        obtain ⟨hq,hd⟩:=Z2 hd
        obtain ⟨d,h1,hd⟩:=Z0 hd
        cases hd
        simp only [Bool.and_eq_true,List.all_eq_true] at hq
        have hql:∀ c∈es,c.length=ei.size:=fun c hc=>Nat.eq_of_beq_eq_true (hq.1 c hc)
        obtain ⟨G1,hx1,hh1,hs1⟩:=Z1R hh (Ze dx)
        have hsh:∃ A c,a.eval x = .slice A es.length c∧es.length≤c∧(es=[]∨∃ b off,A=some ⟨b,off,none⟩∧Yk β G1 b ei.size off es):=by
          cases dx with
          | nils=>cases hes;exact ⟨none,0,Z2f.1 hr,Nat.le_refl _,.inl rfl⟩
          | sl es' =>
            cases hes
            obtain ⟨A,c,⟨k1,k2⟩,k3⟩:=Z5L.1 hr
            refine ⟨A,c,k1,k2,?_⟩
            rcases k3 with k3|⟨b,off,e',k3,k4⟩
            · exact .inl k3
            · exact Z7l (Yk.mono hx1 _ _ _ _ k4) hql |>.imp (fun z=>z) fun k=>⟨b,off,k3,k⟩
          | rs id ver =>
            simp only [Ym] at hes
            obtain ⟨ob,hob,hes⟩:=Z0 hes
            split at hes
            · rename_i t' es' p u
              obtain ⟨hu,hes⟩:=Z2 hes
              cases hes
              have hu:u=ver:=Nat.eq_of_beq_eq_true hu
              subst hu
              obtain ⟨p',hp'⟩:=Z3G h (Ze (.rs id u)) _ _ _ _ _ hob
              obtain ⟨hdr,k1,A,c,⟨k2,k3⟩,k4⟩:=hs1 id (by simp [Ze]) _ _ _ _ hp'
              obtain ⟨k5,_⟩:=Z3q.1 hr
              rw [k1] at k5;cases k5
              refine ⟨A,c,k2,k3,?_⟩
              rcases k4 with k4|⟨b,k4,k6⟩
              · exact .inl k4
              · exact Z7l k6 hql |>.imp (fun z=>z) fun k=>⟨b,0,k4,k⟩
            · cases hes
          | _=>cases hes
        obtain ⟨v,h2,h3⟩:=ZbZ (P:=P) (w:=w) (hE t ti hti) hk (hE e ei hei) hsh (Z6e hx1 hlo) (Z6e hx1 hhr) h1
        exact ⟨_,v,w,β,G1,YH (by unfold execOp;rw [ho]<;>rfl) h2,.inl rfl,fun d hd=>by cases hd;exact h3,hx1,hh1,Z70 _⟩
      | _=>rw [hk] at hd;cases hd
  | fieldAddr s x f =>
    rw [ho] at hd;simp only [Zx] at hd
    obtain ⟨ti,hti,hd⟩:=Z0 hd
    obtain ⟨dx,hx,hd⟩:=Z0 hd
    split at hd
    · rename_i fs hk
      obtain ⟨⟨ft,off⟩,hfs,hd⟩:=Z0 hd
      obtain ⟨fi,hfi,hd⟩:=Z0 hd
      obtain ⟨hq,hd⟩:=Z2 hd
      obtain ⟨d,h1,hd⟩:=Z0 hd
      cases hd
      obtain ⟨v,h2,h3⟩:=Z9b (P:=P) (w:=w) hE (hE s ti hti) hk hfs hfi (Nat.le_of_ble_eq_true hq) (Zq hf hx) h1
      exact Yb.pure hh (YH (by unfold execOp;rw [ho]) h2) h3
    · cases hd
  | field s x f =>
    rw [ho] at hd;simp only [Zx] at hd
    obtain ⟨ti,hti,hd⟩:=Z0 hd
    obtain ⟨dx,hx,hd⟩:=Z0 hd
    have:∃ d,(match ti.k,dx with
      | .struct fs,.agg cs=>(fs[f]?).bind fun (ft,off)=>(E.ty ft).bind fun fi=>Yy fi cs off
      | _,_=>none)=some d∧r=⟨some d,[]⟩:=by
      split at hd
      · rename_i hk2
        obtain ⟨⟨ft,off⟩,hfs,hd⟩:=Z0 hd
        obtain ⟨fi,hfi,hd⟩:=Z0 hd
        obtain ⟨d,h1,hd⟩:=Z0 hd
        cases hd
        exact ⟨d,by (try rw [hk2]);simp only at hfi h1;simp [hfs,hfi,h1],rfl⟩
      · cases hd
    obtain ⟨d,h1,rfl⟩:=this
    obtain ⟨v,h2,h3⟩:=Zba (P:=P) (w:=w) hE (hE s ti hti) h1 (Zq hf hx)
    exact Yb.pure hh (YH (by unfold execOp;rw [ho]) h2) h3
  | indexAddr t x i =>
    rw [ho] at hd;simp only [Zx] at hd
    obtain ⟨ti,hti,hd⟩:=Z0 hd
    obtain ⟨dx,hx,hd⟩:=Z0 hd
    obtain ⟨di,hi,hd⟩:=Z0 hd
    have hrx:=Zq hf hx
    have hri:=Zq hf hi
    cases hk:ti.k with
    | array len e =>
      rw [hk] at hd
      obtain ⟨ei,hei,hd⟩:=Z0 hd
      obtain ⟨j,hj,hd⟩:=Z0 hd
      obtain ⟨d,h1,hd⟩:=Z0 hd
      cases hd
      obtain ⟨v,h2,h3⟩:=Z9c (P:=P) (w:=w) (hE t ti hti) hk (hE e ei hei) hrx hri hj h1
      exact Yb.pure hh (YH (by unfold execOp;rw [ho]) h2) h3
    | slice e =>
      rw [hk] at hd
      simp only at hd
      obtain ⟨ei,hei,hd⟩:=Z0 hd
      cases dx with
      | sl es =>
        obtain ⟨j,hj,hd⟩:=Z0 hd
        obtain ⟨c,hc,hd⟩:=Z0 hd
        obtain ⟨hq,hd⟩:=Z2 hd
        cases hd
        simp only [Bool.and_eq_true] at hq
        have hcl:c.length=ei.size:=Nat.eq_of_beq_eq_true hq.1
        obtain ⟨A,cap,⟨k1,k2⟩,k3⟩:=Z5L.1 hrx
        rcases k3 with k3|⟨b,off,e',rfl,k4⟩
        · subst k3;simp at hc
        · obtain ⟨m1,m2,m3⟩:=ZbE k4 hc
          have he:e'=ei.size:=by omega
          subst he
          have h2:=Z5d (P:=P) (w:=w) (c:=cap) (A:=⟨b,off,none⟩) (hE t ti hti) hk (hE e ei hei) hri hj
          refine Yb.pure hh (YH (v := .pointer (some ((⟨b,off,none⟩:Addr).add (j*ei.size)))) (by unfold execOp;rw [ho]) ?_) (Z51.2 ⟨m1,b,off+j*ei.size,by rw [Yo],?_⟩)
          · rw [k1];exact h2
          · exact m2
      | rs id ver =>
        obtain ⟨ob,hob,hd⟩:=Z0 hd
        split at hd
        · rename_i t' es p u
          obtain ⟨j,hj,hd⟩:=Z0 hd
          obtain ⟨hq,hd⟩:=Z2 hd
          cases hd
          simp only [Bool.and_eq_true] at hq
          have hu:u=ver:=Nat.eq_of_beq_eq_true hq.1
          subst hu
          obtain ⟨k5,_⟩:=Z3q.1 hrx
          obtain ⟨hdr,vals,n1,n2,_⟩:=hh.obj id _ hob
          rw [n1] at k5;cases k5
          obtain ⟨kk,hkk,hlt⟩:=Z4s hj hri
          rcases n2.2 with ⟨n3,n4⟩|⟨g,cap,cur,n3,_⟩
          · omega
          · have h2:=Z5d (P:=P) (w:=w) (c:=cap) (A:=⟨g,0,none⟩) (hE t ti hti) hk (hE e ei hei) hri hj
            refine Yb.pure hh (YH (v := .pointer (some ((⟨g,0,none⟩:Addr).add (j*ei.size)))) (by unfold execOp;rw [ho]) ?_) (Z30.2 ⟨g,es.length,cap,by rw [n1,n3],by rw [Yo];simp⟩)
            rw [n3];exact h2
        · cases hd
      | _=>cases hd
    | _=>rw [hk] at hd;cases hd
  | index t x i =>
    rw [ho] at hd;simp only [Zx] at hd
    obtain ⟨ti,hti,hd⟩:=Z0 hd
    obtain ⟨dx,hx,hd⟩:=Z0 hd
    obtain ⟨di,hi,hd⟩:=Z0 hd
    have:∃ d,(match ti.k,dx with
      | .array len e,.agg cs=>(E.ty e).bind fun ei=>(Z2S len di).bind fun i=>Yy ei cs (i*ei.size)
      | .string,.str s=>(Z2S s.size di).bind fun i=>(s[i]?).bind fun b=>some (.int .u8 b.toNat)
      | _,_=>none)=some d∧r=⟨some d,[]⟩:=by
      cases hk2:ti.k with
      | array len e =>
        rw [hk2] at hd
        cases dx with
        | agg cs =>
          obtain ⟨ei,hei,hd⟩:=Z0 hd
          obtain ⟨j,hj,hd⟩:=Z0 hd
          obtain ⟨d,h1,hd⟩:=Z0 hd
          cases hd
          exact ⟨d,by simp [hei,hj,h1],rfl⟩
        | _=>cases hd
      | string =>
        rw [hk2] at hd
        cases dx with
        | str s =>
          obtain ⟨j,hj,hd⟩:=Z0 hd
          obtain ⟨d,h1,hd⟩:=Z0 hd
          cases hd
          exact ⟨_,by simp [hj,h1],rfl⟩
        | _=>cases hd
      | _=>rw [hk2] at hd;cases hd
    obtain ⟨d,h1,rfl⟩:=this
    obtain ⟨v,h2,h3⟩:=Zbo (P:=P) (w:=w) hE (hE t ti hti) h1 (Zq hf hx) (Zq hf hi)
    exact Yb.pure hh (YH (by unfold execOp;rw [ho]) h2) h3
  | lookup t m k ok =>
    rw [ho] at hd;simp only [Zx] at hd
    obtain ⟨ti,hti,hd⟩:=Z0 hd
    obtain ⟨dm,hm,hd⟩:=Z0 hd
    obtain ⟨dk,hk,hd⟩:=Z0 hd
    split at hd
    · rename_i kt e hkk
      obtain ⟨ei,hei,hd⟩:=Z0 hd
      obtain ⟨ki,hki,hd⟩:=Z0 hd
      obtain ⟨hq,hd⟩:=Z2 hd
      simp only [Bool.and_eq_true,Bool.not_eq_true'] at hq
      obtain ⟨⟨hq1,hq2⟩,hq3⟩:=hq
      obtain ⟨es,hes,hd⟩:=Z0 hd
      obtain ⟨q,hfind,hd⟩:=Z0 hd
      have hz1:∃ z,ei.zero=[z]:=by
        obtain ⟨i,zv,_,_,_,_,hzs,hzr⟩:=(hE e ei hei).info
        have:=ZF (hzr β G)
        have hsz:ei.size=1:=Nat.eq_of_beq_eq_true hq2
        have h1:ei.zero.length=1:=by simp at this;omega
        exact List.length_eq_one_iff.1 h1
      obtain ⟨z,hz⟩:=hz1
      obtain ⟨v,h2,h3⟩:=Zaj (P:=P) (w:=w) hE hh (hE t ti hti) hkk (hE e ei hei) (hE kt ki hki) (Zq hf hk) hq1 hes hfind hz (Nat.eq_of_beq_eq_true hq2) hq3 ok (Zq hf hm)
      rw [hz] at hd
      cases q with
      | some d=>cases hd;exact Yb.pure hh (YH (by unfold execOp;rw [ho]) h2) h3
      | none=>cases hd;exact Yb.pure hh (YH (by unfold execOp;rw [ho]) h2) h3
    · cases hd
  | mapUpdate t m k x =>
    rw [ho] at hd;simp only [Zx] at hd
    obtain ⟨ti,hti,hd⟩:=Z0 hd
    obtain ⟨dm,hm,hd⟩:=Z0 hd
    obtain ⟨dk,hk,hd⟩:=Z0 hd
    obtain ⟨dx,hx,hd⟩:=Z0 hd
    cases hkk:ti.k with
    | map kt e =>
      rw [hkk] at hd
      cases dm with
      | map id =>
        obtain ⟨ki,hki,hd⟩:=Z0 hd
        obtain ⟨ob,hob,hd⟩:=Z0 hd
        split at hd
        · rename_i es
          obtain ⟨hq,hd⟩:=Z2 hd
          simp only [Bool.and_eq_true] at hq
          obtain ⟨es',hes,hd⟩:=Z0 hd
          cases hd
          obtain ⟨w',h2,h3,h4⟩:=Z7x (P:=P) (nid:=nid) hh (hE t ti hti) hkk (hE kt ki hki) (Zq hf hm) (Zq hf hk) (Zq hf hx) hq.2 hq.1.1 hob hes
          exact ⟨.skip,undef,w',β,G,Zgt (by unfold execOp;rw [ho]) h2,.inr ⟨rfl,rfl⟩,fun d hd=>by cases hd;exact Z52,Ext.refl β G,h3,h4⟩
        · cases hd
      | _=>cases hd
    | _=>rw [hkk] at hd;cases hd
  | range t x =>
    rw [ho] at hd;simp only [Zx] at hd
    obtain ⟨ti,hti,hd⟩:=Z0 hd
    obtain ⟨dx,hx,hd⟩:=Z0 hd
    have hdesc:=(hE t ti hti).desc
    have hr:=Zq hf hx
    cases hk:ti.k with
    | string =>
      rw [hk] at hd hdesc
      cases dx with
      | str s =>
        rw [YW] at hr
        cases hd
        obtain ⟨β',h1,h2,h3,h4⟩:=Zen hh hfr s
        refine ⟨_,.pointer (some ⟨w.heap.size,0,none⟩),_,β',G,YH (by unfold execOp;rw [ho]) ?_,.inl rfl,fun d hd=>by cases hd;exact ZbM.2 ⟨_,h2,rfl⟩,h1,h3,h4⟩
        simp [Instr.range,Go.run_underlying hdesc,hr]
      | _=>cases hd
    | _=>rw [hk] at hd;cases hd
  | next it s =>
    cases s with
    | false=>rw [ho] at hd;simp [Zx] at hd
    | true =>
      rw [ho] at hd;simp only [Zx] at hd
      obtain ⟨d,h1,hd⟩:=Z0 hd
      split at hd
      · rename_i id
        obtain ⟨ob,hob,hd⟩:=Z0 hd
        split at hd
        · rename_i s pos
          obtain ⟨b,hb,hv⟩:=ZbM.1 (Zq hf h1)
          obtain ⟨b',hb',hw⟩:=hh.obj id _ hob
          rw [hb] at hb';cases hb'
          by_cases hp:pos<s.size
          · simp only [hp,decide_true,cond_true] at hd
            cases hd
            have hh':=Z4O (o' := .siter s (pos+(Utf8.decode s pos).2)) (ob' := .stringIter s (pos+(Utf8.decode s pos).2)) hh hob hb hw (by simp) (fun x hx=>by simp [Yl] at hx;rw [hb] at hx;cases hx;rfl)
              ⟨b,hb,by simp [World.putObj_heap_same (Array.getElem?_eq_some_iff.1 hw).1]⟩
            refine ⟨_,.tuple #[.bool true,.int .i64 (pos:Nat),.int .i32 (Utf8.decode s pos).1],_,β,G,YH (by unfold execOp;rw [ho]) ?_,.inl rfl,fun d hd => ?_,Ext.refl β G,hh',Z6H hob⟩
            · simp [Instr.next,hv,Z3F hw,hp,goInt,Z8P (P:=P) hw (by simp),Result.andThen]
            · cases hd
              exact YX.2 ⟨[.bool true,.int .i64 (pos:Nat),.int .i32 (Utf8.decode s pos).1],rfl,Zc.2 ⟨_,_,rfl,ZK.2 rfl,Zc.2 ⟨_,_,rfl,ZH.2 rfl,Zc.2 ⟨_,_,rfl,ZH.2 rfl,Zo.2 rfl⟩⟩⟩⟩
          · simp only [hp,decide_false,cond_false] at hd
            cases hd
            refine Yb.pure hh (YH (v := .tuple #[.bool false]) (by unfold execOp;rw [ho]) ?_) (YX.2 ⟨[.bool false],rfl,Zc.2 ⟨_,_,rfl,ZK.2 rfl,Zo.2 rfl⟩⟩)
            simp [Instr.next,hv,Z3F hw,hp,Result.andThen]
        · cases hd
      · cases hd
  | extract t i =>
    rw [ho] at hd;simp only [Zx] at hd
    obtain ⟨dx,hx,hd⟩:=Z0 hd
    split at hd
    · rename_i vs
      obtain ⟨d,h1,hd⟩:=Z0 hd
      cases hd
      obtain ⟨us,he,hr⟩:=YX.1 (Zq hf hx)
      obtain ⟨v,h2,h3⟩:=Z3A hr h1
      refine Yb.pure hh (YH (v:=v) (by unfold execOp;rw [ho]) ?_) h3
      simp [Instr.extract,he,h2]
    · cases hd
  | _=>rw [ho] at hd;simp [Zx] at hd
end
end Go.Ab
namespace Go.Ab
namespace Tr
variable {α:Type}
theorem beq_dec (a b:Nat):Nat.beq a b=decide (a=b):=by
  by_cases h:a=b
  · subst h;simp
  · have:Nat.beq a b=false:=by
      cases hq:Nat.beq a b with
      | false=>rfl
      | true=>exact absurd (Nat.eq_of_beq_eq_true hq) h
    simp [this,h]
theorem blt_dec (a b:Nat):Nat.blt a b=decide (a<b):=by
  by_cases h:a<b
  · have h1:Nat.blt a b=true:=Nat.ble_eq_true_of_le h
    rw [h1];simp [h]
  · have:Nat.blt a b=false:=by
      cases hq:Nat.blt a b with
      | false=>rfl
      | true=>exact absurd (Nat.le_of_ble_eq_true hq) h
    simp [this,h]
theorem get_leaf (k:Nat):(leaf:Tr α).get k=none:=rfl
theorem get_node (l r:Tr α) (v:Option α) (k:Nat):(node l v r).get k=if k=0 then v else if k % 2=1 then l.get (k / 2) else r.get (k / 2-1):=by
  rw [get,beq_dec,beq_dec]
  by_cases h:k=0
  · simp [h]
  · by_cases h2:k % 2=1<;>simp [h,h2]
theorem get_setAux:∀ (n:Nat) (t:Tr α) (k:Nat) (v:Option α) (k':Nat),k<n→(setAux n t k v).get k'=if k'=k then v else t.get k'
  | 0,_,_,_,_,h=>by omega
  | n+1,.leaf,k,v,k',h=>by
    rw [setAux,beq_dec,beq_dec]
    by_cases h0:k=0
    · subst h0
      simp only [decide_true,cond_true,get_node,get_leaf]
      by_cases e:k'=0<;>simp [e]
    · by_cases h1:k % 2=1
      · simp only [h0,h1,decide_true,decide_false,cond_true,cond_false,get_node,get_leaf]
        by_cases e0:k'=0
        · have:k'≠k:=by omega
          simp [e0];omega
        · by_cases e1:k' % 2=1
          · rw [if_neg e0,if_pos e1,get_setAux n .leaf (k / 2) v (k' / 2) (by omega),get_leaf]
            by_cases e:k'=k
            · subst e;simp
            · rw [if_neg e,if_neg (by omega)]
          · rw [if_neg e0,if_neg e1]
            have:k'≠k:=by omega
            simp [this]
      · simp only [h0,h1,decide_false,cond_false,get_node,get_leaf]
        by_cases e0:k'=0
        · have:k'≠k:=by omega
          simp [e0];omega
        · by_cases e1:k' % 2=1
          · rw [if_neg e0,if_pos e1]
            have:k'≠k:=by omega
            simp [this]
          · rw [if_neg e0,if_neg e1,get_setAux n .leaf (k / 2-1) v (k' / 2-1) (by omega),get_leaf]
            by_cases e:k'=k
            · subst e;simp
            · rw [if_neg e,if_neg (by omega)]
  | n+1,.node l x r,k,v,k',h=>by
    rw [setAux,beq_dec,beq_dec]
    by_cases h0:k=0
    · subst h0
      simp only [decide_true,cond_true,get_node]
      by_cases e:k'=0<;>simp [e]
    · by_cases h1:k % 2=1
      · simp only [h0,h1,decide_true,decide_false,cond_true,cond_false,get_node]
        by_cases e0:k'=0
        · have:¬ (0=k):=by omega
          simp [e0,this]
        · by_cases e1:k' % 2=1
          · simp only [if_neg e0,if_pos e1,get_setAux n l (k / 2) v (k' / 2) (by omega)]
            by_cases e:k'=k
            · subst e;simp
            · rw [if_neg e,if_neg (by omega)]
          · have:k'≠k:=by omega
            simp [e0,e1,this]
      · simp only [h0,h1,decide_false,cond_false,get_node]
        by_cases e0:k'=0
        · have:¬ (0=k):=by omega
          simp [e0,this]
        · by_cases e1:k' % 2=1
          · have:k'≠k:=by omega
            simp [e0,e1,this]
          · simp only [if_neg e0,if_neg e1,get_setAux n r (k / 2-1) v (k' / 2-1) (by omega)]
            by_cases e:k'=k
            · subst e;simp
            · rw [if_neg e,if_neg (by omega)]
theorem get_set (t:Tr α) (k:Nat) (v:Option α) (k':Nat):(t.set k v).get k'=if k'=k then v else t.get k':=get_setAux _ t k v k' (by omega)
theorem mkn_get (l:Tr α) (v:Option α) (r:Tr α) (k:Nat):(mkn l v r).get k=(Tr.node l v r).get k:=by
  unfold mkn
  split
  · simp [get]
  · rfl
theorem tm_get (f:Nat→α→Option (Option α)):∀ (t t':Tr α) (a b:Nat),tm f t a b=some t' →
    ∀ k,(t.get k=none∧t'.get k=none)∨∃ x y,t.get k=some x∧f (a*k+b) x=some y∧t'.get k=y
  | .leaf,t',a,b,h,k=>by
    simp only [tm,Option.some.injEq] at h;subst h
    exact .inl ⟨rfl,rfl⟩
  | .node l v r,t',a,b,h,k=>by
    simp only [tm] at h
    obtain ⟨l',hl,h⟩:=Z0 h
    obtain ⟨v',hv,h⟩:=Z0 h
    obtain ⟨r',hr,h⟩:=Z0 h
    cases h
    rw [mkn_get,get_node,get_node]
    by_cases e0:k=0
    · subst e0
      simp only [if_true,Nat.mul_zero,Nat.zero_add]
      cases v with
      | none=>cases hv;exact .inl ⟨rfl,rfl⟩
      | some x=>exact .inr ⟨x,v',rfl,hv,rfl⟩
    · by_cases e1:k % 2=1
      · simp only [if_neg e0,if_pos e1]
        have:=tm_get f l l' _ _ hl (k / 2)
        rwa [show 2*a*(k / 2)+(a+b)=a*k+b by
          have:k=2*(k / 2)+1:=by omega
          generalize k / 2=m at this;subst this
          rw [Nat.mul_add,←Nat.mul_assoc,Nat.mul_comm a 2];omega] at this
      · simp only [if_neg e0,if_neg e1]
        have:=tm_get f r r' _ _ hr (k / 2-1)
        rwa [show 2*a*(k / 2-1)+(2*a+b)=a*k+b by
          have:k=2*(k / 2-1)+2:=by omega
          generalize k / 2-1=m at this;subst this
          rw [Nat.mul_add,←Nat.mul_assoc,Nat.mul_comm a 2];omega] at this
theorem filt_get (m:Nat):∀ (t:Tr α) (a b k:Nat),(t.filt m a b).get k=bif Nat.testBit m (a*k+b) then t.get k else none
  | .leaf,a,b,k=>by cases Nat.testBit m (a*k+b)<;>rfl
  | .node l v r,a,b,k=>by
    simp only [filt]
    rw [mkn_get,get_node,get_node]
    by_cases e0:k=0
    · subst e0
      simp only [if_true,Nat.mul_zero,Nat.zero_add]
    · by_cases e1:k % 2=1
      · simp only [if_neg e0,if_pos e1]
        rw [filt_get m l,show 2*a*(k / 2)+(a+b)=a*k+b by
          have:k=2*(k / 2)+1:=by omega
          generalize k / 2=m at this;subst this
          rw [Nat.mul_add,←Nat.mul_assoc,Nat.mul_comm a 2];omega]
      · simp only [if_neg e0,if_neg e1]
        rw [filt_get m r,show 2*a*(k / 2-1)+(2*a+b)=a*k+b by
          have:k=2*(k / 2-1)+2:=by omega
          generalize k / 2-1=m at this;subst this
          rw [Nat.mul_add,←Nat.mul_assoc,Nat.mul_comm a 2];omega]
theorem filt_sub {m:Nat} {t:Tr α} {k:Nat} {x:α} (h:(t.filt m 1 0).get k=some x):t.get k=some x:=by
  rw [filt_get] at h
  cases hm:Nat.testBit m (1*k+0) with
  | true=>rw [hm] at h;exact h
  | false=>rw [hm] at h;cases h
theorem tm_get1 {f:Nat→α→Option (Option α)} {t t':Tr α} (h:tm f t 1 0=some t') (k:Nat):(t.get k=none∧t'.get k=none)∨∃ x y,t.get k=some x∧f k x=some y∧t'.get k=y:=by
  have:=tm_get f t t' 1 0 h k
  simpa using this
end Tr
theorem Z2j (o:Tr Z8):∀ (us:List (Nat×Option Z8)) (i:Nat),(ZZ o us).get i=ZA o.get us i:=by
  intro us
  induction us generalizing o with
  | nil=>intro i;rfl
  | cons u us ih =>
    intro i
    obtain ⟨j,x⟩:=u
    rw [ZZ,ih,]
    unfold ZA
    simp only [Zp]
    cases hq:Zp i us with
    | some y=>rfl
    | none =>
      rw [Tr.get_set,Tr.beq_dec]
      by_cases e:i=j
      · subst e;simp
      · have:¬ j=i:=fun h=>e h.symm
        simp [e,this]
end Go.Ab
namespace Go.Ab
open Go.RowKit
def fw (ro:Option Nat):Fence:={ Fence.wide with round:=ro }
def Z8t (d:Nat):Deferred:={ target := .collected d,args := #[] }
structure Go2 (nx:Nat) (β:Bi) (G:Gh) (β':Bi) (G':Gh) (h h':Nat→Option Z8):Prop where
  ext:Ext β G β' G'
  keep:∀ id,id<nx→YZ β β' h h' id
theorem Go2.refl (nx:Nat) (β:Bi) (G:Gh) (h:Nat→Option Z8):Go2 nx β G β G h h:=⟨Ext.refl β G,fun id _=>YZ.refl β h id⟩
theorem Go2.trans {nx:Nat} {β β' β'':Bi} {G G' G'':Gh} {h h' h'':Nat→Option Z8} (x:Go2 nx β G β' G' h h') (y:Go2 nx β' G' β'' G'' h' h''):Go2 nx β G β'' G'' h h'' :=
  ⟨x.ext.trans y.ext,fun id hi=>(x.keep id hi).trans (y.keep id hi)⟩
theorem Go2.less {nx nx':Nat} {β β':Bi} {G G':Gh} {h h':Nat→Option Z8} (x:Go2 nx β G β' G' h h') (hl:nx'≤nx):Go2 nx' β G β' G' h h':=⟨x.ext,fun id hi=>x.keep id (Nat.lt_of_lt_of_le hi hl)⟩
structure MI (E:Env) (w0:World) (G0:Gh) (outer:DD) (V nt:Nat) (own:List Nat) (ρ:Nat→Option DV) (base:Tr DV) (h:Nat→Option Z8) (nx:Nat) (a:Act) (w:World) (β:Bi) (G:Gh):Prop where
  fr:FrM β G ρ a.tmps
  dom:∀ t d,base.get t=some d→Nat.testBit V t=true
  sz:a.tmps.size=nt
  hr:HR E w0 G0 (YA own outer) w β G h
  fresh:∀ id,nx≤id→ZJ β h id
  df:a.defers=own.map Z8t∧Z9X own outer
def Z7M (P:Program) (g:FuncId):Prop:=∀ args w,(callFunc g args).run P w = .ok (.enter g args) w
def Z2O (P:Program) (call:Nat→List DV→Option DV):Prop:=∀ g as d,call g as=some d→Z7M P g ∧
  ∀ (w:World) (β:Bi) (G:Gh) (vs:Array Value),(∀ b o v,G b o=some v→w.cell? ⟨b,o,none⟩=some v)→Zd β G as vs.toList→Za as=true →
    Calls P g vs w fun e w'=>∃ v G',e = .returned v∧Below w.heap.size w w'∧(∀ b,b<w.heap.size→G' b=G b)∧(∀ b o v,G' b o=some v→w'.cell? ⟨b,o,none⟩=some v)∧Zb d=true∧Rep β G' d v
def Z24 (E:Env) (w0:World) (G0:Gh) (D:DD) (β:Bi) (G:Gh) (objs:Tr Z8) (nx:Nat) (r:DV) (objs':Tr Z8) (nx':Nat) (e:Ending) (w':World):Prop :=
  ∃ v β' G',e = .returned v∧nx≤nx'∧Go2 nx β G β' G' objs.get objs'.get∧HR E w0 G0 D w' β' G' objs'.get∧(∀ id,nx'≤id→ZJ β' objs'.get id)∧Rep β' G' r v
def YY (P:Program) (E:Env) (callH:Yh):Prop:=∀ g as objs nx r objs' nx',callH g as objs nx=some (r,objs',nx')→Z7M P g ∧
  ∀ (w0:World) (G0:Gh) (D:DD) (w:World) (β:Bi) (G:Gh) (vs:Array Value),HR E w0 G0 D w β G objs.get→(∀ id,nx≤id→ZJ β objs.get id)→Zd β G as vs.toList →
    Calls P g vs w (Z24 E w0 G0 D β G objs nx r objs' nx')
def Z18 (P:Program) (E:Env) (callY:Yh):Prop:=∀ l as objs nx r objs' nx',callY l as objs nx=some (r,objs',nx') →
  ∀ (w0:World) (G0:Gh) (D:DD) (w:World) (β:Bi) (G:Gh) (vs:Array Value) (b:Nat),β.blk l=some b→HR E w0 G0 D w β G objs.get→(∀ id,nx≤id→ZJ β objs.get id)→Zd β G as vs.toList →
    ∃ lf tm as' bo,(Instr.yield b vs).run P w = .ok (.round b lf tm as' bo) w∧∀ n,RoundIn Fence.wide n P b lf tm as' bo w (Z24 E w0 G0 D β G objs nx r objs' nx')
section
variable {P:Program} {E:Env} {w0:World} {G0:Gh} {D:DD} {o:Oper} {a:Act} {w:World} {β:Bi} {G:Gh} {h:Nat→Option Z8} {nid:Nat} {ρ:Nat→Option DV} {ro:Option Nat} {n:Nat}
theorem Z7V {g:FuncId} {args:Array Value} {R:Ending→World→Prop} (h:Calls P g args w R):CallsIn (fw ro) n P g args w R:=by
  have:=(callsIn_wide (n:=n)).2 h
  exact this
theorem Zfp {l:Nat} {f:FuncId} {tm:Array Value} {as bo:Code} {R:Ending→World→Prop} (h:RoundIn Fence.wide n P l f tm as bo w R):RoundIn (fw ro) n P l f tm as bo w R:=h
theorem HR.grow {w':World} {G':Gh} (hh:HR E w0 G0 D w β G h) (hb:Below w.heap.size w w') (hg:∀ b,b<w.heap.size→G' b=G b) (hag:∀ b o v,G' b o=some v→w'.cell? ⟨b,o,none⟩=some v) :
    HR E w0 G0 D w' β G' h∧Ext β G β G':=by
  have hx:Ext β G β G':=⟨fun b o v hq=>by
    have hlt:b<w.heap.size:=by
      rcases Nat.lt_or_ge b w.heap.size with h1|h1
      · exact h1
      · rw [glt hh h1 o] at hq;cases hq
    rw [hg b hlt];exact hq,fun _ _ h=>h,fun _ _ _ h=>h⟩
  refine ⟨⟨?_,?_,hag,?_,?_,hh.inj,?_⟩,hx⟩
  · exact hh.below.trans ⟨hb.os,hb.tape,hb.output,hb.size,fun k hk=>hb.block k (by have:=hh.below.size;omega)⟩
  · intro b hlt
    rw [←hh.g0 b hlt];exact hg b (by have:=hh.below.size;omega)
  · intro id ob ho
    refine Z2m.keep hx (fun _=>rfl) (fun b hown => ?_) (hh.obj id ob ho)
    have hlt:=(hh.own id ob b ho hown).2.1
    exact ⟨hb.block b hlt,fun off=>by rw [hg b hlt]⟩
  · intro id ob b ho hown
    obtain ⟨k1,k2,k3⟩:=hh.own id ob b ho hown
    exact ⟨k1,Nat.lt_of_lt_of_le k2 hb.size,k3⟩
  · intro d x hd
    obtain ⟨k1,k2,k3⟩:=hh.marks d x hd
    have hlt:=(Array.getElem?_eq_some_iff.1 k2).1
    exact ⟨k1,(hb.block d hlt).trans k2,fun o=>by rw [hg d hlt];exact k3 o⟩
theorem Z88 {nid:Nat} {op:Op} {r:Out} (hd:Zx E nid ρ h op=some r):∀ c,op ≠ .defer c:=fun c hc=>by
  subst hc;simp [Zx] at hd
def Zcf (P:Program) (E:Env) (w0:World) (G0:Gh) (D:DD) (ro:Option Nat) (n:Nat) (o:Oper) (a:Act) (w:World) (β:Bi) (G:Gh) (h:Nat→Option Z8) (nid:Nat) (r:Out):Prop :=
  ∀ (K:Act→World→Prop) (Q:Exit→Act→World→Prop),(∀ v w' β' G',(∀ d,r.val=some d→Rep β' G' d v)→Ext β G β' G'→HR E w0 G0 D w' β' G' (ZA h r.upd)→Z2M β β' h (ZA h r.upd) nid→K (a.put o.dst v) w')→o.wpIn (fw ro) n P a w K Q
theorem Yb.step {r:Out} (hnd:∀ c,o.op ≠ .defer c) (hr:Yb P E w0 G0 D o a w β G h nid r):Zcf P E w0 G0 D ro n o a w β G h nid r:=fun K Q hk=>by
  obtain ⟨nx,v,w',β',G',h1,h2,h3,h4,h5,h6⟩:=hr
  refine ⟨fun f _=>trivial,?_⟩
  rw [Oper.semAt_eq _ _ _ hnd,h1]
  rcases h2 with rfl|⟨rfl,rfl⟩
  · rw [Oper.uponIn_value];exact hk v w' β' G' h3 h4 h5 h6
  · rw [Oper.uponIn_skip];exact hk undef w' β' G' h3 h4 h5 h6
theorem Z2B {ds es:List DV} {as bs:List Value} (h1:Zd β G ds as) (h2:Zd β G es bs):Zd β G (ds++es) (as++bs):=ZY.2 ⟨as,bs,rfl,h1,h2⟩
theorem Z9T (hE:∀ t ti,E.ty t=some ti→ZN P t ti) (hf:FrM β G ρ a.tmps) {c:Call} {g:FuncId} {x y:List DV} {as:List DV} (ho:o.op = .call c) (ht:target E ρ c=some (.fn (.func g) x y,as)) (he:Z7M P g) :
    ∃ vs:Array Value,(execOp a.eval o).run P w = .ok (.enter g vs) w∧Zd β G as vs.toList:=by
  unfold target at ht
  split at ht
  · rename_i f hc
    obtain ⟨df,h1,ht⟩:=Z0 ht
    split at ht
    · rename_i g' first caps
      obtain ⟨as',h2,ht⟩:=Z0 ht
      cases ht
      obtain ⟨vf,vc,hv,hr1,hr2⟩:=ZcL.1 (Zq hf h1)
      refine ⟨vf.toArray++c.args.map a.eval++vc.toArray,?_,?_⟩
      · unfold execOp;rw [ho]
        have h9:=he (vf.toArray++c.args.map a.eval++vc.toArray) w
        simpa [resolve,hc,hv,Deferred.ofValue,invoke] using h9
      · have:=Z2B (Z2B hr1 (Z1v hf h2)) hr2
        simpa using this
    · obtain ⟨as',h2,ht⟩:=Z0 ht
      cases ht
    · cases ht
  · rename_i rv m hc
    obtain ⟨df,h1,ht⟩:=Z0 ht
    split at ht
    · rename_i t v
      obtain ⟨ti,hti,ht⟩:=Z0 ht
      obtain ⟨g',hg,ht⟩:=Z0 ht
      obtain ⟨as',h2,ht⟩:=Z0 ht
      cases ht
      obtain ⟨u,hu,hr⟩:=Z6V.1 (Zq hf h1)
      refine ⟨#[u]++c.args.map a.eval,?_,?_⟩
      · unfold execOp;rw [ho]
        have h8:=(hE t ti hti).meth m g hg u (c.args.map a.eval) w
        have h9:=he (#[u]++c.args.map a.eval) w
        rw [h9] at h8
        have h10:(#[Value.iface t u]++c.args.map a.eval).extract 1 (#[Value.iface t u]++c.args.map a.eval).size=c.args.map a.eval:=by
          rw [Array.extract_append]
          simp
        have h11:(#[Value.iface t u]++c.args.map a.eval)[0]? = some (.iface t u):=by
          rw [Array.getElem?_append_left (by simp)];rfl
        simp only [resolve,hc,hu]
        show ((Pure.pure ({ target := .fn (.method m) #[],args := #[Value.iface t u]++c.args.map a.eval }:Deferred):Sem Deferred) >>= fun d=>invoke d.target d.args).run P w=_
        simp only [pure_bind]
        unfold invoke
        simp only [h11,h10]
        exact h8
      · have:=Zc.2 ⟨u,_,rfl,hr,Z1v hf h2⟩
        simpa using this
    · cases ht
  · cases ht
theorem Zd1 (hf:FrM β G ρ a.tmps) {c:Call} {l:Nat} {as:List DV} (ho:o.op = .call c) (ht:target E ρ c=some (.yld l,as)) :
    ∃ (vs:Array Value) (b:Nat),β.blk l=some b∧execOp a.eval o=Instr.yield b vs∧Zd β G as vs.toList:=by
  unfold target at ht
  split at ht
  · rename_i f hc
    obtain ⟨df,h1,ht⟩:=Z0 ht
    split at ht
    · obtain ⟨as',h2,ht⟩:=Z0 ht
      cases ht
    · rename_i id
      obtain ⟨as',h2,ht⟩:=Z0 ht
      cases ht
      obtain ⟨b,hb,hv⟩:=ZdE.1 (Zq hf h1)
      refine ⟨c.args.map a.eval,b,hb,?_,by simpa using Z1v hf h2⟩
      unfold execOp;rw [ho]
      simp [resolve,hc,hv,Deferred.ofValue,invoke]
    · cases ht
  · obtain ⟨df,h1,ht⟩:=Z0 ht
    split at ht
    · obtain ⟨ti,hti,ht⟩:=Z0 ht
      obtain ⟨g',hg,ht⟩:=Z0 ht
      obtain ⟨as',h2,ht⟩:=Z0 ht
      cases ht
    · cases ht
  · cases ht
theorem Z3e {op:Op} {c:Call} (h:Z3m op=some c):op = .call c:=by
  unfold Z3m at h
  split at h
  · split at h
    · cases h;rfl
    · cases h;rfl
    · cases h
  · cases h
theorem Zaa (hE:∀ t ti,E.ty t=some ti→ZN P t ti) {call:Nat→List DV→Option DV} (hp:Z2O P call) (hf:FrM β G ρ a.tmps) (hh:HR E w0 G0 D w β G h) {c:Call} (ho:o.op = .call c) {r:Out} (hd:Z5u E call ρ h c=some r) :
    Zcf P E w0 G0 D ro n o a w β G h nid r:=fun K Q hk=>by
  unfold Z5u at hd
  obtain ⟨tg,ht,hd⟩:=Z0 hd
  split at hd
  · rename_i g x y as
    obtain ⟨fs,hfs,hd⟩:=Z0 hd
    obtain ⟨d,hcall,hd⟩:=Z0 hd
    cases hd
    obtain ⟨hent,hcs⟩:=hp g fs d hcall
    obtain ⟨vs,hrun,hrep⟩:=Z9T (w:=w) hE hf ho ht hent
    obtain ⟨G1,hx1,hh1,hs1⟩:=Z1R hh (Zf as)
    obtain ⟨hr1,hid⟩:=Z4o hx1 (Z3G h _) hfs hs1 hrep
    have hC:=hcs w β G1 vs hh1.agree hr1 hid
    refine ⟨fun f _=>trivial,?_⟩
    rw [Oper.semAt_eq _ _ _ (by rw [ho];simp),hrun,Oper.uponIn_enter]
    refine ⟨fun hq=>by simp [fw,Fence.wide] at hq,Z7V (Calls.mono hC fun e w' he => ?_)⟩
    obtain ⟨v,G',rfl,hb,hg,hag,_,hrv⟩:=he
    obtain ⟨hh2,hx2⟩:=hh1.grow hb hg hag
    refine hk v w' β G' (fun d' hd'=>by cases hd';exact hrv) (hx1.trans hx2) hh2 (Z70 _)
  · cases hd
theorem Z7d (hE:∀ t ti,E.ty t=some ti→ZN P t ti) {call:Nat→List DV→Option DV} (hp:Z2O P call) (hf:FrM β G ρ a.tmps) (hh:HR E w0 G0 D w β G h) (hfr:ZJ β h nid) {r:Out}
    (hd:Z7c E call nid ρ h o.op=some r):Zcf P E w0 G0 D ro n o a w β G h nid r:=by
  unfold Z7c at hd
  split at hd
  · rename_i c hc
    exact Zaa hE hp hf hh (Z3e hc) hd
  · exact (Zcr hE hf hh hfr hd).step (Z88 hd)
end
end Go.Ab
