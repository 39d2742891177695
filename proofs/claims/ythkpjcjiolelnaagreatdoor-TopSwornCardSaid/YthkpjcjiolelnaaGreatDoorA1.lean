/- What the code of the program comes to on plain values. -/
import GoSem.Step
import Derived.Orders
import Derived.Below
import Derived.WalkKit
import Derived.CallsIn
import Derived.Laws.CopyRow
import Derived.Great.BuildSlice
import Derived.Deep.DeepAppendWide
import Derived.Lib.AppendStr
import Derived.Room.AppendFits
import Derived.RangeFuncRecord
import Derived.Laws.OwnMore
set_option linter.unusedSectionVars false
set_option linter.unusedVariables false
set_option linter.unusedSimpArgs false
set_option linter.defProp false
namespace Go.Ab
def Gv:=@Array.getElem?_eq_some_iff
def HO:=@List.drop_eq_getElem_cons
def OE:=@List.getElem?_eq_some_iff
def G9:=@List.drop_eq_nil_of_le
def Al:=@Nat.eq_of_beq_eq_true
def DF:=@Nat.le_of_ble_eq_true
def CI:=@Bool.false_eq_true
def Bc:=@Option.some.injEq
def C7:=@Go.run_underlying
def FV:=@List.append_assoc
def Ew:=@decide_eq_true_eq
def Fx:=@List.getElem_mem
def OF:=@List.not_mem_nil
def AX:=@Option.bind_some
def Ar:=@Bool.and_eq_true
def jp:=@List.append_nil
def C8:=@Option.map_none
def As:=@Option.map_some
def DU:=@List.map_cons
def EW:=@List.all_cons
def CD:=@Bool.and_self
def DK:=@List.mem_cons
def LF:=@Sum.elim_inl
def IC:=@Sum.elim_inr
def Cz:=@Sem.run_bind
def Ac:=@cond_false
def AY:=@cond_true
inductive AB where
 | bool (b:Bool)
 | int (k:IntKind) (n:Int)
 | str (s:ByteArray)
 | Bu
 | ptr (id off:Nat)
 | CO (id ver i esz off:Nat)
 | CN (cs:List AB)
 | Aq
 | AR (es:List (List AB))
 | rs (id ver:Nat)
 | CV (id ver i n e:Nat)
 | EG (n:Nat)
 | agg (cs:List AB)
 | Ap (vs:List AB)
 | fn (f:Fn) (first caps:List AB)
 | A2
 | map (id:Nat)
 | Cv
 | iface (t:TypeId) (v:AB)
 | Bl
 | iter (id:Nat)
 | B2 (id:Nat)
 deriving Inhabited
inductive Tr (α:Type) where
 | leaf
 | node (l:Tr α) (v:Option α) (r:Tr α)
 deriving Inhabited
namespace Tr
variable {α:Type}
def get:Tr α->Nat->Option α
 | .leaf,_=>none
 | .node l v r,k=>bif Nat.beq k 0 then v else bif Nat.beq (k % 2) 1 then l.get (k / 2)else r.get (k / 2-1)
def setAux:Nat->Tr α->Nat->Option α->Tr α
 | 0,t,_,_=>t
 | n+1,.leaf,k,v=>bif Nat.beq k 0 then .node .leaf v .leaf else bif Nat.beq (k % 2) 1 then .node (setAux n .leaf (k / 2) v) none .leaf else .node .leaf none (setAux n .leaf (k / 2-1) v)
 | n+1,.node l x r,k,v=>bif Nat.beq k 0 then .node l v r else bif Nat.beq (k % 2) 1 then .node (setAux n l (k / 2) v) x r else .node l x (setAux n r (k / 2-1) v)
def set (t:Tr α) (k:Nat) (v:Option α):Tr α:=setAux (k+1) t k v
def Pk (l:Tr α) (v:Option α) (r:Tr α):Tr α:=match l,v,r with
 | .leaf,none,.leaf=>.leaf
 | l,v,r=>.node l v r
def CP (f:Nat->α->Option (Option α)):Tr α->(a b:Nat)->Option (Tr α)
 | .leaf,_,_=>some .leaf
 | .node l v r,a,b=>(CP f l (2*a) (a+b)).bind fun l=>(match v with|some x=>f b x|none=>some none:Option (Option α)).bind fun v=>(CP f r (2*a) (2*a+b)).bind fun r=>some (Pk l v r)
def Ly (m:Nat):Tr α->(a b:Nat)->Tr α
 | .leaf,_,_=>.leaf
 | .node l v r,a,b=>Pk (Ly m l (2*a) (a+b)) (bif Nat.testBit m b then v else none) (Ly m r (2*a) (2*a+b))
def BL {β:Type} (f:α->β):Tr α->Tr β
 | .leaf=>.leaf
 | .node l v r=>.node (l.BL f) (v.map f) (r.BL f)
def ofList (l:List (Nat×α)):Tr α:=l.foldl (fun t d=>t.set d.1 (some d.2)) .leaf
end Tr
inductive Ce where
 | normal
 | exit (id:Nat)
 | ret
 | busy
 deriving Inhabited
inductive A8 where
 | cells (t:TypeId) (cs:List AB)
 | row (t:TypeId) (es:List (List AB)) (pubd ver:Nat)
 | map (es:List (AB×AB))
 | Ez (s:ByteArray) (pos:Nat)
 | Dg (m n:Nat) (seen:List Nat)
 | Ea (t:TypeId) (es:List (List AB)) (ver:Nat)
 | loop (Bj:Nat) (base:Tr AB) (params:List Nat) (assign body:Code) (Af:Nat) (done:Ce)
 deriving Inhabited
inductive NE where
 | bool|int (k:IntKind)|string
 | struct (fs:List (Nat×Nat))
 | array (len elem:Nat)
 | slice (elem:Nat)
 | map (k e:Nat)
 | ptr (e:Nat)
 | func|iface|other
 deriving Inhabited
structure By where
 k:NE
 size:Nat
 bytes:Nat
 zero:List AB
 SL:Bool
 LG:Bool
 Zj:List (String×Nat)
 view:Bool
 deriving Inhabited
def By.isAgg (t:By):Bool:=match t.k with | .struct _ | .array _ _=>true|_=>false
inductive Acc where
 | slot (t:Nat) (elem:TypeId)
 | cell (t off:Nat) (elem:TypeId)
 deriving Inhabited
structure GR where
 Af:Nat
 Cs:Nat
 Ff:List Acc
 raw:Bool
 deriving Inhabited
structure Ag where
 body:Code
 AU:Nat
 JQ:List ResultVar
 E6:Nat
 hints:List GR
 Aec:Bool
 K0:List (Nat×Nat)
 Pr:Nat
 can:Bool
 /-- regions GB of which the variable that a slot points to is published -/
 V0:List (Nat×Nat)
 /-- loops over the keys of a map, which are put into a list: the loop, the slots of the iterator and of the list, the elements' type, what is forgotten -/
 Ady:List (Nat×Nat×Nat×TypeId×Nat)
 deriving Inhabited
structure Env where
 ty:Nat->Option By
 fn:Nat->Option Ag
 /-- functions of the library, told by what they come to -/
 leaf:Nat->Option (List AB->Option AB)
 /-- the copy check of a builder -/
 Hh:Nat->Option TypeId
 /-- copies of slices, by their elements' type -/
 Mr:Nat->Option TypeId
 /-- sorts of lists of integers -/
 Mz:Nat->Option TypeId
 /-- functions that recover, and do nothing else where nothing panics -/
 OB:Nat->Bool
 /-- what the leaves ask of the world -/
 inv:World->Prop
 stays:∀w w',inv w->RowKit.Below w.heap.size w w'->inv w'
def cellsOf:AB->List AB
 | .agg cs=>cs
 | v=>[v]
def Ct:AB->Bool
 | .agg _ | .Ap _=>false
 | _=>true
def ZN:Value->Option AB
 | .bool b=>some (.bool b)
 | .int k n=>some (.int k n)
 | .string s=>some (.str s)
 | .pointer none=>some .Bu
 | .slice none 0 0=>some .Aq
 | .map none=>some .Cv
 | .nilFunc=>some .A2
 | .nilIface=>some .Bl
 | _=>none
def CA (ρ:Nat->Option AB):Operand->Option AB
 | .tmp t=>ρ t
 | .const v=>ZN v
 | .func f=>some (.fn (.func f) [] [])
 | .global _=>none
def Gt (ρ:Nat->Option AB):List Operand->Option (List AB)
 | []=>some []
 | x::xs=>(CA ρ x).bind fun v=>(Gt ρ xs).bind fun vs=>some (v::vs)
mutual
def BW:AB->Bool
 | .bool _ | .int _ _ | .str _ | .Bu | .Aq | .AR _ | .A2 | .Cv | .Bl=>true
 | .agg cs=>B4 cs
 | .Ap cs=>B4 cs
 | .fn _ a b=>B4 a&&B4 b
 | .iface _ v=>BW v
 | _=>false
def B4:List AB->Bool
 | []=>true
 | c::cs=>BW c&&B4 cs
end
mutual
def DC (n:Nat):AB->Bool
 | .ptr i _ | .CO i _ _ _ _ | .rs i _ | .CV i _ _ _ _ | .map i | .iter i | .B2 i=>Nat.blt i n
 | .agg cs=>FM n cs
 | .Ap cs=>FM n cs
 | .fn _ a b=>FM n a&&FM n b
 | .iface _ v=>DC n v
 | .CN cs=>FM n cs
 | _=>true
def FM (n:Nat):List AB->Bool
 | []=>true
 | c::cs=>DC n c&&FM n cs
end
mutual
def BP (h:Nat->Option A8):AB->Option AB
 | .rs id v=>(h id).bind fun | .row _ es _ u=>bif Nat.beq u v then some (.AR es)else none|_=>none
 | .agg cs=>(FF h cs).bind fun cs=>some (.agg cs)
 | .Ap cs=>(FF h cs).bind fun cs=>some (.Ap cs)
 | .iface t v=>(BP h v).bind fun v=>some (.iface t v)
 | .Aq=>some (.AR [])
 | d=>bif BW d then some d else none
def FF (h:Nat->Option A8):List AB->Option (List AB)
 | []=>some []
 | c::cs=>(BP h c).bind fun c=>(FF h cs).bind fun cs=>some (c::cs)
end
mutual
def B3:AB->List Nat
 | .rs id _=>[id]
 | .CV id _ _ _ _=>[id]
 | .agg cs=>Bm cs
 | .Ap cs=>Bm cs
 | .iface _ v=>B3 v
 | _=>[]
def Bm:List AB->List Nat
 | []=>[]
 | c::cs=>B3 c++Bm cs
end
def Jq (p n:Nat):Nat:=match p with|0=>0|_+1=>n
def Kx:A8->A8
 | .row t es _ u=>.row t es 1 u
 | o=>o
def DE (h:Nat->Option A8):List Nat->List (Nat×Option A8)
 | []=>[]
 | i::is=>(match h i with|some (.row t es p u)=>bif Nat.beq p 1 then []else [(i,some (.row t es 1 u))]|_=>[])++DE h is
def Er:List AB->Nat->List AB->List AB
 | cs,_,[]=>cs
 | [],_,_=>[]
 | _::cs,0,v::vs=>v::Er cs 0 vs
 | c::cs,n+1,vs=>c::Er cs n vs
def Gk (ti:By) (cs:List AB) (off:Nat):Option AB :=
 bif ti.isAgg then(bif Nat.ble (off+ti.size) cs.length then some (.agg ((cs.drop off).take ti.size))else none)else cs[off]?
structure Out where
 val:Option AB
 Ba:List (Nat×Option A8)
def ret (v:AB):Option Out:=some ⟨some v,[]⟩
def ZU (op:BinOp) (x y:Int):Option AB :=
 match op with
 | .eql=>some (.bool (x==y))
 | .neq=>some (.bool (x != y))
 | .lss=>some (.bool (x<y))
 | .leq=>some (.bool (x<=y))
 | .gtr=>some (.bool (x>y))
 | .geq=>some (.bool (x>=y))
 | _=>none
def Yw (op:BinOp) (k:IntKind) (x y:Int):Option AB :=
 let a:=BitVec.ofInt k.bits x
 let b:=BitVec.ofInt k.bits y
 match op with
 | .and=>some (.int k (k.wrap (a &&& b).toNat))
 | .or=>some (.int k (k.wrap (a ||| b).toNat))
 | .xor=>some (.int k (k.wrap (a ^^^ b).toNat))
 | .andNot=>some (.int k (k.wrap (a &&& ~~~b).toNat))
 | _=>none
def Z2 (op:BinOp) (k:IntKind) (x y:Int):Option AB :=
 match op with
 | .add=>some (.int k (k.wrap (x+y)))
 | .sub=>some (.int k (k.wrap (x-y)))
 | .mul=>some (.int k (k.wrap (x*y)))
 | .quo=>bif y==0 then none else some (.int k (k.wrap (x.tdiv y)))
 | .rem=>bif y==0 then none else some (.int k (x.tmod y))
 | .and | .or | .xor | .andNot=>Yw op k x y
 | .shl | .shr=>none
 | op=>ZU op x y
def Yk (op:BinOp) (k:IntKind) (x y:Int):Option AB :=
 bif decide (y<0)then none else
 match op with
 | .shl=>some (.int k (k.wrap (x*2 ^ (min y.toNat k.bits))))
 | .shr=>some (.int k (x.fdiv (2 ^ (min y.toNat k.bits))))
 | _=>none
def R7:BinOp->Bool
 | .shl | .shr=>true
 | _=>false
def ZY (op:BinOp) (x y:ByteArray):Option AB :=
 let eq:=x.toList==y.toList
 let lt:=Op.bytesLess x.toList y.toList
 match op with
 | .add=>bif Nat.ble (x.size+y.size) 1099511627776 then some (.str (x++y))else none
 | .eql=>some (.bool eq)
 | .neq=>some (.bool !eq)
 | .lss=>some (.bool lt)
 | .leq=>some (.bool (lt||eq))
 | .gtr=>some (.bool !(lt||eq))
 | .geq=>some (.bool !lt)
 | _=>none
def Bz:List AB->List AB->Option Bool
 | [],[]=>some true
 | .int k a::xs,.int k' b::ys=>bif k==k' then(Bz xs ys).bind fun r=>some (a==b&&r)else none
 | .bool a::xs,.bool b::ys=>(Bz xs ys).bind fun r=>some (a==b&&r)
 | .str a::xs,.str b::ys=>(Bz xs ys).bind fun r=>some (a==b&&r)
 | _,_=>none
def C9:List AB->List AB->Bool
 | [],[]=>true
 | .int k _::d,.int k' _::xs=>k==k'&&C9 d xs
 | .bool _::d,.bool _::xs=>C9 d xs
 | .str _::d,.str _::xs=>C9 d xs
 | _,_=>false
def Mh (E:Env) (op:BinOp) (t:TypeId):AB->AB->Option AB
 | .int k x,.int k' y=>bif R7 op then Yk op k x y else bif k==k' then Z2 op k x y else none
 | .str x,.str y=>ZY op x y
 | .bool x,.bool y=>(E.ty t).bind fun ti=>match ti.k,op with
  | .bool,.eql=>some (.bool (x==y))
  | .bool,.neq=>some (.bool (!(x==y)))
  | _,_=>none
 | .agg x,.agg y=>(E.ty t).bind fun ti=>bif ti.SL&&C9 ti.zero x&&C9 ti.zero y then(match op with
  | .eql=>(Bz x y).bind fun r=>some (.bool r)
  | .neq=>(Bz x y).bind fun r=>some (.bool !r)
  | _=>none)else none
 | .AR (_::_),.Aq=>(E.ty t).bind fun ti=>match ti.k,op with
  | .slice _,.eql=>some (.bool false)
  | .slice _,.neq=>some (.bool true)
  | _,_=>none
 | .iface _ _,.Bl=>(E.ty t).bind fun ti=>match ti.k,op with
  | .iface,.eql=>some (.bool false)
  | .iface,.neq=>some (.bool true)
  | _,_=>none
 | _,_=>none
def Uv:Operand->Bool
 | .const _=>true
 | _=>false
def oF (E:Env) (op:BinOp) (t:TypeId):Option AB:=(E.ty t).bind fun ti=>match ti.k,op with
 | .iface,.eql=>some (.bool true)
 | .iface,.neq=>some (.bool false)
 | _,_=>none
def bA (op:UnOp):AB->Option AB
 | .int k n=>match op with | .neg=>some (.int k (k.wrap (0-n)))|_=>none
 | .bool b=>match op with | .not=>some (.bool !b)|_=>none
 | _=>none
def I7 (n:Nat):AB->Option Nat
 | .int _ i=>bif decide (0<=i)&&decide (i<n)then some i.toNat else none
 | _=>none
def FK (h:Nat->Option A8):AB->Option (List (List AB))
 | .Aq=>some []
 | .AR es=>some es
 | .rs id v=>(h id).bind fun | .row _ es _ u=>bif Nat.beq u v then some es else none|_=>none
 | .CV id v i n e=>(h id).bind fun | .row _ es _ u=>bif Nat.beq u v&&es.all (fun c=>Nat.beq c.length e)then some ((es.drop i).take n)else none|_=>none
 | _=>none
def N5 (fs:List (Nat×Nat)) (E:Env):List (Nat×AB)->List AB->Option (List AB)
 | [],cs=>some cs
 | (i,v)::AP,cs=>(fs[i]?).bind fun(d,off)=>(E.ty d).bind fun ti =>
   bif Nat.beq (cellsOf v).length ti.size&&Nat.ble (off+ti.size) cs.length then N5 fs E AP (Er cs off (cellsOf v))else none
def NZ (size:Nat):List (Nat×AB)->List AB->Option (List AB)
 | [],cs=>some cs
 | (i,v)::AP,cs=>bif Nat.beq (cellsOf v).length size&&Nat.ble (i*size+size) cs.length then NZ size AP (Er cs (i*size) (cellsOf v))else none
def Jd (ρ:Nat->Option AB):List (Nat×Operand)->Option (List (Nat×AB))
 | []=>some []
 | (i,x)::AP=>(CA ρ x).bind fun v=>(Jd ρ AP).bind fun vs=>some ((i,v)::vs)
def Ll (h:Nat->Option A8) (size:Nat):Nat->List (Nat×AB)->Option (List (List AB))
 | _,[]=>some []
 | k,(i,v)::AP=>bif Nat.beq i k&&Nat.beq (cellsOf v).length size then(FF h (cellsOf v)).bind fun c=>bif c.all Ct then(Ll h size (k+1) AP).bind fun r=>some (c::r)else none else none
def J8:AB->Nat->Option AB
 | .ptr id off,n=>some (.ptr id (off+n))
 | .CO id v i e off,n=>some (.CO id v i e (off+n))
 | .CN cs,n=>some (.CN (cs.drop n))
 | _,_=>none
def I8 (ti:By) (h:Nat->Option A8):AB->Option AB
 | .ptr id off=>(h id).bind fun | .cells _ cs=>Gk ti cs off|_=>none
 | .CO id v i e off=>(h id).bind fun
  | .row _ es _ u=>(es[i]?).bind fun c=>bif Nat.beq u v&&Nat.beq c.length e then Gk ti c off else none
  | _=>none
 | .CN cs=>Gk ti cs 0
 | _=>none
def Nb (ti:By) (h:Nat->Option A8) (a v:AB):Option (List (Nat×Option A8)) :=
 bif Nat.beq (cellsOf v).length ti.size&&(cellsOf v).all Ct then
  match a with
  | .ptr id off=>(h id).bind fun
   | .cells t cs=>bif Nat.ble (off+ti.size) cs.length then some [(id,some (.cells t (Er cs off (cellsOf v))))]else none
   | _=>none
  | .CO id d i e off=>(h id).bind fun
   | .row t es p u=>(es[i]?).bind fun c=>bif Nat.beq u d&&Nat.beq c.length e&&Nat.beq p 0&&B4 (cellsOf v)&&Nat.ble (off+ti.size) c.length then
     some [(id,some (.row t (es.set i (Er c off (cellsOf v))) p u))]else none
   | _=>none
  | _=>none
 else none
def Ux:AB->AB->Option AB
 | .int k x,.int _ y=>some (.int k (bif decide (y<x)then y else x))
 | _,_=>none
def Uw:AB->AB->Option AB
 | .int k x,.int _ y=>some (.int k (bif decide (y>x)then y else x))
 | _,_=>none
def M9 (f:AB->AB->Option AB):AB->List AB->Option AB
 | x,[]=>some x
 | x,y::ys=>(f x y).bind fun z=>M9 f z ys
def IS (k:NE) (h:Nat->Option A8) (d:AB):Option AB :=
 match k,d with
 | .string,.str s=>some (.int .i64 (s.size:Nat))
 | .map _ _,.Cv=>some (.int .i64 0)
 | .map _ _,.map id=>(h id).bind fun | .map es=>some (.int .i64 (es.length:Nat))|_=>none
 | .slice _,.EG n=>some (.int .i64 (n:Nat))
 | .slice _,d=>(FK h d).bind fun es=>some (.int .i64 (es.length:Nat))
 | .array n _,_=>some (.int .i64 (n:Nat))
 | _,_=>none
def PN (s:ByteArray):List (List AB):=s.data.toList.map fun b=>[.int .u8 b.toNat]
def YI:List (List AB)->Option (List UInt8)
 | []=>some []
 | [.int .u8 n]::es=>bif decide (0<=n)&&decide (n<256)then(YI es).bind fun l=>some (UInt8.ofNat n.toNat::l)else none
 | _=>none
def Np (E:Env) (h:Nat->Option A8) (t t':TypeId) (x:AB):Option (List (List AB)) :=
 bif Nat.beq t t' then FK h x else match x with
 | .str s=>(E.ty t').bind fun ti=>match ti.k with
  | .string=>some (PN s)
  | _=>none
 | _=>none
def L8 (E:Env) (nid:Nat) (h:Nat->Option A8) (t t':TypeId) (s x:AB):Option Out :=
 (E.ty t).bind fun ti=>match ti.k with
 | .slice e=>(E.ty e).bind fun d=>(Np E h t t' x).bind fun xs=>bif Nat.blt 0 d.size&&Nat.ble d.bytes 100000000000 then(match s with
  | .Aq=>(match xs with
   | []=>ret .Aq
   | _::_=>bif xs.all (fun c=>Nat.beq c.length d.size)&&Nat.ble (xs.length*(d.bytes+1)) 200000000000000 then some ⟨some (.rs nid 0),[(nid,some (.row e xs 0 0))]⟩else none)
  | .rs id v=>(h id).bind fun
   | .row e' es p u=>bif Nat.beq u v&&Nat.beq e' e&&xs.all (fun c=>Nat.beq c.length d.size)&&Nat.ble ((es.length+xs.length)*(d.bytes+1)) 200000000000000 then
     some ⟨some (.rs id (v+1)),[(id,some (.row e (es++xs) p (v+1)))]⟩else none
   | _=>none
  | _=>none)else none
 | _=>none
def P6:AB->Bool
 | .int _ _ | .str _ | .bool _=>true
 | _=>false
def LG:AB->Bool
 | .int _ _ | .str _ | .bool _=>true
 | .agg cs=>cs.all P6
 | _=>false
def Gn:By->AB->Bool:=fun ti d=>match ti.k,d with
 | .int _,.int _ _=>true
 | .string,.str _=>true
 | .bool,.bool _=>true
 | .struct _,.agg cs=>ti.SL&&ti.LG&&C9 ti.zero cs
 | _,_=>false
def Ma:AB->AB->Option Bool
 | .int k a,.int k' b=>bif k==k' then some (a==b)else none
 | .str a,.str b=>some (a==b)
 | .bool a,.bool b=>some (a==b)
 | .agg a,.agg b=>Bz a b
 | _,_=>none
def M1 (k:AB):List (AB×AB)->Option (Option AB)
 | []=>some none
 | (k',v)::es=>(Ma k k').bind fun r=>bif r then some (some v)else M1 k es
def Nh (k v:AB):List (AB×AB)->Option (List (AB×AB))
 | []=>some [(k,v)]
 | (k',d)::es=>(Ma k k').bind fun r=>bif r then some ((k,v)::es)else(Nh k v es).bind fun es=>some ((k',d)::es)
def KJ:Option AB->Nat->Nat->Option Nat
 | none,Bi,_=>some Bi
 | some (.int _ i),_,y=>bif decide (0<=i)&&decide (i<=y)then some i.toNat else none
 | _,_,_=>none
def mZ (s:ByteArray) (A1 AA:Option AB):Option AB :=
 (KJ AA s.size s.size).bind fun h=>(KJ A1 0 h).bind fun l=>some (.str (s.extract l h))
def KP (es:List (List AB)) (A1 AA:Option AB):Option AB :=
 (KJ AA es.length es.length).bind fun h=>(KJ A1 0 h).bind fun l=>some (.AR ((es.take h).drop l))
def Kr (h:Nat->Option A8):AB->Bool
 | .rs id _=>(match h id with|some (.row _ _ p _)=>Nat.beq p 0|_=>false)
 | _=>false
def ZC (es:List (List AB)) (e:Nat) (d:AB) (A1 AA:Option AB):Option AB :=
 (KJ AA es.length es.length).bind fun b=>(KJ A1 0 b).bind fun l=>match d with
 | .rs id v=>some (.CV id v l (b-l) e)
 | _=>none
def Ht (ti:By):Option AB:=bif ti.isAgg then some (.agg ti.zero)else ti.zero.head?
def Hb (e:Nat):Nat->List AB->List (List AB)
 | 0,_=>[]
 | n+1,cs=>cs.take e::Hb e n (cs.drop e)
def Lb (ρ:Nat->Option AB):Option Operand->Option (Option AB)
 | none=>some none
 | some x=>(CA ρ x).bind fun v=>some (some v)
def BX (E:Env) (nid:Nat) (ρ:Nat->Option AB) (h:Nat->Option A8) (op:Op):Option Out :=
 match op with
 | .move x=>(CA ρ x).bind ret
 | .assign x=>(CA ρ x).bind ret
 | .pick c a b=>(CA ρ c).bind fun
  | .bool c=>(bif c then CA ρ a else CA ρ b).bind ret
  | _=>none
 | .alloc t=>(E.ty t).bind fun ti=>some ⟨some (.ptr nid 0),[(nid,some (.cells t ti.zero))]⟩
 | .box t x=>(CA ρ x).bind fun v=>bif(cellsOf v).all Ct then some ⟨some (.ptr nid 0),[(nid,some (.cells t (cellsOf v)))]⟩else none
 | .build t AP=>(E.ty t).bind fun ti=>(Jd ρ AP.toList).bind fun vs=>match ti.k with
  | .struct fs=>(N5 fs E vs ti.zero).bind fun cs=>ret (.agg cs)
  | .array _ e=>(E.ty e).bind fun q=>(NZ q.size vs ti.zero).bind fun cs=>ret (.agg cs)
  | _=>none
 | .buildSlice t n AP=>(E.ty t).bind fun ti=>match ti.k with
  | .slice e=>(E.ty e).bind fun q=>(Jd ρ AP.toList).bind fun vs=>(Ll h q.size 0 vs).bind fun es =>
    bif Nat.beq es.length n&&Nat.ble (n*q.size) 1048576&&Nat.blt 0 q.size then some ⟨some (.rs nid 0),(nid,some (.row e es 0 0))::DE h (Bm (vs.map (·.2)))⟩else none
  | _=>none
 | .load t a=>(E.ty t).bind fun ti=>(CA ρ a).bind fun a=>(I8 ti h a).bind ret
 | .store t a x=>(E.ty t).bind fun ti=>(CA ρ a).bind fun a=>(CA ρ x).bind fun v=>(Nb ti h a v).bind fun u=>some ⟨some (.Ap []),u⟩
 | .nilCheck x=>(CA ρ x).bind fun
  | .ptr i o=>ret (.ptr i o)
  | .CO i v j e o=>ret (.CO i v j e o)
  | .CN cs=>ret (.CN cs)
  | _=>none
 | .binOp op t x y _=>(CA ρ x).bind fun J=>(CA ρ y).bind fun M=>(match J,M with
  | .Bl,.Bl=>bif Uv x||Uv y then oF E op t else none
  | J,M=>Mh E op t J M:Option AB).bind ret
 | .unOp op _ x=>(CA ρ x).bind fun x=>(bA op x).bind ret
 | .convert s d x=>(E.ty s).bind fun _=>(E.ty d).bind fun ti=>(CA ρ x).bind fun x=>match ti.k,x with
  | .int k,.int _ n=>ret (.int k (k.wrap n))
  | .string,.str s=>ret (.str s)
  | _,_=>none
 | .makeFunc f a c=>(Gt ρ a.toList).bind fun a=>(Gt ρ c.toList).bind fun c=>ret (.fn f a c)
 | .makeMap _ none=>some ⟨some (.map nid),[(nid,some (.map []))]⟩
 | .slice t x A1 AA none=>(E.ty t).bind fun ti=>(CA ρ x).bind fun x=>(Lb ρ A1).bind fun A1=>(Lb ρ AA).bind fun AA=>match ti.k,x with
  | .string,.str s=>(mZ s A1 AA).bind ret
  | .array n e,.ptr id off=>(E.ty e).bind fun q=>(h id).bind fun
   | .cells _ cs=>bif Nat.ble (off+n*q.size) cs.length&&Nat.blt 0 q.size&&B4 ((cs.drop off).take (n*q.size))then
     (KP (Hb q.size n (cs.drop off)) A1 AA).bind fun r=>some ⟨some r,[(id,none)]⟩else none
   | _=>none
  | .array n e,.CN cs=>(E.ty e).bind fun q=>bif Nat.ble (n*q.size) cs.length&&cs.all Ct then(KP (Hb q.size n cs) A1 AA).bind ret else none
  | .slice e,d=>(E.ty e).bind fun q=>(FK h d).bind fun es=>bif es.all (fun c=>Nat.beq c.length q.size)&&Nat.blt 0 q.size then(bif ti.view&&Kr h d then(ZC es q.size d A1 AA).bind ret else(KP es A1 AA).bind fun r=>some ⟨some r,DE h (B3 d)⟩)else none
  | _,_=>none
 | .fieldAddr s x f=>(E.ty s).bind fun ti=>(CA ρ x).bind fun x=>match ti.k with
  | .struct fs=>(fs[f]?).bind fun(I,off)=>(E.ty I).bind fun K=>bif Nat.blt 0 K.size then(J8 x off).bind ret else none
  | _=>none
 | .field s x f=>(E.ty s).bind fun ti=>(CA ρ x).bind fun x=>match ti.k,x with
  | .struct fs,.agg cs=>(fs[f]?).bind fun(I,off)=>(E.ty I).bind fun K=>(Gk K cs off).bind ret
  | _,_=>none
 | .indexAddr t x i=>(E.ty t).bind fun ti=>(CA ρ x).bind fun x=>(CA ρ i).bind fun i=>match ti.k with
  | .array len e=>(E.ty e).bind fun q=>(I7 len i).bind fun i=>(J8 x (i*q.size)).bind ret
  | .slice e=>(E.ty e).bind fun q=>match x with
   | .AR es=>(I7 es.length i).bind fun i=>(es[i]?).bind fun c=>bif Nat.beq c.length q.size&&Nat.blt 0 q.size then ret (.CN c)else none
   | .rs id v=>(h id).bind fun
    | .row _ es _ u=>(I7 es.length i).bind fun i=>bif Nat.beq u v&&Nat.blt 0 q.size then ret (.CO id v i q.size 0)else none
    | _=>none
   | _=>none
  | _=>none
 | .index t x i=>(E.ty t).bind fun ti=>(CA ρ x).bind fun x=>(CA ρ i).bind fun i=>match ti.k,x with
  | .array len e,.agg cs=>(E.ty e).bind fun q=>(I7 len i).bind fun i=>(Gk q cs (i*q.size)).bind ret
  | .string,.str s=>(I7 s.size i).bind fun i=>(s[i]?).bind fun b=>ret (.int .u8 b.toNat)
  | _,_=>none
 | .lookup t m k ok=>(E.ty t).bind fun ti=>(CA ρ m).bind fun m=>(CA ρ k).bind fun k=>match ti.k with
  | .map O e=>(E.ty e).bind fun q=>(E.ty O).bind fun C=>bif Gn C k&&Nat.beq q.size 1 && !q.isAgg then
    ((match m with | .Cv=>some [] | .map id=>(h id).bind (fun | .map es=>some es|_=>none)|_=>none):Option (List (AB×AB))).bind fun es =>
    (M1 k es).bind fun r=>match r,q.zero with
     | some v,_=>ret (bif ok then .Ap [v,.bool true]else v)
     | none,z::_=>ret (bif ok then .Ap [z,.bool false]else z)
     | _,_=>none
   else none
  | _=>none
 | .mapUpdate t m k v=>(E.ty t).bind fun ti=>(CA ρ m).bind fun m=>(CA ρ k).bind fun k=>(CA ρ v).bind fun v=>match ti.k,m with
  | .map O _,.map id=>(E.ty O).bind fun C=>(h id).bind fun
   | .map es=>bif Gn C k&&Ct v&&BW v then(Nh k v es).bind fun es=>some ⟨some (.Ap []),[(id,some (.map es))]⟩else none
   | _=>none
  | _,_=>none
 | .makeInterface t x=>(E.ty t).bind fun ti=>(CA ρ x).bind fun v=>match ti.k with
  | .iface=>none
  | _=>ret (.iface t v)
 | .typeAssert x _ t ok=>(E.ty t).bind fun ti=>(CA ρ x).bind fun x=>match ti.k,x with
  | .iface,_=>none
  | _,.Bl=>bif ok then(Ht ti).bind fun z=>ret (.Ap [z,.bool false])else none
  | _,.iface t' v=>bif Nat.beq t' t then ret (bif ok then .Ap [v,.bool true]else v)else bif ok then(Ht ti).bind fun z=>ret (.Ap [z,.bool false])else none
  | _,_=>none
 | .makeSlice t l c=>(E.ty t).bind fun ti=>(CA ρ l).bind fun l=>(CA ρ c).bind fun c=>match ti.k,l,c with
  | .slice e,.int _ n,.int _ Q=>(E.ty e).bind fun q=>bif n==Q&&decide (0<=n)&&Nat.ble (n.toNat*(q.bytes+1)) 200000000000000&&Nat.blt 0 q.size&&B4 q.zero then
    some ⟨some (.rs nid 0),[(nid,some (.row e (List.replicate n.toNat q.zero) 0 0))]⟩else none
  | _,_,_=>none
 | .range t x=>(E.ty t).bind fun ti=>(CA ρ x).bind fun x=>match ti.k,x with
  | .string,.str s=>some ⟨some (.iter nid),[(nid,some (.Ez s 0))]⟩
  | .map _ _,.map id=>(h id).bind fun
   | .map es=>some ⟨some (.iter nid),[(nid,some (.Dg id es.length []))]⟩
   | _=>none
  | _,_=>none
 | .next it true=>(CA ρ it).bind fun
  | .iter id=>(h id).bind fun
   | .Ez s pos=>bif decide (pos<s.size)then
     some ⟨some (.Ap [.bool true,.int .i64 (pos:Nat),.int .i32 (Utf8.decode s pos).1]),[(id,some (.Ez s (pos+(Utf8.decode s pos).2)))]⟩
    else ret (.Ap [.bool false])
   | _=>none
  | _=>none
 | .extract t i=>(CA ρ t).bind fun
  | .Ap vs=>(vs[i]?).bind ret
  | _=>none
 | .call c=>match c.callee with
  | .builtin .len=>(match c.args.toList,c.argTypes.toList with
   | [x],t::_=>(E.ty t).bind fun ti=>(CA ρ x).bind fun x=>(IS ti.k h x).bind ret
   | _,_=>none)
  | .builtin .append=>(match c.args.toList,c.argTypes.toList with
   | [s,x],[t,t']=>(CA ρ s).bind fun s=>(CA ρ x).bind fun x=>L8 E nid h t t' s x
   | _,_=>none)
  | .builtin .unsafeSliceData=>(match c.args.toList with
   | [x]=>(CA ρ x).bind fun
    | .Aq=>ret .Bu
    | .rs id v=>(h id).bind fun
     | .row _ (c::_) _ u=>bif Nat.beq u v then ret (.CO id v 0 c.length 0)else none
     | _=>none
    | _=>none
   | _=>none)
  | .builtin .unsafeString=>(match c.args.toList,c.argTypes.toList with
   | [x,n],[t,_]=>(CA ρ x).bind fun x=>(CA ρ n).bind fun n=>(E.ty t).bind fun ti=>match x,n,ti.k with
    | .Bu,.int .i64 0,.ptr _=>ret (.str .empty)
    | .CO id v 0 1 0,.int .i64 n,.ptr e=>(h id).bind fun
     | .row e' es _ u=>bif Nat.beq u v&&Nat.beq e e'&&n==(es.length:Nat)&&Nat.blt 0 es.length&&Nat.ble es.length 200000000000000 then(YI es).bind fun l=>some ⟨some (.str ⟨l.toArray⟩),[(id,none)]⟩else none
     | _=>none
    | _,_,_=>none
   | _,_=>none)
  | .builtin .min=>(Gt ρ c.args.toList).bind fun vs=>(match vs with|x::xs=>(M9 Ux x xs).bind ret|[]=>none)
  | .builtin .max=>(Gt ρ c.args.toList).bind fun vs=>(match vs with|x::xs=>(M9 Uw x xs).bind ret|[]=>none)
  | _=>none
 | _=>none
def Rc (m:String):List (String×Nat)->Option Nat
 | []=>none
 | (n,g)::l=>bif n==m then some g else Rc m l
def target (E:Env) (ρ:Nat->Option AB) (c:Call):Option (AB×List AB) :=
 match c.callee with
 | .value f=>(CA ρ f).bind fun
  | .fn (.func g) first d=>(Gt ρ c.args.toList).bind fun as=>some (.fn (.func g) [] [],first++as++d)
  | .B2 id=>(Gt ρ c.args.toList).bind fun as=>some (.B2 id,as)
  | _=>none
 | .invoke r m=>(CA ρ r).bind fun
  | .iface t v=>(E.ty t).bind fun ti=>(Rc m ti.Zj).bind fun g=>(Gt ρ c.args.toList).bind fun as=>some (.fn (.func g) [] [],v::as)
  | _=>none
 | _=>none
def VI:AB->Bool
 | .CV _ _ _ _ _=>true
 | _=>false
mutual
def Ei:AB->Option AB
 | .bool b=>some (.bool b)
 | .int k n=>some (.int k n)
 | .str s=>some (.str s)
 | .AR es=>some (.EG es.length)
 | .Ap vs=>(Nc vs).bind fun vs=>some (.Ap vs)
 | _=>none
def Nc:List AB->Option (List AB)
 | []=>some []
 | d::ds=>(Ei d).bind fun d=>(Nc ds).bind fun ds=>some (d::ds)
end
def LA (E:Env) (h:Nat->Option A8):AB->Option AB
 | .CV id v i n e=>(h id).bind fun
  | .row t es _ u=>bif Nat.beq u v&&Nat.beq (match E.ty t with|some ti=>ti.size|none=>0) e then some (.AR ((es.drop i).take n))else none
  | _=>none
 | d=>BP h d
def Ji (E:Env) (h:Nat->Option A8):List AB->Option (List AB)
 | []=>some []
 | d::ds=>(LA E h d).bind fun c=>(Ji E h ds).bind fun cs=>some (c::cs)
def Ng (E:Env) (call:Nat->List AB->Option AB) (ρ:Nat->Option AB) (h:Nat->Option A8) (c:Call):Option Out :=
 (target E ρ c).bind fun
 | (.fn (.func g) _ _,as)=>(Ji E h as).bind fun fs=>(call g fs).bind fun r=>bif as.any VI then(Ei r).bind ret else some ⟨some r,DE h (Bm as)⟩
 | _=>none
def Ks (op:Op):Option Call:=match op with
 | .call c=>(match c.callee with | .value _=>some c | .invoke _ _=>some c|_=>none)
 | _=>none
def M8 (E:Env) (call:Nat->List AB->Option AB) (nid:Nat) (ρ:Nat->Option AB) (h:Nat->Option A8) (op:Op):Option Out :=
 match Ks op with
 | some c=>Ng E call ρ h c
 | none=>BX E nid ρ h op
def P8 (E:Env):AB×List AB->Bool
 | (.fn (.func g) _ _,_)=>match E.fn g with
  | some F=>F.Aec
  | none=>false
 | _=>false
def Jk (E:Env) (call:Nat->List AB->Option AB) (nid:Nat) (ρ:Nat->Option AB) (h:Nat->Option A8) (op:Op):Option (Option Out) :=
 match Ks op with
 | none=>(BX E nid ρ h op).bind fun r=>some (some r)
 | some c=>(target E ρ c).bind fun d=>bif P8 E d then(Ng E call ρ h c).bind fun r=>some (some r)else some none
structure BV where
 base:Tr AB
 AM:Tr A8
 next:Nat
abbrev Loc:=List (Nat×Option AB)
def Loc.find (l:Loc) (t:Nat):Option (Option AB):=match l with
 | []=>none
 | (s,v)::l=>bif Nat.beq s t then some v else Loc.find l t
def EN (V:Nat) (base:Tr AB) (loc:Loc) (t:Nat):Option AB :=
 bif Nat.testBit V t then base.get t else(match loc.find t with|some v=>v|none=>none)
def E9 (o:Tr A8):List (Nat×Option A8)->Tr A8
 | []=>o
 | (i,x)::d=>E9 (o.set i x) d
def KF (ops:Array Oper) (ρ:Nat->Option AB) (o:Oper):Option Bool :=
 match o.guard with
 | none=>some true
 | some (j,d)=>match(ops[j]?).bind (·.dst)with
  | some t=>(match ρ t with|some (.bool b)=>some (b==d)|some _=>some false|none=>none)
  | none=>none
abbrev D5:=Nat->List AB->Tr A8->Nat->Option (AB×Tr A8×Nat)
structure Dr where
 base:Tr AB
 loc:Loc
 AM:Tr A8
 next:Nat
def Dr.put (V AU:Nat) (m:Dr) (dst:Option Tmp) (v:Option AB):Dr :=
 match dst with
 | none=>m
 | some d=>bif !Nat.blt d AU then m else bif Nat.testBit V d then { m with base:=m.base.set d v }else { m with loc:=(d,v)::m.loc }
structure Dd where
 dst:Option Tmp
 Bf:Nat
 GF:List Nat
 out:Out
 new:Option (Nat×Nat)
mutual
def Bw:AB->List Nat
 | .ptr i _ | .CO i _ _ _ _ | .rs i _ | .CV i _ _ _ _ | .map i | .iter i | .B2 i=>[i]
 | .agg cs=>DQ cs
 | .Ap cs=>DQ cs
 | .fn _ a b=>DQ a++DQ b
 | .iface _ v=>Bw v
 | _=>[]
def DQ:List AB->List Nat
 | []=>[]
 | c::cs=>Bw c++DQ cs
end
def SB:Op->Bool
 | .move _=>true
 | _=>false
def GF (ρ:Nat->Option AB) (op:Op):List Nat:=bif SB op then []else op.operands.toList.flatMap fun x=>match CA ρ x with|some d=>Bw d|none=>[]
def seen (Bf:Nat) (ρ:Nat->Option AB):List (Nat×Dd)->Nat->Option AB
 | [],t=>ρ t
 | (j,d)::ds,t=>bif(match d.dst with|some s=>Nat.beq s t|none=>false)then(bif Nat.testBit Bf j then d.out.val else none)else seen Bf ρ ds t
def DB (id:Nat):List (Nat×Option A8)->Option (Option A8)
 | []=>none
 | (i,x)::d=>match DB id d with
  | some y=>some y
  | none=>bif Nat.beq i id then some x else none
def Lm (Bf:Nat) (h:Nat->Option A8):List (Nat×Dd)->Nat->Option A8
 | [],id=>h id
 | (j,d)::ds,id=>match DB id d.out.Ba with
  | some x=>bif Nat.testBit Bf j then x else none
  | none=>Lm Bf h ds id
def HY (ops:Array Oper) (ds:List (Nat×Dd)) (o:Oper) (k:Nat):Nat :=
 o.after.toList.foldl (fun m e=>bif Region.binds .any e&&Nat.blt e.on k then m ||| (1 <<< e.on) ||| ((ds.find? (fun d=>Nat.beq d.1 e.on)).map (·.2.Bf)).getD 0 else m) 0
def HL (V AU:Nat):List (Nat×Dd)->Dr->Dr
 | [],m=>m
 | (_,d)::ds,m=>let m:=HL V AU ds m;{ m with AM:=E9 m.AM d.out.Ba }.put V AU d.dst d.out.val
mutual
def DJ:AB->List Nat
 | .ptr i _ | .CO i _ _ _ _ | .rs i _ | .CV i _ _ _ _ | .map i | .iter i | .B2 i=>[i]
 | .agg cs=>EP cs
 | .Ap cs=>EP cs
 | .fn _ a b=>EP a++EP b
 | _=>[]
def EP:List AB->List Nat
 | []=>[]
 | c::cs=>DJ c++EP cs
end
def Tr.Hi {α:Type}:Tr α->(a b:Nat)->List (Nat×α)
 | .leaf,_,_=>[]
 | .node l v r,a,b=>Tr.Hi l (2*a) (a+b)++((match v with|some x=>[(b,x)]|none=>[])++Tr.Hi r (2*a) (2*a+b))
def oJ:A8->List Nat
 | .cells _ cs=>EP cs
 | .loop _ b _ _ _ _ _=>(b.Hi 1 0).flatMap fun p=>DJ p.2
 | .Dg m _ _=>[m]
 | _=>[]
def reach (h:Nat->Option A8):Nat->List Nat->List Nat->List Nat
 | 0,_,d=>d
 | _+1,[],d=>d
 | n+1,i::e,d=>bif d.any (Nat.beq i)then reach h n e d else match h i with
  | some o=>reach h n (oJ o++e) (i::d)
  | none=>reach h n e d
def Hv (h:Nat->Option A8):List Nat->Tr A8
 | []=>.leaf
 | i::is=>(Hv h is).set i (h i)
def Nf (o:Tr A8) (R:List Nat) (nx:Nat):List (Nat×Option A8):=(R++((o.Hi 1 0).map (·.1)).filter (Nat.ble nx)).map fun i=>(i,o.get i)
def Ld (run:Tr A8->Option (AB×Tr A8×Nat)) (h:Nat->Option A8) (nx:Nat) (is R:List Nat):Option (Out×List Nat×Nat) :=
 (run (Hv h R)).bind fun x=>bif Nat.ble nx x.2.2 then some (⟨some x.1,Nf x.2.1 R nx⟩,is++R,x.2.2)else none
def Ia (h:Nat->Option A8):AB->AB
 | .rs id v=>(match h id with
  | some (.row _ es p u)=>bif Nat.beq p 1&&Nat.beq u v then .AR es else .rs id v
  | _=>.rs id v)
 | d=>d
def G5 (h:Nat->Option A8):AB->AB
 | .agg cs=>.agg (cs.map (Ia h))
 | d=>Ia h d
def I1 (callH callY:D5) (h:Nat->Option A8) (nx:Nat):AB×List AB->Option (Out×List Nat×Nat)
 | (.fn (.func g) _ _,as)=>Ld (fun o=>callH g (as.map (G5 h)) o nx) h nx (Bm as) (reach h 4096 (EP (as.map (G5 h))) [])
 | (.B2 id,as)=>Ld (fun o=>callY id (as.map (G5 h)) o nx) h nx (Bm as) (reach h 4096 (id::EP (as.map (G5 h))) [])
 | _=>none
mutual
def Bk (f:Nat->Nat):AB->AB
 | .ptr i o=>.ptr (f i) o
 | .CO i v j e o=>.CO (f i) v j e o
 | .rs i v=>.rs (f i) v
 | .CV i v k n e=>.CV (f i) v k n e
 | .agg cs=>.agg (Ec f cs)
 | .Ap cs=>.Ap (Ec f cs)
 | .fn g a c=>.fn g (Ec f a) (Ec f c)
 | .map i=>.map (f i)
 | .iface t v=>.iface t (Bk f v)
 | .iter i=>.iter (f i)
 | .B2 i=>.B2 (f i)
 | .bool b=>.bool b
 | .int k n=>.int k n
 | .str s=>.str s
 | .Bu=>.Bu
 | .CN cs=>.CN cs
 | .Aq=>.Aq
 | .AR es=>.AR es
 | .EG n=>.EG n
 | .A2=>.A2
 | .Cv=>.Cv
 | .Bl=>.Bl
def Ec (f:Nat->Nat):List AB->List AB
 | []=>[]
 | c::cs=>Bk f c::Ec f cs
end
mutual
def EF (p:Nat->Bool):AB->Bool
 | .ptr i _ | .CO i _ _ _ _ | .rs i _ | .CV i _ _ _ _ | .map i | .iter i | .B2 i=>p i
 | .agg cs=>E8 p cs
 | .Ap cs=>E8 p cs
 | .fn _ a b=>E8 p a&&E8 p b
 | .iface _ v=>EF p v
 | _=>true
def E8 (p:Nat->Bool):List AB->Bool
 | []=>true
 | c::cs=>EF p c&&E8 p cs
end
def Tr.KS {α:Type} (p:α->Bool):Tr α->Bool
 | .leaf=>true
 | .node l v r=>l.KS p&&((match v with|some x=>p x|none=>true)&&r.KS p)
def Im (f:Nat->Nat):A8->A8
 | .cells t cs=>.cells t (Ec f cs)
 | .loop Bj b AP as d Af ex=>.loop Bj (b.BL (Bk f)) AP as d Af ex
 | .row t es p u=>.row t es p u
 | .map es=>.map es
 | .Ez s pos=>.Ez s pos
 | .Dg m n LJ=>.Dg (f m) n LJ
 | .Ea t es u=>.Ea t es u
def okO (p:Nat->Bool):A8->Bool
 | .cells _ cs=>E8 p cs
 | .loop _ b _ _ _ _ _=>b.KS (EF p)
 | .Dg m _ _=>p m
 | _=>true
def OG (p:Nat->Bool) (h:Nat->Option A8):List Nat->Bool
 | []=>true
 | i::is=>(match h i with|some o=>okO p o|none=>true)&&OG p h is
def Fc (i:Nat):List Nat->Bool
 | []=>false
 | j::d=>bif Nat.beq i j then true else Fc i d
def Nv:List Nat->Bool
 | []=>true
 | i::is => !Fc i is&&Nv is
def FN (i:Nat):List Nat->Nat
 | []=>0
 | j::d=>bif Nat.beq i j then 0 else FN i d+1
def Ib (d:Nat):Nat->List Nat->Nat
 | _,[]=>d
 | 0,j::_=>j
 | n+1,_::e=>Ib d n e
def FO:List Nat->Nat
 | []=>0
 | _::l=>FO l+1
def Mu (k:Nat):List Nat->List Nat
 | []=>[]
 | i::is=>bif Nat.ble k i then i::Mu k is else Mu k is
def FA:Nat->Nat->List Nat
 | _,0=>[]
 | i,n+1=>i::FA (i+1) n
def Fv (f:Nat->Nat) (h:Nat->Option A8):List Nat->Tr A8
 | []=>.leaf
 | i::is=>(Fv f h is).set (f i) ((h i).map (Im f))
def JD (f:Nat->Nat) (h:Nat->Option A8):List Nat->List (Nat×Option A8)
 | []=>[]
 | i::is=>(f i,(h i).map (Im f))::JD f h is
def Hu (k:Nat) (R:List Nat) (j:Nat):Nat:=bif Nat.blt j k then j else k+FN j R
def Hw (k:Nat) (x:AB×Tr A8×Nat):Option (AB×Tr A8×Nat) :=
 let R:=Mu k (reach x.2.1.get 4096 (DJ x.1++FA 0 k) [])
 let ok:=fun j=>Nat.blt j k||Fc j R
 bif Nv R&&(EF ok x.1&&OG ok x.2.1.get (FA 0 k++R))then some (Bk (Hu k R) x.1,Fv (Hu k R) x.2.1.get (FA 0 k++R),k+FO R)else none
def Hd (R:List Nat) (i:Nat):Nat:=FN i R
def DT (k nx:Nat) (R:List Nat) (j:Nat):Nat:=bif Nat.blt j k then Ib 0 j R else nx+(j-k)
def Kq (E:Env) (callH:D5):D5:=fun g as o nx=>(E.fn g).bind fun F=>bif F.can then
  let fs:=as.map fun d=>(BP o.get d).getD d
  let BN:=E9 o (DE o.get (Bm as))
  let R:=reach BN.get 4096 (EP fs) []
  let k:=FO R
  bif Nv R&&(E8 (fun i=>Fc i R) fs&&OG (fun i=>Fc i R) BN.get R)then
   (callH g (Ec (Hd R) fs) (Fv (Hd R) BN.get R) k).bind fun x=>(Hw k x).bind fun y =>
    some (Bk (DT k nx R) y.1,E9 BN (JD (DT k nx R) y.2.1.get (FA 0 y.2.2)),nx+(y.2.2-k))
  else none
 else callH g as o nx
def R6 (E:Env) (df:Bool) (ρ:Nat->Option AB):Op->Bool
 | .defer c=>df&&c.args.isEmpty&&(match c.callee with
  | .value f=>(match CA ρ f with
   | some (.fn (.func g) [] _)=>E.OB g
   | _=>false)
  | _=>false)
 | _=>false
def IM (E:Env) (df:Bool) (call:Nat->List AB->Option AB) (callH callY:D5) (V AU:Nat) (ops:Array Oper) (b:Nat):Nat->List Oper->Dr->Option Dr
 | _,[],m=>some m
 | k,o::os,m =>
  (KF ops (EN V m.base m.loc) o).bind fun d=>bif d then
   bif R6 E df (EN V m.base m.loc) o.op then IM E df call callH callY V AU ops b (k+1) os (m.put V AU o.dst (some (.Ap [])))else
   (Jk E call (b+k) (EN V m.base m.loc) m.AM.get o.op).bind fun
   | some r=>IM E df call callH callY V AU ops b (k+1) os ({ m with AM:=E9 m.AM r.Ba }.put V AU o.dst r.val)
   | none=>(Ks o.op).bind fun BU=>(target E (EN V m.base m.loc) BU).bind fun e=>(I1 callH callY m.AM.get m.next e).bind fun x =>
     IM E df call callH callY V AU ops b (k+1) os ({ m with AM:=E9 m.AM x.1.Ba,next:=x.2.2 }.put V AU o.dst x.1.val)
  else IM E df call callH callY V AU ops b (k+1) os (m.put V AU o.dst (some (.Ap [])))
def Hs (E:Env) (call:Nat->List AB->Option AB) (callH callY:D5) (V AU:Nat) (ops:Array Oper) (b:Nat):Nat->List Oper->Dr->List (Nat×Dd)->Option Dr
 | _,[],m,ds=>some (HL V AU ds m)
 | k,o::os,m,ds =>
  let Bf:=HY ops ds o k
  let ρ:=seen Bf (EN V m.base m.loc) ds
  let h:=Lm Bf m.AM.get ds
  bif o.after.all (fun e => !Region.binds .any e||Nat.blt e.on k)&&(match o.dst with|none=>true|some t=>Nat.blt t AU)&&ds.all (fun d=>Nat.testBit Bf d.1||(match o.dst with
    | none=>true
    | some t => !((ops.getD d.1 o).looksAt ops).contains t && !(match d.2.dst with|some s=>Nat.beq s t|none=>false)))then
   (KF ops ρ o).bind fun i=>bif i then
    (Jk E call (b+k) ρ h o.op).bind fun
    | some r=>bif r.Ba.all (fun u=>ds.all (fun d=>Nat.testBit Bf d.1 || !d.2.GF.contains u.1&&(DB u.1 d.2.out.Ba).isNone))then
      Hs E call callH callY V AU ops b (k+1) os m ((k,⟨o.dst,Bf,GF ρ o.op,r,none⟩)::ds)
     else none
    | none=>(Ks o.op).bind fun BU=>(target E ρ BU).bind fun j=>(I1 callH callY h m.next j).bind fun x =>
      bif ds.all (fun d=>Nat.testBit Bf d.1||d.2.new.isNone&&x.1.Ba.all (fun u => !d.2.GF.contains u.1&&(DB u.1 d.2.out.Ba).isNone))then
       Hs E call callH callY V AU ops b (k+1) os { m with next:=x.2.2 } ((k,⟨o.dst,Bf,x.2.1,x.1,some (m.next,x.2.2)⟩)::ds)
      else none
   else Hs E call callH callY V AU ops b (k+1) os m ((k,⟨o.dst,Bf,[],⟨some (.Ap []),[]⟩,none⟩)::ds)
  else none
def N6 (E:Env) (df:Bool) (call:Nat->List AB->Option AB) (callH callY:D5) (V AU:Nat) (ops:Array Oper) (d:Bool) (s:BV):Option BV :=
  (bif d then Hs E call callH callY V AU ops s.next 0 ops.toList ⟨s.base,[],s.AM,s.next+ops.size⟩ []
   else IM E df call callH callY V AU ops s.next 0 ops.toList ⟨s.base,[],s.AM,s.next+ops.size⟩).bind fun m=>some ⟨m.base,m.AM,m.next⟩
def PM (o:Tr A8) (d:Tr AB):Acc->Option (Nat×Nat)
 | .slot t _=>(match d.get t with
  | some (.rs id v)=>some (id,v)
  | _=>none)
 | .cell t off _=>(match d.get t with
  | some (.ptr q 0)=>(match o.get q with
   | some (.cells _ cs)=>(match cs[off]? with
    | some (.rs id v)=>some (id,v)
    | _=>none)
   | _=>none)
  | _=>none)
def Lh (id v:Nat):Nat->List (Option (Nat×Nat))->Option Nat
 | _,[]=>none
 | j,some (i,u)::l=>bif Nat.beq i id&&Nat.beq u v then some j else Lh id v (j+1) l
 | j,none::l=>Lh id v (j+1) l
def I9 (id:Nat):List (Option (Nat×Nat))->Bool
 | []=>false
 | some (i,_)::l=>Nat.beq i id||I9 id l
 | none::l=>I9 id l
mutual
def Di (n0:Nat) (L:List (Option (Nat×Nat))):AB->Option AB
 | .rs id v=>match Lh id v 0 L with
  | some j=>some (.rs (n0+j) 0)
  | none=>bif Nat.blt id n0 && !I9 id L then some (.rs id v)else none
 | .agg cs=>(Fu n0 L cs).bind fun cs=>some (.agg cs)
 | .Ap cs=>(Fu n0 L cs).bind fun cs=>some (.Ap cs)
 | d=>bif DC n0 d then some d else none
def Fu (n0:Nat) (L:List (Option (Nat×Nat))):List AB->Option (List AB)
 | []=>some []
 | c::cs=>(Di n0 L c).bind fun c=>(Fu n0 L cs).bind fun cs=>some (c::cs)
end
def KO (n0:Nat) (L:List (Option (Nat×Nat))):A8->Option A8
 | .cells t cs=>(Fu n0 L cs).bind fun cs=>some (.cells t cs)
 | .loop Bj b AP as e Af ex=>(b.CP (fun _ d=>(Di n0 L d).bind fun d=>some (some d)) 1 0).bind fun b=>some (.loop Bj b AP as e Af ex)
 | .Dg m n LJ=>bif Nat.blt m n0 then some (.Dg m n LJ)else none
 | o=>some o
def OA:List (Option (Nat×Nat))->Bool
 | []=>true
 | none::l=>OA l
 | some (i,_)::l=>l.all (fun|some (k,_) => !Nat.beq k i|none=>true)&&OA l
def L7 (o:Tr A8) (n0:Nat):Nat->List (Option (Nat×Nat))->Tr A8->Option (Tr A8)
 | _,[],no=>some no
 | j,none::l,no=>L7 o n0 (j+1) l no
 | j,some (id,v)::l,no=>(match o.get id with
  | some (.row e es p u)=>bif Nat.beq u v then L7 o n0 (j+1) l (no.set (n0+j) (some (.row e es p 0)))else none
  | _=>none)
def GZ (E:Env) (n0:Nat):Nat->List Acc->Tr AB×Tr A8->Option (Tr AB×Tr A8)
 | _,[],r=>some r
 | j,.slot t e::as,(b,no)=>(match b.get t with
  | some .Aq=>(E.ty e).bind fun d=>bif Nat.blt 0 d.size&&(no.get (n0+j)).isNone then GZ E n0 (j+1) as (b.set t (some (.rs (n0+j) 0)),no.set (n0+j) (some (.row e [] 0 0)))else none
  | _=>GZ E n0 (j+1) as (b,no))
 | j,.cell t off e::as,(b,no)=>(match b.get t with
  | some (.ptr q 0)=>(match no.get q with
   | some (.cells i cs)=>(match cs[off]? with
    | some .Aq=>(E.ty e).bind fun d=>bif Nat.blt 0 d.size&&(no.get (n0+j)).isNone then GZ E n0 (j+1) as (b,(no.set q (some (.cells i (cs.set off (.rs (n0+j) 0))))).set (n0+j) (some (.row e [] 0 0)))else none
    | _=>GZ E n0 (j+1) as (b,no))
   | _=>GZ E n0 (j+1) as (b,no))
  | _=>GZ E n0 (j+1) as (b,no))
mutual
def FE:AB->List (Nat×Nat)
 | .rs id v=>[(id,v)]
 | .agg cs=>Gl cs
 | .Ap cs=>Gl cs
 | .fn _ a b=>Gl a++Gl b
 | .iface _ v=>FE v
 | _=>[]
def Gl:List AB->List (Nat×Nat)
 | []=>[]
 | c::cs=>FE c++Gl cs
end
def nU:A8->List (Nat×Nat)
 | .cells _ cs=>Gl cs
 | .loop _ b _ _ _ _ _=>(b.Hi 1 0).flatMap fun p=>FE p.2
 | _=>[]
def mX (o:Nat->Option A8) (p:Nat×Nat):Bool:=match o p.1 with
 | some (.row _ _ _ u)=>Nat.beq u p.2
 | _=>false
def YV (ok:Nat×Nat->Bool) (A:List (Option (Nat×Nat))):List (Nat×Nat)->List (Nat×Nat)->List (Nat×Nat)
 | [],d=>d
 | p::AP,d=>bif ok p && !I9 p.1 A && !I9 p.1 (d.map some)then YV ok A AP (d++[p])else YV ok A AP d
def Yl (o:Tr A8) (b:Tr AB) (n0 Cs:Nat) (A:List (Option (Nat×Nat))):List (Nat×Nat) :=
 YV (mX o.get) A (((o.Hi 1 0).flatMap fun p=>bif Nat.blt p.1 n0 then nU p.2 else [])++((b.Hi 1 0).flatMap fun p=>bif Nat.testBit Cs p.1 then FE p.2 else [])) []
def LC (l:List Acc):Bool:=l.any fun | .slot t _=>Nat.beq t 9999|_=>false
def oH (l:List Acc) (n0:Nat) (X:List (Nat×Nat)):List (Nat×Nat):=bif LC l then X.filter fun p=>Nat.ble n0 p.1 else X
def Uy (E:Env) (e:GR) (n0:Nat) (s:BV):Option BV :=
 let A:=e.Ff.map (PM s.AM s.base)
 let X:=oH e.Ff n0 (Yl s.AM s.base n0 e.Cs A)
 let L:=X.map some++A
 bif OA L then
  (s.base.CP (fun t d=>bif Nat.testBit e.Cs t then(Di n0 L d).bind fun d=>some (some d)else some none) 1 0).bind fun b =>
  (s.AM.CP (fun i x=>bif Nat.blt i n0 && !I9 i L then(KO n0 L x).bind fun x=>some (some x)else some none) 1 0).bind fun o =>
  (L7 s.AM n0 0 L o).bind fun o=>(GZ E n0 X.length (e.Ff) (b,o)).bind fun r=>some ⟨r.1,r.2,n0+X.length+e.Ff.length⟩
 else none
def Lt (E:Env) (d:GR) (n0:Nat) (s:BV):Option BV :=
 (Uy E d n0 s).bind fun s=>some (bif d.raw then s else { s with AM:=s.AM.BL Kx })
def BV.Cs (m:Nat) (s:BV):BV:={ s with base:=s.base.Ly m 1 0 }
def BV.GK (F:Ag) (id:Nat) (s:BV):BV:=match F.K0.find? fun p=>Nat.beq p.1 id with
 | some p=>s.Cs p.2
 | none=>s
def iter (nrm:BV->Option BV) (step:BV->Option (Ce×BV)):Nat->BV->Option (Ce×BV)
 | 0,_=>none
 | n+1,s=>(nrm s).bind fun s=>(step s).bind fun r=>match r.1 with
  | .normal=>iter nrm step n r.2
  | _=>some r
def U9 (Cb:Option Nat) (h:Nat->Option A8):Bool:=match Cb with
 | none=>true
 | some l=>(match h l with|some (.loop ..)=>true|_=>false)
def ZO (s:BV) (t id:Nat):BV:=match s.AM.get id with
 | some (.cells _ cs)=>bif B4 cs then { s with base:=s.base.set t (some (.CN cs)),AM:=s.AM.set id none }else s
 | _=>s
def Mx (s:BV) (t:Nat):BV:=match s.base.get t with
 | some (.ptr id o)=>bif Nat.beq o 0 then ZO s t id else s
 | _=>s
def Jr (DJ:Nat):List (Nat×Nat)->BV->BV
 | [],s=>s
 | (r,t)::AP,s=>Jr DJ AP (bif Nat.beq r DJ then Mx s t else s)
def PB (o:Oper):Option (Nat×Nat):=match o.guard,o.dst,o.op with
 | none,some d,.next (.tmp i) false=>some (d,i)
 | _,_,_=>none
def KM (o:Oper):Option (Nat×Nat):=match o.guard,o.dst,o.op with
 | none,some d,.extract (.tmp x) 0=>some (d,x)
 | _,_,_=>none
def PK (o:Oper):Option (Nat×Nat):=match o.guard,o.dst,o.op with
 | none,some d,.entry (.tmp i)=>some (d,i)
 | _,_,_=>none
def Jj (o:Oper):Option (Nat×Nat):=match o.guard,o.dst,o.op with
 | none,some d,.move (.tmp x)=>some (d,x)
 | none,some d,.assign (.tmp x)=>some (d,x)
 | _,_,_=>none
def ZQ (o:Oper):Option (Nat×TypeId×Nat):=match o.guard,o.dst,o.op with
 | none,some d,.buildSlice t 1 AP=>(match AP.toList with
  | [(0,.tmp x)]=>some (d,t,x)
  | _=>none)
 | _,_,_=>none
def Yc (o:Oper):Option (Nat×TypeId×Nat×Nat):=match o.guard,o.dst,o.op with
 | none,some d,.call c=>(match c.callee,c.args.toList,c.argTypes.toList with
  | .builtin .append,[.tmp s,.tmp x],[t,t']=>bif Nat.beq t t' then some (d,t,s,x)else none
  | _,_,_=>none)
 | _,_,_=>none
def Rf:List Nat->Bool
 | []=>true
 | i::is => !(is.any (Nat.beq i))&&Rf is
def nT (AU it l:Nat):List Oper->List Oper->List Oper->Nat->Option (List Nat×TypeId)
 | [BN,Bs],[DL,Fh,Fi],[GL,JR,Hk,Gw,q],u=>(PB BN).bind fun a=>(KM Bs).bind fun b=>(PK DL).bind fun c=>(KM Fh).bind fun d=>(Jj Fi).bind fun e =>
   (Jj GL).bind fun f=>(Jj JR).bind fun g=>(ZQ Hk).bind fun h=>(Yc Gw).bind fun i=>(Jj q).bind fun j =>
   let ds:=[it,l,a.1,b.1,c.1,d.1,e.1,f.1,g.1,h.1,i.1]
   bif Nat.beq a.2 it&&Nat.beq b.2 a.1&&Nat.beq u b.1&&Nat.beq c.2 it&&Nat.beq d.2 c.1&&Nat.beq e.2 d.1&&Nat.beq f.2 l&&Nat.beq g.2 e.1&&Nat.beq h.2.2 g.1&&Nat.beq i.2.1 h.2.1&&Nat.beq i.2.2.1 f.1&&Nat.beq i.2.2.2 h.1&&Nat.beq j.1 l&&Nat.beq j.2 i.1&&Rf ds&&ds.all (fun s=>Nat.blt s AU)then some ([a.1,b.1,c.1,d.1,e.1,f.1,g.1,h.1,i.1],h.2.1)else none
 | _,_,_,_=>none
def mK (AU it l:Nat):Code->Option (Nat×List Nat×TypeId)
 | .seq (.region _ j false) (.seq (.cond (.tmp i) .skip (.exit x)) (.block _ (.seq (.region _ d false) (.region _ e false))))=>(nT AU it l j.toList d.toList e.toList i).bind fun p=>some (x,p)
 | _=>none
def Mb:List (AB×AB)->Option (List Int)
 | []=>some []
 | (.int .i64 n,_)::es=>(Mb es).bind fun l=>some (n::l)
 | _=>none
def Ig:List Nat->Tr AB->Tr AB
 | [],b=>b
 | t::ts,b=>Ig ts (b.set t none)
def Re (E:Env) (F:Ag) (Af:Nat) (p:Nat×Nat×TypeId×Nat) (c:Code) (s:BV):Option (Ce×BV):=match s.base.get p.1,s.base.get p.2.1 with
 | some (.iter k),some .Aq=>(match s.AM.get k with
  | some (.Dg m n [])=>(match s.AM.get m with
   | some (.map es)=>(mK F.AU p.1 p.2.1 c).bind fun q=>(E.ty q.2.2).bind fun ti=>(match ti.k with
    | .slice e=>(E.ty e).bind fun d=>(match d.k with
     | .int .i64=>(Mb es).bind fun l=>bif Nat.beq e p.2.2.1&&Nat.beq q.1 Af&&Nat.beq es.length n&&Nat.ble n 100000&&Nat.beq d.size 1&&Nat.ble d.bytes 1000&&Nat.testBit F.E6 p.2.1 then
       let b:=Ig (p.2.1::q.2.1) s.base
       some (.exit Af,(bif Nat.beq n 0 then(⟨b.set p.2.1 (some .Aq),s.AM.set k none,s.next+2⟩:BV)
        else⟨b.set p.2.1 (some (.rs (s.next+1) 0)),(s.AM.set k none).set (s.next+1) (some (.Ea e (l.map fun z=>[.int .i64 z]) 0)),s.next+2⟩).GK F Af)
      else none
     | _=>none)
    | _=>none)
   | _=>none)
  | _=>none)
 | _,_=>none
def oA (a b:ByteArray):Bool:=a.data.toList==b.data.toList
mutual
def FU:AB->AB->Bool
 | .bool a=>fun | .bool b=>a==b|_=>false
 | .int k a=>fun | .int k' b=>k==k'&&a==b|_=>false
 | .str a=>fun | .str b=>oA a b|_=>false
 | .Bu=>fun | .Bu=>true|_=>false
 | .ptr i o=>fun | .ptr j p=>Nat.beq i j&&Nat.beq o p|_=>false
 | .Aq=>fun | .Aq=>true|_=>false
 | .AR a=>fun | .AR b=>Rq a b|_=>false
 | .rs i v=>fun | .rs j u=>Nat.beq i j&&Nat.beq v u|_=>false
 | .agg a=>fun | .agg b=>JK a b|_=>false
 | .fn (.func f) a c=>fun | .fn (.func g) b d=>Nat.beq f g&&(JK a b&&JK c d)|_=>false
 | .map i=>fun | .map j=>Nat.beq i j|_=>false
 | .iter i=>fun | .iter j=>Nat.beq i j|_=>false
 | .CN a=>fun | .CN b=>JK a b|_=>false
 | .B2 i=>fun | .B2 j=>Nat.beq i j|_=>false
 | .A2=>fun | .A2=>true|_=>false
 | .Cv=>fun | .Cv=>true|_=>false
 | .Bl=>fun | .Bl=>true|_=>false
 | _=>fun _=>false
def JK:List AB->List AB->Bool
 | []=>fun|[]=>true|_=>false
 | x::xs=>fun|y::ys=>FU x y&&JK xs ys|_=>false
def Rq:List (List AB)->List (List AB)->Bool
 | []=>fun|[]=>true|_=>false
 | x::xs=>fun|y::ys=>JK x y&&Rq xs ys|_=>false
end
def VP:A8->A8->Bool
 | .cells t a=>fun | .cells u b=>Nat.beq t u&&JK a b|_=>false
 | .row t a p v=>fun | .row t' b e d=>Nat.beq t t'&&Rq a b&&Nat.beq p e&&Nat.beq v d|_=>false
 | .map a=>fun | .map b=>JK (a.map (·.1)) (b.map (·.1))&&JK (a.map (·.2)) (b.map (·.2))|_=>false
 | _=>fun _=>false
def Tr.Mt {α:Type} (p:α->α->Bool):Tr α->Tr α->Bool
 | .leaf=>fun | .leaf=>true|_=>false
 | .node l v r=>fun
  | .node e d r'=>l.Mt p e&&r.Mt p r'&&(match v,d with|none,none=>true|some x,some y=>p x y|_,_=>false)
  | _=>false
def Ad1:Ce->Ce->Bool
 | .normal=>fun | .normal=>true|_=>false
 | .exit i=>fun | .exit j=>Nat.beq i j|_=>false
 | .ret=>fun | .ret=>true|_=>false
 | _=>fun _=>false
def oT (r q:Ce×BV):Bool:=Ad1 r.1 q.1&&r.2.base.Mt FU q.2.base&&r.2.AM.Mt VP q.2.AM&&Nat.beq r.2.next q.2.next
def ZJ (AU V it:Nat):List Oper->List Oper->Nat->Option (Nat×Nat×Nat×Nat)
 | [BN,Bs],[DL,Fh,Fi],i=>(PB BN).bind fun a=>(KM Bs).bind fun b=>(PK DL).bind fun c=>(KM Fh).bind fun d=>(Jj Fi).bind fun e =>
   let ds:=[it,a.1,b.1,c.1,d.1,e.1]
   bif Nat.beq a.2 it&&Nat.beq b.2 a.1&&Nat.beq i b.1&&Nat.beq c.2 it&&Nat.beq d.2 c.1&&Nat.beq e.2 d.1&&Rf ds&&ds.all (fun s=>Nat.blt s AU)&&Nat.testBit V e.1 then some (a.1,c.1,d.1,e.1)else none
 | _,_,_=>none
def VE (go:Nat->Option (Ce×BV)):List Nat->Option (Ce×BV)
 | []=>none
 | j::d=>(go j).bind fun r=>bif d.all (fun i=>match go i with|some q=>oT r q|none=>false)then some r else none
def ZG (N:Nat) (seen:List Nat):List Nat:=(List.range N).filter fun j => !Fc j seen
def Ns (F:Ag) (Af y it q:Nat) (d:Nat×Nat×Nat×Nat) (nrm:BV->Option BV) (run:BV->Option (Ce×BV)):Nat->BV->Option (Ce×BV)
 | 0,_=>none
 | n+1,s=>(nrm s).bind fun s=>match s.base.get it with
  | some (.iter k)=>(match s.AM.get k with
   | some (.Dg m N seen)=>(match s.AM.get m with
    | some (.map es)=>bif Nat.beq es.length N then(match ZG N seen with
      | []=>some (.exit Af,(⟨(Ig [d.1,q,d.2.1,d.2.2.1,d.2.2.2] s.base).set it none,s.AM.set k none,s.next⟩:BV).GK F Af)
      | l=>VE (fun j=>(es[j]?).bind fun e=>(run ⟨(Ig [d.1,q,d.2.1,d.2.2.1,d.2.2.2] s.base).set d.2.2.2 (some e.1),s.AM.set k (some (.Dg m N (seen++[j]))),s.next⟩).bind fun r=>(match r.1 with
       | .normal=>Ns F Af y it q d nrm run n r.2
       | .exit i=>bif Nat.beq i y then Ns F Af y it q d nrm run n r.2 else none
       | _=>none)) l)
     else none
    | _=>none)
   | _=>none)
  | _=>none
def CY (E:Env) (Cb:Option Nat) (Bj:Nat) (F:Ag) (call:Nat->List AB->Option AB) (callH callY:D5) (e:Nat):Nat->Code->BV->Option (Ce×BV)
 | _,.skip,s=>some (.normal,s)
 | _,.region DJ ops q,s=>(N6 E Cb.isNone call callH callY F.E6 F.AU ops q (Jr DJ F.V0 s)).bind fun s=>some (.normal,s)
 | Af,.seq x y,s=>(CY E Cb Bj F call callH callY e Af x s).bind fun r=>match r.1 with
  | .normal=>CY E Cb Bj F call callH callY e Af y r.2
  | _=>some r
 | Af,.cond c x y,s=>(match CA s.base.get c with
  | some (.bool t)=>bif t then CY E Cb Bj F call callH callY e Af x s else CY E Cb Bj F call callH callY e Af y s
  | _=>none)
 | _,.block id c,s=>(CY E Cb Bj F call callH callY e id c s).bind fun r=>match r.1 with
  | .exit i=>bif Nat.beq i id then some (.normal,r.2)else some r
  | _=>some r
 | Af,.loop c,s=>match(F.Ady.find? fun p=>Nat.beq p.1 Af:Option (Nat×Nat×Nat×TypeId×Nat))with
  | some p=>bif Nat.beq p.2.2.1 F.AU then(match c with
    | .seq (.region _ J false) (.seq (.cond (.tmp u) .skip (.exit x)) (.block y (.seq (.region _ C false) z)))=>(ZJ F.AU F.E6 p.2.1 J.toList C.toList u).bind fun d=>((F.hints.find? fun h=>Nat.beq h.Af Af):Option GR).bind fun j =>
      bif Nat.beq x Af then Ns F Af y p.2.1 u d (Lt E j s.next) (CY E Cb Bj F call callH callY e y z) e s else none
    | _=>none)else Re E F Af p.2 c s
  | none=>((F.hints.find? fun h=>Nat.beq h.Af Af):Option GR).bind fun j =>
   iter (Lt E j s.next) (CY E Cb Bj F call callH callY e Af c) e s
 | _,.exit id,s=>some (.exit id,s.GK F id)
 | Af,.scope c,s=>CY E Cb Bj F call callH callY e Af c s
 | _,.label _,s=>some (.normal,s)
 | _,.ret,s=>some (.ret,s.Cs F.Pr)
 | Af,.rangeFunc f AP assign body,s0=>bif U9 Cb s0.AM.get then Option.bind (match(F.hints.find? fun h=>Nat.beq h.Af Af:Option GR)with
   | some j=>(GZ E s0.next 0 j.Ff (s0.base,s0.AM)).bind fun r=>some (BV.mk r.1 r.2 (s0.next+j.Ff.length))
   | none=>some s0) fun(s:BV)=>(CA s.base.get f).bind fun I=>(match I with
  | .fn (.func g) first l =>
   (callH g (first++[.B2 s.next]++l) (s.AM.set s.next (some (.loop Bj s.base AP.toList assign body Af .normal))) (s.next+1)).bind fun x =>
    (match x.2.1.get s.next with
    | some (.loop _ _ _ _ _ _ ex)=>(match ex with | .busy=>none|_=>some (ex,{ s with AM:=x.2.1.set s.next none,next:=x.2.2 }))
    | _=>none)
  | _=>none)else none
 | _,_,_=>none
def G6 (E:Env) (base:Nat->Option AB) (h:Nat->Option A8):List ResultVar->Option (List AB)
 | []=>some []
 | .tmp t::rs=>(base t).bind fun v=>(G6 E base h rs).bind fun vs=>some (v::vs)
 | .cell a t::rs=>(E.ty t).bind fun ti=>(base a).bind fun a=>(I8 ti h a).bind fun v=>(G6 E base h rs).bind fun vs=>some (v::vs)
def Hz:List AB->AB
 | [v]=>v
 | vs=>.Ap vs
def Kl (V:Nat):Nat->List AB->Tr AB->Tr AB
 | _,[],b=>b
 | k,v::vs,b=>Kl V (k+1) vs (bif Nat.testBit V k then b.set k (some v)else b)
def Kh (V AU:Nat):List Nat->List AB->Tr AB->Option (Tr AB)
 | [],[],b=>some b
 | p::AP,v::vs,b=>bif Nat.blt p AU then Kh V AU AP vs (bif Nat.testBit V p then b.set p (some v)else b)else none
 | _,_,_=>none
def JI (E:Env) (call:Nat->List AB->Option AB) (callH callY:D5) (n:Nat):D5:=fun f args AM next =>
 (E.fn f).bind fun F=>bif Nat.ble args.length F.AU then
  (CY E none f F call callH callY n 0 F.body ⟨Kl F.E6 0 args .leaf,AM,next⟩).bind fun r =>
   match r.1 with
   | .exit _ | .busy=>none
   | _=>(G6 E r.2.base.get r.2.AM.get F.JQ).bind fun vs=>some (Hz vs,r.2.AM,r.2.next)
  else none
def oN (t:TypeId):List AB->Tr A8->Nat->Option (AB×Tr A8×Nat)
 | [.ptr id 0],o,nx=>(match o.get id with
  | some (.cells t' [d,Aw])=>bif Nat.beq t' t&&(match d with | .Bu=>true | .ptr j 0=>Nat.beq j id|_=>false)then some (.Ap [],o.set id (some (.cells t' [.ptr id 0,Aw])),nx)else none
  | _=>none)
 | _,_,_=>none
def ZT (E:Env) (e:TypeId):List AB->Tr A8->Nat->Option (AB×Tr A8×Nat)
 | [x],o,nx=>(FK o.get x).bind fun es=>(E.ty e).bind fun d=>bif es.all (fun c=>Nat.beq c.length d.size)&&Nat.ble (es.length*(d.bytes+1)) 100000000000000&&Nat.blt 0 d.size then some (.rs nx 0,o.set nx (some (.row e es 0 0)),nx+1)else none
 | _,_,_=>none
def PS:List (List AB)->Option (List Int)
 | []=>some []
 | [.int .i64 n]::es=>(PS es).bind fun l=>some (n::l)
 | _=>none
def Lx (n:Int):List Int->List Int
 | []=>[n]
 | m::l=>bif decide (n<=m)then n::m::l else m::Lx n l
def He:List Int->List Int
 | []=>[]
 | n::l=>Lx n (He l)
def SE (e:TypeId):List AB->Tr A8->Nat->Option (AB×Tr A8×Nat)
 | [.Aq],o,nx=>some (.Ap [],o,nx)
 | [.rs id v],o,nx=>(match o.get id with
  | some (.Ea e' es u)=>bif Nat.beq e' e&&Nat.beq u v&&Nat.ble es.length 1000000 then(PS es).bind fun l=>some (.Ap [],o.set id (some (.row e ((He l).map fun n=>[.int .i64 n]) 0 u)),nx)else none
  | _=>none)
 | _,_,_=>none
def JF (E:Env) (f:Nat) (run:D5):D5:=fun g as o nx=>match E.leaf f with
 | some L=>bif B4 as then(L as).bind fun r=>bif BW r then some (r,o,nx)else none else none
 | none=>match E.Hh f with
  | some t=>oN t as o nx
  | none=>match E.Mr f with
   | some e=>ZT E e as o nx
   | none=>match E.Mz f with
    | some e=>(match SE e as o nx with|some x=>some x|none=>run g as o nx)
    | none=>run g as o nx
def VF (E:Env) (f:Nat):Bool:=(E.leaf f).isSome||((E.Hh f).isSome||((E.Mr f).isSome||(E.Mz f).isSome))
def B8 (E:Env):Nat->Bool->D5
 | 0,_,_,_,_,_=>none
 | n+1,false,f,args,AM,next=>JF E f (Kq E (JI E (fun g as=>(B8 E n false g as .leaf 0).bind fun x=>BP x.2.1.get x.1) (B8 E n false) (B8 E n true) n)) f args AM next
 | n+1,true,l,args,AM,next=>(match AM.get l with
  | some (.loop Bj base AP assign body Af .normal)=>(E.fn Bj).bind fun F=>(Kh F.E6 F.AU AP args base).bind fun b =>
    let run:=CY E (some l) Bj F (fun g as=>(B8 E n false g as .leaf 0).bind fun x=>BP x.2.1.get x.1) (B8 E n false) (B8 E n true) n Af
    (run assign ⟨b,AM,next⟩).bind fun r=>(match r.1,r.2.AM.get l with
    | .normal,some (.loop J u M e q C .normal)=>(run body { r.2 with AM:=r.2.AM.set l (some (.loop J u M e q C .busy)) }).bind fun r=>(match r.1,r.2.AM.get l with
     | .busy,_=>none
     | ex,some (.loop z i K d j I .busy)=>some (.bool (match ex with | .normal=>true|_=>false),r.2.AM.set l (some (.loop z i K d j I ex)),r.2.next)
     | _,_=>none)
    | _,_=>none)
  | _=>none)
def EQ (E:Env) (n f:Nat) (args:List AB):Option AB:=(B8 E n false f args .leaf 0).bind fun x=>BP x.2.1.get x.1
end Go.Ab
namespace Go.Ab
open Go.RowKit
abbrev Aj:=Nat->Nat->Option Value
structure BB where
 BE:Nat->Option Nat
 Am:Nat->Nat->Option Value
mutual
def AO (β:BB) (G:Aj):AB->Value->Prop
 | .bool b,v=>v=.bool b
 | .int k n,v=>v=.int k n
 | .str s,v=>v=.string s
 | .Bu,v=>v=.pointer none
 | .ptr id off,v=>∃b,β.BE id=some b/\v=.pointer (some ⟨b,off,none⟩)
 | .CO id w i e off,v=>∃b n c,β.Am id w=some (.slice (some ⟨b,0,none⟩) n c)/\v=.pointer (some ⟨b,i*e+off,none⟩)
 | .CN cs,v=>B4 cs=true/\∃b o,v=.pointer (some ⟨b,o,none⟩)/\D7 β G b o cs
 | .Aq,v=>v=.slice none 0 0
 | .AR es,v=>∃a c,(v=.slice a es.length c/\es.length<=c)/\(es=[]\/∃b o e,a=some ⟨b,o,none⟩/\DD β G b e o es)
 | .rs id w,v=>β.Am id w=some v/\∃a n c,v=.slice a n c
 | .CV id w i n e,v=>∃a m c j c',β.Am id w=some (.slice a m c)/\v=.slice j n c'/\n<=c'/\i+n<=m/\(n=0\/∃b,a=some ⟨b,0,none⟩/\j=some ⟨b,i*e,none⟩)
 | .EG n,v=>∃a c,v=.slice a n c/\n<=c
 | .agg cs,v=>∃vs,v=.agg vs.toArray/\Ae β G cs vs
 | .Ap cs,v=>∃vs,v=.tuple vs.toArray/\Ae β G cs vs
 | .fn f a c,v=>∃as cs,v=.func f as.toArray cs.toArray/\Ae β G a as/\Ae β G c cs
 | .A2,v=>v=.nilFunc
 | .map id,v=>∃b,β.BE id=some b/\v=.map (some b)
 | .Cv,v=>v=.map none
 | .iface t d,v=>∃u,v=.iface t u/\AO β G d u
 | .Bl,v=>v=.nilIface
 | .iter id,v=>∃b,β.BE id=some b/\v=.pointer (some ⟨b,0,none⟩)
 | .B2 id,v=>∃b,β.BE id=some b/\v=.func (.yield b) #[] #[]
def Ae (β:BB) (G:Aj):List AB->List Value->Prop
 | [],vs=>vs=[]
 | d::ds,vs=>∃v e,vs=v::e/\AO β G d v/\Ae β G ds e
def D7 (β:BB) (G:Aj) (b o:Nat):List AB->Prop
 | []=>True
 | d::ds=>(∃u,G b o=some u/\AO β G d u)/\D7 β G b (o+1) ds
def DD (β:BB) (G:Aj) (b e o:Nat):List (List AB)->Prop
 | []=>True
 | c::cs=>c.length=e/\(B4 c=true/\c.all Ct=true)/\D7 β G b o c/\DD β G b e (o+e) cs
end
structure Ext (β:BB) (G:Aj) (β':BB) (G':Aj):Prop where
 g:∀b o v,G b o=some v->G' b o=some v
 BE:∀id b,β.BE id=some b->β'.BE id=some b
 Am:∀id u v,β.Am id u=some v->β'.Am id u=some v
theorem Ext.refl (β:BB) (G:Aj):Ext β G β G:=⟨fun _ _ _ h=>h,fun _ _ h=>h,fun _ _ _ h=>h⟩
theorem Ext.trans {β β' d:BB} {G G' e:Aj} (h:Ext β G β' G') (k:Ext β' G' d e):Ext β G d e :=
 ⟨fun b o v x=>k.g b o v (h.g b o v x),fun id b x=>k.BE id b (h.BE id b x),fun id u v x=>k.Am id u v (h.Am id u v x)⟩
section mono
variable {β β':BB} {G G':Aj}
mutual
theorem AO.mono (i:Ext β G β' G'):∀(d:AB) (v:Value),AO β G d v->AO β' G' d v
 | .bool _,_,h=>by unfold AO at h⊢;exact h
 | .int _ _,_,h=>by unfold AO at h⊢;exact h
 | .str _,_,h=>by unfold AO at h⊢;exact h
 | .Bu,_,h=>by unfold AO at h⊢;exact h
 | .ptr _ _,_,h=>by unfold AO at h⊢;obtain⟨b,g,f⟩:=h;exact⟨b,i.BE _ _ g,f⟩
 | .CO _ _ _ _ _,_,h=>by unfold AO at h⊢;obtain⟨b,n,c,g,f⟩:=h;exact⟨b,n,c,i.Am _ _ _ g,f⟩
 | .CN cs,_,h=>by unfold AO at h⊢;obtain⟨k,b,o,g,f⟩:=h;exact⟨k,b,o,g,D7.mono i cs b o f⟩
 | .Aq,_,h=>by unfold AO at h⊢;exact h
 | .AR es,_,h=>by
  unfold AO at h⊢;obtain⟨a,c,g,f⟩:=h;refine⟨a,c,g,?_⟩;rcases f with f|⟨b,o,e,f,j⟩
  ·exact .inl f
  ·exact .inr ⟨b,o,e,f,DD.mono i es b e o j⟩
 | .rs _ _,_,h=>by unfold AO at h⊢;exact⟨i.Am _ _ _ h.1,h.2⟩
 | .CV _ _ _ _ _,_,h=>by unfold AO at h⊢;obtain⟨a,m,c,l,c',g,f⟩:=h;exact⟨a,m,c,l,c',i.Am _ _ _ g,f⟩
 | .EG _,_,h=>by unfold AO at h⊢;exact h
 | .agg cs,_,h=>by unfold AO at h⊢;obtain⟨vs,g,f⟩:=h;exact⟨vs,g,Ae.mono i cs vs f⟩
 | .Ap cs,_,h=>by unfold AO at h⊢;obtain⟨vs,g,f⟩:=h;exact⟨vs,g,Ae.mono i cs vs f⟩
 | .fn _ a c,_,h=>by unfold AO at h⊢;obtain⟨as,cs,g,f,j⟩:=h;exact⟨as,cs,g,Ae.mono i a as f,Ae.mono i c cs j⟩
 | .A2,_,h=>by unfold AO at h⊢;exact h
 | .map _,_,h=>by unfold AO at h⊢;obtain⟨b,g,f⟩:=h;exact⟨b,i.BE _ _ g,f⟩
 | .Cv,_,h=>by unfold AO at h⊢;exact h
 | .iface _ d,_,h=>by unfold AO at h⊢;obtain⟨u,g,f⟩:=h;exact⟨u,g,AO.mono i d u f⟩
 | .Bl,_,h=>by unfold AO at h⊢;exact h
 | .iter _,_,h=>by unfold AO at h⊢;obtain⟨b,g,f⟩:=h;exact⟨b,i.BE _ _ g,f⟩
 | .B2 _,_,h=>by unfold AO at h⊢;obtain⟨b,g,f⟩:=h;exact⟨b,i.BE _ _ g,f⟩
theorem Ae.mono (a:Ext β G β' G'):∀(ds:List AB) (vs:List Value),Ae β G ds vs->Ae β' G' ds vs
 | [],_,h=>by unfold Ae at h⊢;exact h
 | d::ds,_,h=>by unfold Ae at h⊢;obtain⟨v,i,b,e,c⟩:=h;exact⟨v,i,b,AO.mono a d v e,Ae.mono a ds i c⟩
theorem D7.mono (a:Ext β G β' G'):∀(ds:List AB) (b o:Nat),D7 β G b o ds->D7 β' G' b o ds
 | [],_,_,_=>by unfold D7;trivial
 | d::ds,b,o,h=>by unfold D7 at h⊢;obtain⟨⟨u,c,f⟩,e⟩:=h;exact⟨⟨u,a.g _ _ _ c,AO.mono a d u f⟩,D7.mono a ds b (o+1) e⟩
theorem DD.mono (a:Ext β G β' G'):∀(es:List (List AB)) (b e o:Nat),DD β G b e o es->DD β' G' b e o es
 | [],_,_,_,_=>by unfold DD;trivial
 | c::cs,b,e,o,h=>by unfold DD at h⊢;obtain⟨g,d,i,f⟩:=h;exact⟨g,d,D7.mono a c b o i,DD.mono a cs b e (o+e) f⟩
end
end mono
section free
variable {β β':BB} {G:Aj}
mutual
theorem AO.free:∀(d:AB) (v:Value),BW d=true->AO β G d v->AO β' G d v
 | .bool _,_,_,h=>by unfold AO at h⊢;exact h
 | .int _ _,_,_,h=>by unfold AO at h⊢;exact h
 | .str _,_,_,h=>by unfold AO at h⊢;exact h
 | .Bu,_,_,h=>by unfold AO at h⊢;exact h
 | .ptr _ _,_,hf,_=>by simp[BW]at hf
 | .CO _ _ _ _ _,_,hf,_=>by simp[BW]at hf
 | .CN _,_,hf,_=>by simp[BW]at hf
 | .Aq,_,_,h=>by unfold AO at h⊢;exact h
 | .AR es,_,_,h=>by
  unfold AO at h⊢;obtain⟨a,c,g,f⟩:=h;refine⟨a,c,g,?_⟩;rcases f with f|⟨b,o,e,f,j⟩
  ·exact .inl f
  ·exact .inr ⟨b,o,e,f,DD.free es b e o j⟩
 | .rs _ _,_,hf,_=>by simp[BW]at hf
 | .CV _ _ _ _ _,_,hf,_=>by simp[BW]at hf
 | .EG _,_,hf,_=>by simp[BW]at hf
 | .agg cs,_,hf,h=>by unfold AO at h⊢;obtain⟨vs,g,f⟩:=h;exact⟨vs,g,Ae.free cs vs (by simpa[BW]using hf) f⟩
 | .Ap cs,_,hf,h=>by unfold AO at h⊢;obtain⟨vs,g,f⟩:=h;exact⟨vs,g,Ae.free cs vs (by simpa[BW]using hf) f⟩
 | .fn _ a c,_,hf,h=>by
  unfold AO at h⊢;obtain⟨as,cs,g,f,j⟩:=h;have i:B4 a=true/\B4 c=true:=by simpa[BW]using hf
  exact⟨as,cs,g,Ae.free a as i.1 f,Ae.free c cs i.2 j⟩
 | .A2,_,_,h=>by unfold AO at h⊢;exact h
 | .map _,_,hf,_=>by simp[BW]at hf
 | .Cv,_,_,h=>by unfold AO at h⊢;exact h
 | .iface _ d,_,hf,h=>by unfold AO at h⊢;obtain⟨u,g,f⟩:=h;exact⟨u,g,AO.free d u (by simpa[BW]using hf) f⟩
 | .Bl,_,_,h=>by unfold AO at h⊢;exact h
 | .iter _,_,hf,_=>by simp[BW]at hf
 | .B2 _,_,hf,_=>by simp[BW]at hf
theorem Ae.free:∀(ds:List AB) (vs:List Value),B4 ds=true->Ae β G ds vs->Ae β' G ds vs
 | [],_,_,h=>by unfold Ae at h⊢;exact h
 | d::ds,_,hf,h=>by
  unfold Ae at h⊢;have a:BW d=true/\B4 ds=true:=by simpa[B4]using hf
  obtain⟨v,i,b,e,c⟩:=h;exact⟨v,i,b,AO.free d v a.1 e,Ae.free ds i a.2 c⟩
theorem D7.free:∀(ds:List AB) (b o:Nat),B4 ds=true->D7 β G b o ds->D7 β' G b o ds
 | [],_,_,_,_=>by unfold D7;trivial
 | d::ds,b,o,hf,h=>by
  unfold D7 at h⊢;have a:BW d=true/\B4 ds=true:=by simpa[B4]using hf
  obtain⟨⟨u,c,f⟩,e⟩:=h;exact⟨⟨u,c,AO.free d u a.1 f⟩,D7.free ds b (o+1) a.2 e⟩
theorem DD.free:∀(es:List (List AB)) (b e o:Nat),DD β G b e o es->DD β' G b e o es
 | [],_,_,_,_=>by unfold DD;trivial
 | c::cs,b,e,o,h=>by unfold DD at h⊢;obtain⟨d,a,f,g⟩:=h;exact⟨d,a,D7.free c b o a.1 f,DD.free cs b e (o+e) g⟩
end
end free
section lists
variable {β:BB} {G:Aj}
theorem CU {vs:List Value}:Ae β G [] vs↔vs=[]:=by unfold Ae;exact Iff.rfl
theorem CE {d:AB} {ds:List AB} {vs:List Value}:Ae β G (d::ds) vs↔∃v e,vs=v::e/\AO β G d v/\Ae β G ds e:=by
 conv=>lhs;unfold Ae
theorem FR:∀{ds:List AB} {vs:List Value},Ae β G ds vs->vs.length=ds.length
 | [],_,h=>by rw[CU]at h;simp[h]
 | d::ds,_,h=>by
  obtain⟨v,e,rfl,_,h⟩:=CE.1 h;simp[FR h]
theorem RV:∀{ds:List AB} {vs:List Value},Ae β G ds vs->∀{i:Nat} {d:AB},ds[i]? = some d->∃v,vs[i]? = some v/\AO β G d v
 | [],_,_,i,d,AA=>by simp at AA
 | x::ds,_,h,i,d,AA=>by
  obtain⟨v,e,rfl,a,h⟩:=CE.1 h;cases i with
  | zero=>simp at AA;subst AA;exact⟨v,rfl,a⟩
  | succ i=>simpa using RV h (i:=i) (d:=d) (by simpa using AA)
theorem JA:∀{ds es:List AB} {vs:List Value},Ae β G (ds++es) vs↔∃as bs,vs=as++bs/\Ae β G ds as/\Ae β G es bs
 | [],es,vs=>by
  constructor
  ·intro h;exact⟨[],vs,rfl,CU.2 rfl,h⟩
  ·rintro⟨as,bs,rfl,a,b⟩;rw[CU]at a;subst a;exact b
 | d::ds,es,vs=>by
  constructor
  ·intro h;obtain⟨v,j,rfl,a,b⟩:=CE.1 h;obtain⟨as,bs,rfl,c,e⟩:=JA.1 b;exact⟨v::as,bs,rfl,CE.2 ⟨v,as,rfl,a,c⟩,e⟩
  ·rintro⟨as,bs,rfl,a,b⟩;obtain⟨v,i,rfl,c,e⟩:=CE.1 a;exact CE.2 ⟨v,i++bs,rfl,c,JA.2 ⟨i,bs,rfl,e,b⟩⟩
theorem J4:∀{ds:List AB} {vs:List Value} (n:Nat),Ae β G ds vs->Ae β G (ds.drop n) (vs.drop n)
 | [],_,n,h=>by rw[CU]at h;subst h;simp[CU]
 | d::ds,_,0,h=>by simpa using h
 | d::ds,_,n+1,h=>by
  obtain⟨v,e,rfl,b,a⟩:=CE.1 h;simpa using J4 n a
theorem J5:∀{ds:List AB} {vs:List Value} (n:Nat),Ae β G ds vs->Ae β G (ds.take n) (vs.take n)
 | [],_,n,h=>by rw[CU]at h;subst h;simp[CU]
 | d::ds,_,0,h=>by simp[CU]
 | d::ds,_,n+1,h=>by
  obtain⟨v,e,rfl,a,b⟩:=CE.1 h;simpa using CE.2 ⟨v,_,rfl,a,J5 n b⟩
theorem Anc {d:AB} {v:Value} (hc:Ct d=true) (h:AO β G d v):v.oneCell'=true:=by
 cases d<;>simp[Ct]at hc<;>unfold AO at h
 all_goals first
  | (subst h;rfl)
  | (obtain⟨b,_,rfl⟩:=h;rfl)
  | (obtain⟨b,n,c,_,rfl⟩:=h;rfl)
  | (obtain⟨_,b,o,rfl,_⟩:=h;rfl)
  | (obtain⟨a,c,⟨rfl,_⟩,_⟩:=h;rfl)
  | (obtain⟨_,a,n,c,rfl⟩:=h;rfl)
  | (obtain⟨_,_,rfl,_,_⟩:=h;rfl)
  | (obtain⟨_,_,_,_,_,_,rfl,_⟩:=h;rfl)
  | (obtain⟨_,_,rfl,_⟩:=h;rfl)
  | (obtain⟨_,rfl,_⟩:=h;rfl)
theorem UN {d:AB} {v:Value} (h:AO β G d v):Ae β G (cellsOf d) v.cells.toList:=by
 have i:∀{d:AB} {v:Value},AO β G d v->v.cells = #[v]->Ae β G [d] v.cells.toList:=fun h e=>by
  rw[e];exact CE.2 ⟨_,[],rfl,h,CU.2 rfl⟩
 cases d with
 | agg cs=>unfold AO at h;obtain⟨vs,rfl,h⟩:=h;simpa[cellsOf,Value.cells]using h
 | _ =>
  refine i h ?_;unfold AO at h
  first
  | (subst h;rfl)
  | (obtain⟨b,_,rfl⟩:=h;rfl)
  | (obtain⟨b,n,c,_,rfl⟩:=h;rfl)
  | (obtain⟨_,b,o,rfl,_⟩:=h;rfl)
  | (obtain⟨a,c,⟨rfl,_⟩,_⟩:=h;rfl)
  | (obtain⟨_,a,n,c,rfl⟩:=h;rfl)
  | (obtain⟨_,_,rfl,_,_⟩:=h;rfl)
  | (obtain⟨_,_,_,_,_,_,rfl,_⟩:=h;rfl)
  | (obtain⟨_,_,rfl,_⟩:=h;rfl)
  | (obtain⟨_,rfl,_⟩:=h;rfl)
theorem Xk:∀{ds:List AB} {vs:List Value},ds.all Ct=true->Ae β G ds vs->∀v∈vs,v.oneCell'=true
 | [],_,_,h,v,hv=>by rw[CU]at h;subst h;cases hv
 | d::ds,_,hc,h,v,hv=>by
  obtain⟨u,e,rfl,a,b⟩:=CE.1 h;simp only[EW,Ar]at hc;cases hv with
  | head=>exact Anc hc.1 a
  | tail _ hv=>exact Xk hc.2 b v hv
end lists
end Go.Ab
namespace Go.Ab
open Go.RowKit
structure Br (P:Program) (t:TypeId) (ti:By):Prop where
 IB:∃i z,P.info? t=some i/\i.size=ti.size/\i.bytes=ti.bytes/\i.zero=some z/\z.cells.size=ti.size/\∀β G,Ae β G ti.zero z.cells.toList
 Aif:ti.zero.all Ct=true
 Adh:ti.SL=true->(∀(xs ys:List AB) (r:Bool),Bz xs ys=some r->C9 ti.zero xs=true->C9 ti.zero ys=true->∀(β:BB) (G:Aj) (CZ D2:List Value) (w:World),Ae β G xs CZ->Ae β G ys D2 →
  (Op.equal t (.agg CZ.toArray) (.agg D2.toArray)).run P w=.ok r w)/\P.eqGuardType P.depth t=false
 AAV:B4 ti.zero=true
 Dj:ti.isAgg=false->∀d,ti.zero=[d]->∀i z,P.info? t=some i->i.zero=some z->∀β G,AO β G d z
 AAP:ti.isAgg=false->ti.zero.length=1
 AAL:ti.isAgg=true->∀i z,P.info? t=some i->i.zero=some z->∃cs,z=.agg cs
 AsF:∀m g,Rc m ti.Zj=some g->∀(v:Value) (args:Array Value) (w:World),(callMethod (.iface t v) m args).run P w=(callFunc g (#[v]++args)).run P w
 key:ti.LG=true->∀(xs:List AB),C9 ti.zero xs=true->∀(b:Bool) (β:BB) (G:Aj) (CZ:List Value) (w:World),Ae β G xs CZ->(Instr.checkKey b 10000 t (.agg CZ.toArray)).run P w=.ok () w
 desc:match ti.k with
  | .bool=>P.underlying t=some .bool
  | .int k=>P.underlying t=some (.int k)
  | .string=>P.underlying t=some .string
  | .struct fs=>∃fields,P.underlying t=some (.struct fields)/\fields.toList.map (fun f=>(f.type,f.offset))=fs ∧
    ∃places,fields.toList.mapM (fun f=>(P.info? f.type).map fun i=>(f.offset,i.size))=some places
  | .array n e=>P.underlying t=some (.array n e)
  | .slice e=>P.underlying t=some (.slice e)
  | .map k e=>P.underlying t=some (.map k e)
  | .ptr e=>P.underlying t=some (.pointer e)
  | .func=>∃a b c,P.underlying t=some (.func a b c)
  | .iface=>∃ms,P.underlying t=some (.interface ms)
  | .other=>False
def E0 (E:Env) (t:TypeId):Nat:=match E.ty t with|some ti=>ti.size|none=>0
def Cc (β:BB) (id:Nat) (o:A8) (b:Nat):Prop :=
 match o with
 | .row _ _ _ u=>∃n c,β.Am id u=some (.slice (some ⟨b,0,none⟩) n c)
 | .Ea _ _ u=>∃n c,β.Am id u=some (.slice (some ⟨b,0,none⟩) n c)
 | _=>β.BE id=some b
def Ic (β:BB) (G:Aj):List (AB×AB)->List MapEntry->Prop
 | [],e=>e=[]
 | (k,v)::es,e=>∃m d,e=m::d/\AO β G k m.key/\AO β G v m.val/\LG k=true/\BW v=true/\Ic β G es d
def HK:Ce->Option Code
 | .normal | .busy=>none
 | .exit id=>some (.exit id)
 | .ret=>some .ret
def Dq (β:BB) (G:Aj) (ρ:Nat->Option AB) (tmps:Array Value):Prop:=∀t d,ρ t=some d->∃v,tmps[t]? = some v/\AO β G d v
theorem PV (p n:Nat):Jq p n<=n:=by unfold Jq;split<;>omega
theorem AnO (p:Nat) {n m:Nat} (h:n<=m):Jq p n<=Jq p m:=by unfold Jq;split<;>omega
abbrev AcZ (E:Env) (base:Nat) (w:World) (β:BB) (G:Aj) (id:Nat) (t:TypeId) (es:List (List AB)) (p u:Nat):Prop :=
 ∃Am d,β.Am id u=some Am/\w.ownsRow base t (E0 E t) Am es.length d/\Ae β G es.flatten d ∧
   (∀c∈es,c.length=E0 E t/\B4 c=true/\c.all Ct=true)/\(0<E0 E t/\Jq p es.length<=es.length) ∧
   (∀b,Am.ownBlock=some b->∀o,Jq p es.length*E0 E t<=o->G b o=none)/\∀e,u<e->β.Am id e=none
abbrev Acv (e:Array MapEntry) (d:Nat):Prop:=e.toList.map (·.born)=List.range e.size/\d=e.size
def FL (E:Env) (base:Nat) (w:World) (β:BB) (G:Aj) (id:Nat):A8->Prop
 | .cells t cs=>∃b vs,β.BE id=some b/\w.heap[b]? = some (.cells vs t (0,0))/\Ae β G cs vs.toList/\cs.all Ct=true/\∀o,G b o=none
 | .row t es p u=>AcZ E base w β G id t es p u
 | .Ea t es u=>∃fs,fs.Perm es/\AcZ E base w β G id t fs 0 u
 | .map es=>∃b i e,β.BE id=some b/\w.heap[b]? = some (.map i e)/\Ic β G es i.toList/\Acv i e
 | .Dg m n LJ=>∃b l j,β.BE id=some b/\β.BE m=some l/\w.heap[b]? = some (.mapIter (some l) n LJ.toArray j)/\n<=j
 | .Ez s pos=>∃b,β.BE id=some b/\w.heap[b]? = some (.stringIter s pos)
 | .loop Bj bs AP assign body _ ex=>∃b tmps df fn F,β.BE id=some b ∧
   w.heap[b]? = some (.loop { state:=(match ex with | .normal=>.ready | .busy=>.busy|_=>.done),pending:=HK ex,fn:=fn,tmps:=tmps,params:=AP.toArray,assign:=assign,body:=body,defers:=df }) ∧
   Dq β G bs.get tmps/\E.fn Bj=some F/\tmps.size=F.AU/\∀t d,bs.get t=some d->Nat.testBit F.E6 t=true
abbrev CW:=Nat->Option (Obj×(Nat->Option Value))
def Zk:Obj×(Nat->Option Value):=(.deferred (some []),fun _=>none)
def FD (own:List Nat) (D:CW):CW:=fun b=>if b∈own then some Zk else D b
def Uj (own:List Nat) (D:CW):Prop:=own.Nodup/\∀b∈own,D b=none
theorem Xi {own:List Nat} {D:CW} {b:Nat} (h:FD own D b=none):b∉own/\D b=none:=by
 unfold FD at h
 by_cases e:b∈own
 ·rw[if_pos e]at h;cases h
 ·rw[if_neg e]at h;exact⟨e,h⟩
theorem kK (D:CW):FD [] D=D:=by funext b;simp[FD]
theorem yP (d:Nat) (own:List Nat) (D:CW):FD (d::own) D=FD [d] (FD own D):=by
 funext b;unfold FD
 by_cases e:b=d
 ·simp[e]
 ·simp[e]
theorem Am7 {d:Nat} {own:List Nat} {D:CW}:FD (d::own) D d=some Zk:=by simp[FD]
structure Ax (E:Env) (w0:World) (G0:Aj) (D:CW) (w:World) (β:BB) (G:Aj) (h:Nat->Option A8):Prop where
 below:Below w0.heap.size w0 w
 g0:∀b,b<w0.heap.size->G b=G0 b
 agree:∀b o v,G b o=some v->w.cell? ⟨b,o,none⟩=some v
 obj:∀id o,h id=some o->FL E w0.heap.size w β G id o
 own:∀id o b,h id=some o->Cc β id o b->w0.heap.size<=b/\b<w.heap.size/\D b=none
 inj:∀id id' o o' b,h id=some o->h id'=some o'->Cc β id o b->Cc β id' o' b->id=id'
 marks:∀d x,D d=some x->w0.heap.size<=d/\w.heap[d]? = some x.1/\∀o,G d o=x.2 o
 H0:E.inv w0
structure C3 (β:BB) (h:Nat->Option A8) (id:Nat):Prop where
 BE:β.BE id=none
 Am:∀u,β.Am id u=none
 h:h id=none
def BY (h:Nat->Option A8) (u:List (Nat×Option A8)) (id:Nat):Option A8 :=
 match DB id u with
 | some x=>x
 | none=>h id
theorem Mv {E:Env} {w0:World} {G0:Aj} {D:CW} {w:World} {β:BB} {G:Aj} {h:Nat->Option A8} (hh:Ax E w0 G0 D w β G h) {b:Nat} (hb:w.heap.size<=b) (o:Nat):G b o=none:=by
 cases d:G b o with
 | none=>rfl
 | some v =>
  have:=hh.agree b o v d;have a:=block_lt_of_cell this;simp at a;omega
theorem Ax.inv {E:Env} {w0:World} {G0:Aj} {D:CW} {w:World} {β:BB} {G:Aj} {h:Nat->Option A8} (hh:Ax E w0 G0 D w β G h):E.inv w:=E.stays w0 w hh.H0 hh.below
theorem Ax.Z8 {E:Env} {w0:World} {G0:Aj} {D:CW} {w:World} {β:BB} {G:Aj} {h:Nat->Option A8} (hh:Ax E w0 G0 D w β G h) {b:Nat} (hb:w.heap.size<=b):D b=none:=by
 cases d:D b with
 | none=>rfl
 | some x =>
  have:=(Gv.1 (hh.marks _ x d).2.1).1;omega
theorem lE {w:World} {β:BB} {G:Aj} (c:∀b o v,G b o=some v->w.cell? ⟨b,o,none⟩=some v) {b:Nat} :
  ∀(ds:List AB) (o:Nat),D7 β G b o ds->∃vs,Ae β G ds vs/\∀j v,vs[j]? = some v->w.cell? ⟨b,o+j,none⟩=some v
 | [],_,_=>⟨[],CU.2 rfl,by simp⟩
 | d::ds,o,h=>by
  unfold D7 at h;obtain⟨⟨u,g,e⟩,k⟩:=h;obtain⟨vs,f,i⟩:=lE c ds (o+1) k;refine⟨u::vs,CE.2 ⟨u,vs,rfl,e,f⟩,fun j v a=>?_⟩;cases j with
  | zero=>simp at a;subst a;exact c _ _ _ g
  | succ j =>
   have:=i j v (by simpa using a)
   rwa [show o+1+j=o+(j+1) by omega]at this
theorem HI (b o j:Nat):(⟨b,o,none⟩:Addr).add j=⟨b,o+j,none⟩:=by
 unfold Addr.add;split<;>simp_all
section tyfacts
variable {P:Program} {t:TypeId} {ti:By} (ht:Br P t ti)
include ht
theorem Br.size:(P.info? t).map (·.size)=some ti.size:=by
 obtain⟨i,z,a,b,_⟩:=ht.IB;simp[a,b]
theorem Br.run_sizeOf (w:World):(sizeOf t).run P w=.ok ti.size w:=by
 obtain⟨i,z,a,b,_⟩:=ht.IB;simp[sizeOf,typeInfo,a,b]
theorem Br.Ai3 (w:World):∃z,(zeroValue t).run P w=.ok z w/\z.cells.size=ti.size/\∀β G,Ae β G ti.zero z.cells.toList:=by
 obtain⟨i,z,c,e,_,b,d,a⟩:=ht.IB;exact⟨z,by simp[zeroValue,typeInfo,c,b],d,a⟩
theorem Br.Ze:ti.k≠.other:=fun h=>by have:=ht.desc;rw[h]at this;exact this
theorem Br.Ai2 (e:ti.k≠.other) (w:World):(isAgg t).run P w=.ok ti.isAgg w:=by
 have d:=ht.desc;unfold isAgg By.isAgg;cases i:ti.k<;>rw[i]at d<;>simp only at d
 all_goals first
  | (exact absurd i e)
  | (rw[Cz,C7 d w];rfl)
  | (obtain⟨f,d,_⟩:=d;rw[Cz,C7 d w];rfl)
  | (obtain⟨a,b,c,d⟩:=d;rw[Cz,C7 d w];rfl)
  | (obtain⟨a,d⟩:=d;rw[Cz,C7 d w];rfl)
end tyfacts
theorem DP {β:BB} {G:Aj} {ρ:Nat->Option AB} {a:Act} (hf:Dq β G ρ a.tmps) {x:Operand} {d:AB} (h:CA ρ x=some d):AO β G d (a.eval x):=by
 cases x with
 | tmp t =>
  obtain⟨v,hv,AH⟩:=hf t d h;simpa[Act.eval,hv]using AH
 | const v =>
  simp only[CA]at h;simp only[Act.eval];unfold ZN at h;split at h<;>first|(cases h;unfold AO;rfl)|cases h
 | func f=>simp only[CA,Bc]at h;subst h;unfold AO;exact⟨[],[],rfl,CU.2 rfl,CU.2 rfl⟩
 | global g=>cases h
theorem NY {β:BB} {G:Aj} {ρ:Nat->Option AB} {a:Act} (hf:Dq β G ρ a.tmps):∀{xs:List Operand} {ds:List AB},Gt ρ xs=some ds->Ae β G ds (xs.map a.eval)
 | [],ds,h=>by simp[Gt]at h;subst h;exact CU.2 rfl
 | x::xs,ds,h=>by
  simp only[Gt,Option.bind_eq_some_iff]at h;obtain⟨d,c,i,b,e⟩:=h;cases e;exact CE.2 ⟨_,_,rfl,DP hf c,NY hf b⟩
theorem Dq.mono {β β':BB} {G G':Aj} (c:Ext β G β' G') {ρ:Nat->Option AB} {CP:Array Value} (h:Dq β G ρ CP):Dq β' G' ρ CP:=fun t d ht=>by
 obtain⟨v,b,a⟩:=h t d ht;exact⟨v,b,AO.mono c d v a⟩
end Go.Ab
namespace Go.Ab
open Go.RowKit
theorem J9 {β β':BB} {id:Nat} (hb:β'.BE id=β.BE id) (hh:∀u,β'.Am id u=β.Am id u) (o:A8) (b:Nat):Cc β' id o b↔Cc β id o b:=by
 cases o<;>simp only[Cc,hb,hh]
theorem xR {w w':World} {base:Nat} {e:TypeId} {size:Nat} {v:Value} {n:Nat} {xs:List Value} (h:w.ownsRow base e size v n xs)
  (hb:∀g,v.ownBlock=some g->w'.heap[g]? = w.heap[g]?):w'.ownsRow base e size v n xs:=by
 obtain⟨c,a⟩:=h;refine⟨c,?_⟩;rcases a with a|⟨g,d,i,hv,b,hh,r⟩
 ·exact Or.inl a
 ·exact Or.inr ⟨g,d,i,hv,b,by rw[hb g (by rw[hv];rfl)];exact hh,r⟩
theorem hO {w:World} {base:Nat} {e:TypeId} {size:Nat} {v:Value} {n:Nat} {xs:List Value} (h:w.ownsRow base e size v n xs) {g:Nat} (a:v.ownBlock=some g) :
  ∃c,v=.slice (some ⟨g,0,none⟩) n c:=by
 rcases h.2 with⟨rfl,_⟩|⟨j,d,i,rfl,_⟩
 ·cases a
 ·simp[Value.ownBlock]at a;subst a;exact⟨d,rfl⟩
theorem AaN {β β':BB} {G G':Aj} (a:Ext β G β' G'):∀{es:List (AB×AB)} {e:List MapEntry},Ic β G es e->Ic β' G' es e
 | [],_,h=>h
 | _::_,_,⟨m,d,j,z,u,l,i,q⟩=>⟨m,d,j,AO.mono a _ _ z,AO.mono a _ _ u,l,i,AaN a q⟩
theorem FL.Cs {E:Env} {base:Nat} {w w':World} {β β':BB} {G G':Aj} {id:Nat} {o:A8} (e:Ext β G β' G') (l:∀u,β'.Am id u=β.Am id u)
  (hb:∀b,Cc β id o b->w'.heap[b]? = w.heap[b]? /\ ∀off,G' b off=G b off) (h:FL E base w β G id o):FL E base w' β' G' id o:=by
 cases o with
 | cells t cs =>
  obtain⟨b,vs,a,d,f,k,r⟩:=h;obtain⟨k1,k2⟩:=hb b a;exact⟨b,vs,e.BE _ _ a,k1.trans d,Ae.mono e _ _ f,k,fun o=>(k2 o).trans (r o)⟩
 | row t es p u =>
  obtain⟨Am,C,a,d,f,k,r,z,v⟩:=h;have i:∀g,Am.ownBlock=some g->Cc β id (.row t es p u) g:=fun g q=>by
   obtain⟨c,hc⟩:=hO d q;exact⟨es.length,c,by rw[a,hc]⟩
  refine⟨Am,C,e.Am _ _ _ a,xR d (fun g q=>(hb g (i g q)).1),Ae.mono e _ _ f,k,r,fun b j o x=>?_,fun J y=>(l J).trans (v J y)⟩;exact((hb b (i b j)).2 o).trans (z b j o x)
 | Ea t es u =>
  obtain⟨fs,K,Am,C,a,d,f,k,r,z,v⟩:=h;have i:∀g,Am.ownBlock=some g->Cc β id (.Ea t es u) g:=fun g q=>by
   obtain⟨c,hc⟩:=hO d q;exact⟨fs.length,c,by rw[a,hc]⟩
  refine⟨fs,K,Am,C,e.Am _ _ _ a,xR d (fun g q=>(hb g (i g q)).1),Ae.mono e _ _ f,k,r,fun b j o x=>?_,fun J y=>(l J).trans (v J y)⟩;exact((hb b (i b j)).2 o).trans (z b j o x)
 | Dg m n LJ =>
  obtain⟨b,Q,O,a,d,f⟩:=h;exact⟨b,Q,O,e.BE _ _ a,e.BE _ _ d,((hb b a).1).trans f.1,f.2⟩
 | map es =>
  obtain⟨b,M,I,a,d,f,k⟩:=h;obtain⟨k1,_⟩:=hb b a;exact⟨b,M,I,e.BE _ _ a,k1.trans d,AaN e f,k⟩
 | Ez s pos =>
  obtain⟨b,a,d⟩:=h;exact⟨b,e.BE _ _ a,((hb b a).1).trans d⟩
 | loop Bj bs AP assign body Af ex =>
  obtain⟨b,tmps,df,fn,F,a,d,f,k⟩:=h;exact⟨b,tmps,df,fn,F,e.BE _ _ a,((hb b a).1).trans d,Dq.mono e f,k⟩
theorem EV (h:Nat->Option A8) (id:Nat) (x:Option A8) (i:Nat):BY h [(id,x)] i=if i=id then x else h i:=by
 unfold BY
 by_cases e:i=id
 ·subst e;simp[DB]
 ·have:Nat.beq id i=false:=by
   cases d:Nat.beq id i with
   | false=>rfl
   | true=>exact absurd (Al d).symm e
  simp[DB,this,e]
theorem Ax.move {E:Env} {w0:World} {G0:Aj} {D:CW} {w w':World} {β β':BB} {G G':Aj} {h:Nat->Option A8} (hh:Ax E w0 G0 D w β G h)
  (T:Nat->Prop) (id:Nat) (o':A8) (hx:Ext β G β' G') (M:Below w0.heap.size w0 w')
  (W:∀b,¬T b->b<w.heap.size->w'.heap[b]? = w.heap[b]?) (K:∀b,¬T b->G' b=G b) (a1:w.heap.size<=w'.heap.size)
  (hT:∀b,T b->w0.heap.size<=b/\D b=none) (a0:∀b I o,T b->h I=some o->Cc β I o b->I=id)
  (U:∀b,T b->∀o v,G' b o=some v->w'.cell? ⟨b,o,none⟩=some v)
  (Z:FL E w0.heap.size w' β' G' id o') (q:∀b,Cc β' id o' b->T b\/∃o,h id=some o/\Cc β id o b) (k:∀b,Cc β' id o' b->b<w'.heap.size)
  (C:∀i,i≠id->β'.BE i=β.BE i/\∀u,β'.Am i u=β.Am i u):Ax E w0 G0 D w' β' G' (BY h [(id,some o')]):=by
 have r:∀i o b,i≠id->h i=some o->Cc β i o b->¬T b:=fun i o b AA t hb ht=>AA (a0 b i o ht t hb);have g:∀i o,BY h [(id,some o')] i=some o->(i=id/\o=o')\/(i≠id/\h i=some o):=fun i o AA=>by
  rw[EV]at AA
  by_cases e:i=id
  ·rw[if_pos e]at AA;cases AA;exact .inl ⟨e,rfl⟩
  ·rw[if_neg e]at AA;exact .inr ⟨e,AA⟩
 have m:∀b,Cc β' id o' b->w0.heap.size<=b/\D b=none:=fun b hb=>by
  rcases q b hb with ht|⟨o,t,n⟩
  ·exact hT b ht
  ·obtain⟨k1,_,J⟩:=hh.own id o b t n;exact⟨k1,J⟩
 have s:∀i o b,i≠id->h i=some o->Cc β i o b->Cc β' id o' b->False:=fun i o b AA t hb n=>by
  rcases q b n with ht|⟨Bs,O,Q⟩
  ·exact r i o b AA t hb ht
  ·exact AA (hh.inj i id o Bs b t O hb Q)
 constructor
 ·exact M
 ·intro b hb;rw[<-hh.g0 b hb];refine K b fun ht=>?_;have:=(hT b ht).1;omega
 ·intro b o v hg
  by_cases ht:T b
  ·exact U b ht o v hg
  ·rw[K b ht]at hg;have hc:=hh.agree b o v hg;have k:=block_lt_of_cell hc;exact(World.cell?_of_block (w:=w) (w':=w') (a:=⟨b,o,none⟩) (W b ht k)).trans hc
 ·intro i o AA;rcases g i o AA with⟨rfl,rfl⟩|⟨c,AA⟩
  ·exact Z
  ·refine FL.Cs hx (C i c).2 (fun b hb=>?_) (hh.obj i o AA);have l:=r i o b c AA hb;exact⟨W b l (hh.own i o b AA hb).2.1,fun off=>by rw[K b l]⟩
 ·intro i o b AA hb;rcases g i o AA with⟨rfl,rfl⟩|⟨c,AA⟩
  ·exact⟨(m b hb).1,k b hb,(m b hb).2⟩
  ·have n:=(J9 (C i c).1 (C i c).2 o b).1 hb;obtain⟨k1,k2,J⟩:=hh.own i o b AA n;exact⟨k1,by omega,J⟩
 ·intro i j o p b AA hj hb hc;rcases g i o AA with⟨AS,BG⟩|⟨c,y⟩<;>rcases g j p hj with⟨e3,e4⟩|⟨f,z⟩
  ·exact AS.trans e3.symm
  ·subst AS BG;exact(s j p b f z ((J9 (C j f).1 (C j f).2 p b).1 hc) hb).elim
  ·subst e3 e4;exact(s i o b c y ((J9 (C i c).1 (C i c).2 o b).1 hb) hc).elim
  ·exact hh.inj i j o p b y z ((J9 (C i c).1 (C i c).2 o b).1 hb) ((J9 (C j f).1 (C j f).2 p b).1 hc)
 ·intro d x hd;obtain⟨k1,k2,J⟩:=hh.marks d x hd;have k:d<w.heap.size:=(Gv.1 k2).1;have l:¬T d:=fun ht=>by rw[(hT d ht).2]at hd;cases hd
  exact⟨k1,(W d l k).trans k2,fun o=>by rw[K d l];exact J o⟩
 ·exact hh.H0
theorem Ax.less {E:Env} {w0:World} {G0:Aj} {D:CW} {w:World} {β:BB} {G:Aj} {h h':Nat->Option A8} (hh:Ax E w0 G0 D w β G h) (hl:∀i o,h' i=some o->h i=some o) :
  Ax E w0 G0 D w β G h' :=
 ⟨hh.below,hh.g0,hh.agree,fun i o AA=>hh.obj i o (hl i o AA),fun i o b AA=>hh.own i o b (hl i o AA),fun i j o p b AA a=>hh.inj i j o p b (hl i o AA) (hl j p a),hh.marks,hh.H0⟩
theorem Ax.eq {E:Env} {w0:World} {G0:Aj} {D:CW} {w:World} {β:BB} {G:Aj} {h h':Nat->Option A8} (hh:Ax E w0 G0 D w β G h) (hl:∀i,h' i=h i):Ax E w0 G0 D w β G h' :=
 hh.less fun i o AA=>by rw[<-hl i];exact AA
theorem Ax.drew {E:Env} {w0:World} {G0:Aj} {D:CW} {w:World} {β:BB} {G:Aj} {h:Nat->Option A8} (hh:Ax E w0 G0 D w β G h) (n:Nat) :
  Ax E w0 G0 D { w with drawn:=n } β G h :=
 ⟨⟨hh.below.os,hh.below.tape,hh.below.output,hh.below.size,hh.below.block⟩,hh.g0,hh.agree,fun i o AA=>by
  have:=hh.obj i o AA;cases o<;>exact this,hh.own,hh.inj,hh.marks,hh.H0⟩
def F0 (β β':BB) (h h':Nat->Option A8) (id:Nat):Prop:=h id=none->h' id=none/\β'.BE id=β.BE id/\∀u,β'.Am id u=β.Am id u
theorem F0.refl (β:BB) (h:Nat->Option A8) (id:Nat):F0 β β h h id:=fun h=>⟨h,rfl,fun _=>rfl⟩
theorem F0.trans {β β' e:BB} {h h' d:Nat->Option A8} {id:Nat} (x:F0 β β' h h' id) (y:F0 β' e h' d id):F0 β e h d id:=fun hn=>by
 obtain⟨a,b,c⟩:=x hn;obtain⟨i,j,c'⟩:=y a;exact⟨i,j.trans b,fun u=>(c' u).trans (c u)⟩
theorem F0.fresh {β β':BB} {h h':Nat->Option A8} {id:Nat} (x:F0 β β' h h' id) (hf:C3 β h id):C3 β' h' id:=by
 obtain⟨a,b,c⟩:=x hf.h;exact⟨b.trans hf.BE,fun u=>(c u).trans (hf.Am u),a⟩
def Fs (β β':BB) (h h':Nat->Option A8) (nid:Nat):Prop:=∀id,id≠nid->F0 β β' h h' id
theorem Fs.refl (β:BB) (h:Nat->Option A8) (nid:Nat):Fs β β h h nid:=fun id _=>F0.refl β h id
def Aom:A8->Bool
 | .row _ _ _ _=>false
 | .Ea _ _ _=>false
 | _=>true
theorem Ax.lay {E:Env} {w0:World} {G0:Aj} {D:CW} {w:World} {β:BB} {G:Aj} {h:Nat->Option A8} (hh:Ax E w0 G0 D w β G h) {nid:Nat} (hf:C3 β h nid) (q:Obj) (o':A8)
  (c:Aom o'=true)
  (g:∀β',Ext β G β' G->β'.BE nid=some w.heap.size->FL E w0.heap.size (w.alloc q) β' G nid o') :
  ∃β',Ext β G β' G/\β'.BE nid=some w.heap.size/\Ax E w0 G0 D (w.alloc q) β' G (BY h [(nid,some o')])/\Fs β β' h (BY h [(nid,some o')]) nid:=by
 refine⟨{ β with BE:=fun i=>if i=nid then some w.heap.size else β.BE i },?_,?_,?_,?_⟩
 ·exact⟨fun _ _ _ h=>h,fun i b hb=>by
   by_cases e:i=nid
   ·subst e;rw[hf.BE]at hb;cases hb
   ·simp[e,hb],fun _ _ _ h=>h⟩
 ·simp
 ·have k:Ext β G { β with BE:=fun i=>if i=nid then some w.heap.size else β.BE i } G:=⟨fun _ _ _ h=>h,fun i b hb=>by
   by_cases e:i=nid
   ·subst e;rw[hf.BE]at hb;cases hb
   ·simp[e,hb],fun _ _ _ h=>h⟩
  have a:∀b,Cc { β with BE:=fun i=>if i=nid then some w.heap.size else β.BE i } nid o' b->b=w.heap.size:=fun b hb=>by
   cases o' with
   | row t es p u=>cases c
   | Ea t es u=>cases c
   | _=>simp[Cc]at hb;exact hb.symm
  refine hh.move (fun b=>b=w.heap.size) nid o' k (hh.below.alloc hh.below.size q) (fun b _ f=>Below.heap_alloc w q b f) (fun _ _=>rfl) (by simp) ?_ ?_ ?_ (g _ k (by simp)) (fun b hb=>.inl (a b hb)) ?_ ?_
  ·rintro b rfl;refine⟨hh.below.size,?_⟩;cases l:D w.heap.size with
   | none=>rfl
   | some x =>
    have:=(Gv.1 (hh.marks _ x l).2.1).1;omega
  ·rintro b z o rfl m hb;have:=(hh.own z o _ m hb).2.1;omega
  ·rintro b rfl o v j;rw[Mv hh (Nat.le_refl _)]at j;cases j
  ·intro b hb;rw[a b hb];simp
  ·intro i AA;exact⟨by simp[AA],fun _=>rfl⟩
 ·intro id d hn;exact⟨by rw[EV,if_neg d];exact hn,by simp[d],fun _=>rfl⟩
end Go.Ab
namespace Go.Ab
open Go.RowKit
def De (P:Program) (E:Env) (w0:World) (G0:Aj) (D:CW) (o:Oper) (a:Act) (w:World) (β:BB) (G:Aj) (h:Nat->Option A8) (nid:Nat) (r:Out):Prop :=
 ∃nx v w' β' G',(execOp a.eval o).run P w=.ok nx w'/\(nx=.value v\/nx=.skip/\v=undef)/\(∀d,r.val=some d->AO β' G' d v) ∧
  Ext β G β' G'/\Ax E w0 G0 D w' β' G' (BY h r.Ba)/\Fs β β' h (BY h r.Ba) nid
section
variable {P:Program} {E:Env} {w0:World} {G0:Aj} {D:CW} {o:Oper} {a:Act} {w:World} {β:BB} {G:Aj} {h:Nat->Option A8} {nid:Nat}
theorem Abw (h:Nat->Option A8):BY h []=h:=rfl
theorem De.pure (hh:Ax E w0 G0 D w β G h) {d:AB} {v:Value} (AH:(execOp a.eval o).run P w=.ok (.value v) w) (hv:AO β G d v):De P E w0 G0 D o a w β G h nid ⟨some d,[]⟩ :=
 ⟨.value v,v,w,β,G,AH,.inl rfl,fun e b=>by cases b;exact hv,Ext.refl β G,by rw[Abw];exact hh,Fs.refl β h nid⟩
theorem L2 {d:AB} {r:Out} (h:ret d=some r):r=⟨some d,[]⟩:=by cases h;rfl
theorem AD {α γ:Type} {x:Option α} {f:α->Option γ} {r:γ} (h:x.bind f=some r):∃y,x=some y/\f y=some r:=Option.bind_eq_some_iff.1 h
theorem Ad {α:Type} {c:Bool} {x:Option α} {r:α} (h:(bif c then x else none)=some r):c=true/\x=some r:=by
 cases c
 ·cases h
 ·exact⟨rfl,h⟩
theorem DX {k:IntKind} {n:Int} {v:Value}:AO β G (.int k n) v↔v=.int k n:=by conv=>lhs;unfold AO
theorem Es {b:Bool} {v:Value}:AO β G (.bool b) v↔v=.bool b:=by conv=>lhs;unfold AO
theorem GO {s:ByteArray} {v:Value}:AO β G (.str s) v↔v=.string s:=by conv=>lhs;unfold AO
theorem Hp {cs:List AB} {v:Value}:AO β G (.agg cs) v↔∃vs,v=.agg vs.toArray/\Ae β G cs vs:=by conv=>lhs;unfold AO
theorem HU {cs:List AB} {v:Value}:AO β G (.Ap cs) v↔∃vs,v=.tuple vs.toArray/\Ae β G cs vs:=by conv=>lhs;unfold AO
theorem Ja {i n:Nat} {v:Value}:AO β G (.ptr i n) v↔∃b,β.BE i=some b/\v=.pointer (some ⟨b,n,none⟩):=by conv=>lhs;unfold AO
theorem N9 {cs:List AB} {v:Value}:AO β G (.CN cs) v↔B4 cs=true/\∃b o,v=.pointer (some ⟨b,o,none⟩)/\D7 β G b o cs:=by conv=>lhs;unfold AO
theorem MX {i w j e n:Nat} {v:Value}:AO β G (.CO i w j e n) v↔∃b m c,β.Am i w=some (.slice (some ⟨b,0,none⟩) m c)/\v=.pointer (some ⟨b,j*e+n,none⟩):=by conv=>lhs;unfold AO
theorem Yf {i w k n e:Nat} {v:Value}:AO β G (.CV i w k n e) v↔∃a m c d c',β.Am i w=some (.slice a m c)/\v=.slice d n c'/\n<=c'/\k+n<=m/\(n=0\/∃b,a=some ⟨b,0,none⟩/\d=some ⟨b,k*e,none⟩):=by conv=>lhs;unfold AO
theorem AbG {n:Nat} {v:Value}:AO β G (.EG n) v↔∃a c,v=.slice a n c/\n<=c:=by conv=>lhs;unfold AO
theorem IK {i w:Nat} {v:Value}:AO β G (.rs i w) v↔β.Am i w=some v/\∃a n c,v=.slice a n c:=by conv=>lhs;unfold AO
theorem Km {es:List (List AB)} {v:Value}:AO β G (.AR es) v↔∃a c,(v=.slice a es.length c/\es.length<=c)/\(es=[]\/∃b o e,a=some ⟨b,o,none⟩/\DD β G b e o es):=by conv=>lhs;unfold AO
theorem L1 {v:Value}:AO β G .Aq v↔v=.slice none 0 0:=by conv=>lhs;unfold AO
theorem Ye {f:Fn} {x c:List AB} {v:Value}:AO β G (.fn f x c) v↔∃as cs,v=.func f as.toArray cs.toArray/\Ae β G x as/\Ae β G c cs:=by conv=>lhs;unfold AO
theorem Ud {i:Nat} {v:Value}:AO β G (.map i) v↔∃b,β.BE i=some b/\v=.map (some b):=by conv=>lhs;unfold AO
theorem UR {i:Nat} {v:Value}:AO β G (.iter i) v↔∃b,β.BE i=some b/\v=.pointer (some ⟨b,0,none⟩):=by conv=>lhs;unfold AO
theorem Aca {i:Nat} {v:Value}:AO β G (.B2 i) v↔∃b,β.BE i=some b/\v=.func (.yield b) #[] #[]:=by conv=>lhs;unfold AO
theorem jF {v:Value}:AO β G .Cv v↔v=.map none:=by conv=>lhs;unfold AO
theorem YG {v:Value}:AO β G .Bu v↔v=.pointer none:=by conv=>lhs;unfold AO
theorem AlB {op:BinOp} {x y:Int} {d:AB} (a:ZU op x y=some d):∃v,(Op.intCmp op x y).run P w=.ok v w/\AO β G d v:=by
 unfold ZU at a;split at a<;>cases a<;>exact⟨_,rfl,Es.2 rfl⟩
theorem Alh {op:BinOp} {k:IntKind} {x y:Int} {d:AB} (a:Yw op k x y=some d):∃v,(Op.intBits op k x y).run P w=.ok v w/\AO β G d v:=by
 unfold Yw at a;simp only at a;split at a<;>cases a<;>exact⟨_,rfl,DX.2 rfl⟩
theorem Al9 {op:BinOp} {k k':IntKind} {x y:Int} {d:AB} (a:Yk op k x y=some d):∃v,(Op.shift op k x k' y).run P w=.ok v w/\AO β G d v:=by
 unfold Yk at a;cases hy:decide (y<0)with
 | true=>rw[hy]at a;cases a
 | false =>
  rw[hy]at a;have hn:¬y<0:=by simpa using hy
  simp only[Ac]at a;split at a
  ·cases a;exact⟨_,by simp only[Op.shift,if_neg hn];rfl,DX.2 rfl⟩
  ·cases a;exact⟨_,by simp only[Op.shift,if_neg hn];rfl,DX.2 rfl⟩
  ·cases a
theorem AlL {op:BinOp} {k:IntKind} {x y:Int} {t:TypeId} {d:AB} (hs:R7 op=false) (a:Z2 op k x y=some d) :
  ∃v,(binOp op t (.int k x) (.int k y)).run P w=.ok v w/\AO β G d v:=by
 cases op<;>simp only[R7,Bool.true_eq_false]at hs<;>simp only[Z2]at a
 case add=>cases a;exact⟨_,by simp[binOp,Op.intArith],DX.2 rfl⟩
 case sub=>cases a;exact⟨_,by simp[binOp,Op.intArith],DX.2 rfl⟩
 case mul=>cases a;exact⟨_,by simp[binOp,Op.intArith],DX.2 rfl⟩
 case quo =>
  cases hy:y==0 with
  | true=>rw[hy]at a;cases a
  | false =>
   rw[hy]at a;have hn:¬y=0:=by simpa using hy
   cases a;exact⟨_,by simp only[binOp,Op.intDiv,if_neg hn];simp,DX.2 rfl⟩
 case rem =>
  cases hy:y==0 with
  | true=>rw[hy]at a;cases a
  | false =>
   rw[hy]at a;have hn:¬y=0:=by simpa using hy
   cases a;exact⟨_,by simp only[binOp,Op.intDiv,if_neg hn];simp,DX.2 rfl⟩
 all_goals first
  | (obtain⟨v,c,b⟩:=Alh (P:=P) (w:=w) (β:=β) (G:=G) a;exact⟨v,by simpa[binOp]using c,b⟩)
  | (obtain⟨v,c,b⟩:=AlB (P:=P) (w:=w) (β:=β) (G:=G) a;exact⟨v,by simpa[binOp]using c,b⟩)
theorem AlT {op:BinOp} {x y:ByteArray} {t:TypeId} {d:AB} (a:ZY op x y=some d):∃v,(binOp op t (.string x) (.string y)).run P w=.ok v w/\AO β G d v:=by
 cases op<;>simp only[ZY,reduceCtorEq]at a
 case add =>
  obtain⟨e,b⟩:=Ad a;cases b;have c:x.size+y.size<=1099511627776:=DF e;refine⟨_,?_,GO.2 rfl⟩;have hn:¬(((x.size+y.size:Nat):Int)>IntKind.i64.max):=by
   have:IntKind.i64.max=9223372036854775807:=by decide
   omega
  simp only[binOp,Op.stringOp,if_neg hn];rfl
 all_goals (cases a;exact⟨_,by simp only[binOp,Op.stringOp];rfl,Es.2 rfl⟩)
theorem UB {op:BinOp} {t:TypeId} {x y:Operand} {u v:Value} (a:u≠.nilIface) (b:∀cs,u≠.agg cs):(eqGuard op t x y u v).run P w=.ok () w:=by
 unfold eqGuard;cases u<;>first|exact absurd rfl a|exact absurd rfl (b _)|(cases op<;>rfl)
theorem Alm {op:BinOp} {t:TypeId} {x y:Operand} {u v:Array Value} (a:P.eqGuardType P.depth t=false):(eqGuard op t x y (.agg u) (.agg v)).run P w=.ok () w:=by
 unfold eqGuard;cases op<;>first|rfl|(simp[a,Cz])
theorem AkM {t:TypeId} (a:P.underlying t=some .bool) (d:Nat) (x y:Bool):(Op.equalIn (d+1) t (.bool x) (.bool y)).run P w=.ok (x==y) w:=by
 simp[Op.equalIn,C7 a]
theorem AkO {t e:TypeId} (a:P.underlying t=some (.slice e)) (d:Nat) (A:Addr) (n c:Nat):(Op.equalIn (d+1) t (.slice (some A) n c) (.slice none 0 0)).run P w=.ok false w:=by
 simp[Op.equalIn,C7 a]
theorem xZ {t e:TypeId} (a:P.underlying t=some (.slice e)) (A:Addr) (n c:Nat):(Op.equal t (.slice (some A) n c) (.slice none 0 0)).run P w=.ok false w :=
 AkO a 9999 A n c
theorem AkN {t:TypeId} {e:_} (c:P.underlying t=some (.interface e)) (d:Nat) (a:TypeId) (b:Value):(Op.equalIn (d+1) t (.iface a b) .nilIface).run P w=.ok false w:=by
 simp[Op.equalIn,C7 c]
theorem xY {t:TypeId} {d:_} (c:P.underlying t=some (.interface d)) (a:TypeId) (b:Value):(Op.equal t (.iface a b) .nilIface).run P w=.ok false w:=AkN c 9999 a b
theorem Al0 {t:TypeId} {e:_} (a:P.underlying t=some (.interface e)) (d:Nat):(Op.equalIn (d+1) t .nilIface .nilIface).run P w=.ok true w:=by
 simp[Op.equalIn,C7 a]
theorem iE {t:TypeId} {d:_} (a:P.underlying t=some (.interface d)):(Op.equal t .nilIface .nilIface).run P w=.ok true w:=Al0 a 9999
theorem Am1 (hE:∀t ti,E.ty t=some ti->Br P t ti) {op:BinOp} {t:TypeId} {x y:Operand} (hc:(Uv x||Uv y)=true) {d:AB} (b:oF E op t=some d) :
  ∃r,(do eqGuard op t x y .nilIface .nilIface;binOp op t .nilIface .nilIface:Sem Value).run P w=.ok r w/\AO β G d r:=by
 unfold oF at b;obtain⟨ti,ht,b⟩:=AD b;have a:=(hE t ti ht).desc;have e:(eqGuard op t x y .nilIface .nilIface).run P w=.ok () w:=by
  unfold eqGuard;cases op<;>first|rfl|(cases x<;>cases y<;>first|rfl|simp[Uv]at hc)
 split at b
 ·rename_i c _;rw[c]at a;obtain⟨i,a⟩:=a;cases b;exact⟨_,by rw[Cz,e];simp[Result.andThen,binOp,iE a],Es.2 rfl⟩
 ·rename_i c _;rw[c]at a;obtain⟨i,a⟩:=a;cases b;exact⟨_,by rw[Cz,e];simp[Result.andThen,binOp,iE a],Es.2 rfl⟩
 ·cases b
theorem xX {t:TypeId} (a:P.underlying t=some .bool) (x y:Bool):(Op.equal t (.bool x) (.bool y)).run P w=.ok (x==y) w :=
 AkM a 9999 x y
theorem Alz (hE:∀t ti,E.ty t=some ti->Br P t ti) {op:BinOp} {t:TypeId} {x y:Operand} {K I d:AB} {u v:Value} (f:Mh E op t K I=some d)
  (j:AO β G K u) (hy:AO β G I v):∃r,(do eqGuard op t x y u v;binOp op t u v:Sem Value).run P w=.ok r w/\AO β G d r:=by
 unfold Mh at f;split at f
 ·rename_i k n k' m;rw[DX]at j hy;subst j hy;have l:(eqGuard op t x y (.int k n) (.int k' m)).run P w=.ok () w:=UB (by simp) (by simp)
  cases hs:R7 op with
  | true =>
   rw[hs]at f;obtain⟨r,z,p⟩:=Al9 (P:=P) (w:=w) (β:=β) (G:=G) (k':=k') f;refine⟨r,?_,p⟩;rw[Cz,l];cases op<;>simp[R7]at hs<;>simpa[binOp,Result.andThen]using z
  | false =>
   rw[hs]at f;simp only[Ac]at f;obtain⟨i,U⟩:=Ad f;clear f;have i:k=k':=by simpa using i
   subst i;obtain⟨r,z,p⟩:=AlL (P:=P) (w:=w) (β:=β) (G:=G) (t:=t) hs U;refine⟨r,?_,p⟩;rw[Cz,l];simpa[Result.andThen]using z
 ·rename_i s s';rw[GO]at j hy;subst j hy;obtain⟨r,z,p⟩:=AlT (P:=P) (w:=w) (β:=β) (G:=G) (t:=t) f;refine⟨r,?_,p⟩;rw[Cz,UB (by simp) (by simp)]
  simpa[Result.andThen]using z
 ·rename_i b W;obtain⟨ti,ht,f⟩:=AD f;have g:=(hE t ti ht).desc;rw[Es]at j hy;subst j hy;have l:(eqGuard op t x y (.bool b) (.bool W)).run P w=.ok () w:=UB (by simp) (by simp)
  split at f
  ·rename_i i _;rw[i]at g;cases f;exact⟨_,by rw[Cz,l];simp[Result.andThen,binOp,xX g],Es.2 rfl⟩
  ·rename_i i _;rw[i]at g;cases f;exact⟨_,by rw[Cz,l];simp[Result.andThen,binOp,xX g],Es.2 rfl⟩
  ·cases f
 ·rename_i cs C;obtain⟨ti,ht,f⟩:=AD f;obtain⟨hc,f⟩:=Ad f;simp only[Ar]at hc;obtain⟨⟨a5,O⟩,J⟩:=hc;obtain⟨M,l⟩:=(hE t ti ht).Adh a5;rw[Hp]at j hy;obtain⟨CZ,rfl,j⟩:=j;obtain⟨D2,rfl,hy⟩:=hy;have Q:(eqGuard op t x y (.agg CZ.toArray) (.agg D2.toArray)).run P w=.ok () w:=Alm l;split at f
  ·obtain⟨r,z,p⟩:=AD f;cases p;have:=M cs C r z O J β G CZ D2 w j hy;exact⟨_,by rw[Cz,Q];simp[Result.andThen,binOp,this],Es.2 rfl⟩
  ·obtain⟨r,z,p⟩:=AD f;cases p;have:=M cs C r z O J β G CZ D2 w j hy;exact⟨_,by rw[Cz,Q];simp[Result.andThen,binOp,this],Es.2 rfl⟩
  ·cases f
 ·rename_i c cs;obtain⟨ti,ht,f⟩:=AD f;have g:=(hE t ti ht).desc;unfold AO at j;obtain⟨a,cp,⟨rfl,_⟩,h|⟨b,o,e,rfl,_⟩⟩:=j
  ·cases h
  rw[L1]at hy;subst hy;have l:(eqGuard op t x y (.slice (some ⟨b,o,none⟩) (c::cs).length cp) (.slice none 0 0)).run P w=.ok () w:=UB (by simp) (by simp)
  split at f
  ·rename_i i _;rw[i]at g;cases f;exact⟨_,by rw[Cz,l];simp[Result.andThen,binOp,xZ g],Es.2 rfl⟩
  ·rename_i i _;rw[i]at g;cases f;exact⟨_,by rw[Cz,l];simp[Result.andThen,binOp,xZ g],Es.2 rfl⟩
  ·cases f
 ·rename_i t' d';obtain⟨ti,ht,f⟩:=AD f;have g:=(hE t ti ht).desc;unfold AO at j hy;obtain⟨q,rfl,_⟩:=j;subst hy;have l:(eqGuard op t x y (.iface t' q) .nilIface).run P w=.ok () w:=UB (by simp) (by simp)
  split at f
  ·rename_i i _;rw[i]at g;obtain⟨Z,g⟩:=g;cases f;exact⟨_,by rw[Cz,l];simp[Result.andThen,binOp,xY g],Es.2 rfl⟩
  ·rename_i i _;rw[i]at g;obtain⟨Z,g⟩:=g;cases f;exact⟨_,by rw[Cz,l];simp[Result.andThen,binOp,xY g],Es.2 rfl⟩
  ·cases f
 ·cases f
end
end Go.Ab
namespace Go.Ab
open Go.RowKit
section
variable {P:Program} {E:Env} {w0:World} {G0:Aj} {D:CW} {o:Oper} {a:Act} {w:World} {β:BB} {G:Aj} {h:Nat->Option A8} {nid:Nat} {ρ:Nat->Option AB}
theorem An2 {op:UnOp} {e d:AB} {u:Value} (a:bA op e=some d) (b:AO β G e u):∃r,(Op.unary op u).run P w=.ok r w/\AO β G d r:=by
 unfold bA at a;split at a
 ·rw[DX]at b;subst b;split at a
  ·cases a;exact⟨_,by simp[Op.unary,Op.intArith],DX.2 rfl⟩
  ·cases a
 ·rw[Es]at b;subst b;split at a
  ·cases a;exact⟨_,by simp[Op.unary],Es.2 rfl⟩
  ·cases a
 ·cases a
theorem Am0 {x y d:AB} {u v:Value} (a:Ux x y=some d) (b:AO β G x u) (hy:AO β G y v):∃r,(Builtin.min2 u v).run P w=.ok r w/\AO β G d r:=by
 unfold Ux at a;split at a
 ·rw[DX]at b hy;subst b hy;cases a;refine⟨_,rfl,DX.2 ?_⟩;rename_i k x _ y
  by_cases hl:y<x<;>simp[hl]
 ·cases a
theorem AlZ {x y d:AB} {u v:Value} (a:Uw x y=some d) (b:AO β G x u) (hy:AO β G y v):∃r,(Builtin.max2 u v).run P w=.ok r w/\AO β G d r:=by
 unfold Uw at a;split at a
 ·rw[DX]at b hy;subst b hy;cases a;refine⟨_,rfl,DX.2 ?_⟩;rename_i k x _ y
  by_cases hl:y>x<;>simp[hl]
 ·cases a
theorem iO {f:AB->AB->Option AB} {g:Value->Value->Sem Value}
  (a:∀{x y d:AB} {u v:Value},f x y=some d->AO β G x u->AO β G y v->∃r,(g u v).run P w=.ok r w/\AO β G d r) :
  ∀{ds:List AB} {vs:List Value} {x d:AB} {u:Value},M9 f x ds=some d->AO β G x u->Ae β G ds vs->∃r,(vs.foldlM g u).run P w=.ok r w/\AO β G d r
 | [],vs,x,d,u,l,q,hl=>by
  rw[CU]at hl;subst hl;simp only[M9,Bc]at l;subst l;exact⟨u,rfl,q⟩
 | y::ds,vs,x,d,u,l,q,hl=>by
  obtain⟨v,C,rfl,hy,hl⟩:=CE.1 hl;simp only[M9]at l;obtain⟨z,i,b⟩:=AD l;obtain⟨r,c,h⟩:=a i q hy;obtain⟨r',j,e⟩:=iO a b h hl;exact⟨r',by simp[List.foldlM_cons,Cz,c,j],e⟩
theorem Aac {t:TypeId} {ti:By} (ht:Br P t ti) (b:ti.k≠.other) {cs:List AB} {vs:List Value} {off:Nat} {d:AB} (hc:Ae β G cs vs) (a:Gk ti cs off=some d) :
  ∃r,(part t vs.toArray off).run P w=.ok r w/\AO β G d r:=by
 unfold Gk at a;unfold part;rw[Cz,ht.Ai2 b];cases i:ti.isAgg with
 | true =>
  rw[i]at a;simp only[AY]at a;obtain⟨_,a⟩:=Ad a;cases a;refine⟨.agg (((vs.drop off).take ti.size)).toArray,?_,Hp.2 ⟨_,rfl,J5 _ (J4 _ hc)⟩⟩;simp[Result.andThen,ht.run_sizeOf]
 | false =>
  rw[i]at a;simp only[Ac]at a;obtain⟨v,e,c⟩:=RV hc a;exact⟨v,by simp[Result.andThen,e],c⟩
theorem hL {t:TypeId} {ti:By} (ht:Br P t ti) (m:ti.k≠.other) {cs:List AB} {vs:List Value} {b o:Nat} {n:Nat} {d:AB} (hc:Ae β G cs vs)
  (a:∀j v,vs[j]? = some v->w.cell? ⟨b,o+j,none⟩=some v) (c:Gk ti cs n=some d):∃r,(loadVar t ⟨b,o+n,none⟩).run P w=.ok r w/\AO β G d r:=by
 unfold Gk at c;unfold loadVar;rw[Cz,ht.Ai2 m];cases q:ti.isAgg with
 | true =>
  rw[q]at c;simp only[AY]at c;obtain⟨f,c⟩:=Ad c;cases c;have f:n+ti.size<=cs.length:=DF f;have hl:=FR hc;have e:=run_loadCells_list (P:=P) w ⟨b,o+n,none⟩ ((vs.drop n).take ti.size) (fun j v h=>by
   rw[HI];have i:vs[n+j]? = some v:=by
    rw[List.getElem?_take]at h;split at h
    ·simpa using h
    ·cases h
   rw[show o+n+j=o+(n+j) by omega]
   exact a _ _ i)
  have g:((vs.drop n).take ti.size).length=ti.size:=by simp;omega
  rw[g]at e;exact⟨_,by simp[Result.andThen,Cz,ht.run_sizeOf,e],Hp.2 ⟨_,rfl,J5 _ (J4 _ hc)⟩⟩
 | false =>
  rw[q]at c;simp only[Ac]at c;obtain⟨v,p,l⟩:=RV hc c;exact⟨v,by simp[Result.andThen,load,Sem.run,a _ _ p],l⟩
theorem Abn:∀{es:List (List AB)} {i e:Nat} {c:List AB},(∀x∈es,x.length=e)->es[i]? = some c->(es.flatten.drop (i*e)).take e=c
 | [],i,e,c,_,h=>by simp at h
 | x::es,0,e,c,d,h=>by
  simp at h;subst h;have:=d x (by simp)
  simp[this]
 | x::es,i+1,e,c,d,h=>by
  have a:=d x (by simp)
  have:=Abn (es:=es) (i:=i) (e:=e) (c:=c) (fun y hy=>d y (by simp[hy])) (by simpa using h)
  rw[<-this,List.flatten_cons,Nat.add_mul,Nat.one_mul];rw[show i*e+e=x.length+i*e by omega,List.drop_append,G9 (as:=x) (by omega)]
  simp
theorem Aa4 (hE:∀t ti,E.ty t=some ti->Br P t ti) (hh:Ax E w0 G0 D w β G h) {t:TypeId} {ti:By} (ht:Br P t ti) (M:ti.k≠.other) {Z d:AB} {u:Value} (C:AO β G Z u) (a:I8 ti h Z=some d) :
  ∃r,(Instr.loadAt t u).run P w=.ok r w/\AO β G d r:=by
 unfold I8 at a;split at a
 ·rename_i id off;obtain⟨b,hb,rfl⟩:=Ja.1 C;obtain⟨ob,A5,a⟩:=AD a;split at a
  ·rename_i t' cs;obtain⟨b',vs,q,y,I,z,h5⟩:=hh.obj id _ A5;rw[hb]at q;cases q;obtain⟨r,Q,h7⟩:=hL (w:=w) ht M (b:=b) (o:=0) (n:=off) I (fun j v s=>by
    rw[Nat.zero_add,cell_of_row w b j vs t' (0,0) y];simpa using s) a
   rw[Nat.zero_add]at Q;exact⟨r,by simp[Instr.loadAt,Instr.sureAddr,Q],h7⟩
  ·cases a
 ·rename_i id v i e off;obtain⟨b,m,c,hb,rfl⟩:=MX.1 C;obtain⟨ob,A5,a⟩:=AD a;split at a
  ·rename_i t' es p uu;obtain⟨Hh,hc,a⟩:=AD a;obtain⟨O,K⟩:=Ad a;clear a;simp only[Ar]at O;have hu:uu=v:=Al O.1;have U:Hh.length=e:=Al O.2;subst hu;obtain⟨Am,W,q,y,I,z,h5,Q,h7⟩:=hh.obj id _ A5;rw[hb]at q;cases q;have J:e=E0 E t':=by rw[<-U];exact(z Hh (List.mem_of_getElem? hc)).1
   have f:=y.cells (g:=b) rfl;have l:=J5 e (J4 (i*e) I);rw[Abn (e:=e) (fun x C=>by rw[J];exact(z x C).1) hc]at l
   obtain⟨r,h8,h9⟩:=hL (w:=w) ht M (b:=b) (o:=i*e) (n:=off) l (fun j v s=>by
    have:=f (i*e+j) v (by
     rw[List.getElem?_take]at s;split at s
     ·simpa using s
     ·cases s)
    rwa [HI,Nat.zero_add]at this) K
   exact⟨r,by simp[Instr.loadAt,Instr.sureAddr,h8],h9⟩
  ·cases a
 ·rename_i cs;obtain⟨_,b,off,rfl,hp⟩:=N9.1 C;obtain⟨vs,q,y⟩:=lE hh.agree cs off hp;obtain⟨r,I,z⟩:=hL (w:=w) ht M (b:=b) (o:=off) (n:=0) q y a;exact⟨r,by simp[Instr.loadAt,Instr.sureAddr];exact I,z⟩
 ·cases a
theorem YQ:∀{cs:List AB} {b o:Nat} (n:Nat),D7 β G b o cs->D7 β G b (o+n) (cs.drop n)
 | [],_,_,n,_=>by simp[D7]
 | _::_,_,_,0,h=>h
 | c::cs,b,o,n+1,h=>by
  unfold D7 at h;have:=YQ n h.2;rw[show o+(n+1)=o+1+n by omega]
  exact this
theorem zD:∀{cs:List AB} (n:Nat),B4 cs=true->B4 (cs.drop n)=true
 | [],n,_=>by simp[B4]
 | _::_,0,h=>h
 | c::cs,n+1,h=>by
  have h':BW c=true/\B4 cs=true:=by simpa[B4]using h
  exact zD n h'.2
theorem yE {i d:AB} {u:Value} {n:Nat} (e:AO β G i u) (a:J8 i n=some d):∃b,u=.pointer (some b)/\AO β G d (.pointer (some (b.add n))):=by
 unfold J8 at a;split at a
 ·obtain⟨b,hb,rfl⟩:=Ja.1 e;cases a;exact⟨_,rfl,Ja.2 ⟨b,hb,by rw[HI]⟩⟩
 ·obtain⟨b,m,c,hb,rfl⟩:=MX.1 e;cases a;exact⟨_,rfl,MX.2 ⟨b,m,c,hb,by rw[HI,Nat.add_assoc]⟩⟩
 ·obtain⟨hf,b,off,rfl,f⟩:=N9.1 e;cases a;exact⟨_,rfl,N9.2 ⟨zD n hf,b,off+n,by rw[HI],YQ n f⟩⟩
 ·cases a
theorem zC {t:TypeId} {ti:By} (ht:Br P t ti) {fs:List (Nat×Nat)} (b:ti.k=.struct fs) {f l off:Nat} (hf:fs[f]? = some (l,off)) :
  ∃e i,P.underlying t=some (.struct e)/\e[f]? = some i/\i.type=l/\i.offset=off:=by
 have a:=ht.desc;rw[b]at a;obtain⟨e,d,c,_⟩:=a;rw[<-c,List.getElem?_map]at hf;cases j:e.toList[f]? with
 | none=>rw[j]at hf;cases hf
 | some i =>
  rw[j]at hf;simp only[As,Bc,Prod.mk.injEq]at hf;exact⟨e,i,d,by simpa using j,hf.1,hf.2⟩
theorem AkX (hE:∀t ti,E.ty t=some ti->Br P t ti) {t:TypeId} {ti:By} (ht:Br P t ti) {fs:List (Nat×Nat)} (j:ti.k=.struct fs) {f C off:Nat} (hf:fs[f]? = some (C,off))
  {q:By} (c:E.ty C=some q) (hs:0<q.size) {I d:AB} {u:Value} (i:AO β G I u) (e:J8 I off=some d) :
  ∃r,(Instr.fieldAt t u f).run P w=.ok r w/\AO β G d r:=by
 obtain⟨z,K,m,g,h,l⟩:=zC ht j hf;obtain⟨b,rfl,AH⟩:=yE i e;have J:=(hE C q c).run_sizeOf w;refine⟨_,?_,AH⟩;have a:(sizeOf K.type).run P w=.ok q.size w:=by rw[h];exact J
 have hn:q.size≠0:=by omega
 simp[Instr.fieldAt,Cz,C7 m,g,Instr.sureAddr,fieldPlace,a,hn,l]
end
end Go.Ab
namespace Go.Ab
open Go.RowKit
section
variable {P:Program} {E:Env} {w0:World} {G0:Aj} {D:CW} {o:Oper} {a:Act} {w:World} {β:BB} {G:Aj} {h:Nat->Option A8} {nid:Nat} {ρ:Nat->Option AB}
theorem AlR:∀(cs:List AB) (n:Nat),Er cs n []=cs
 | [],0=>rfl
 | [],_+1=>rfl
 | _::_,0=>rfl
 | _::_,_+1=>rfl
theorem KB:∀(cs:List AB) (n:Nat) (vs:List AB),n+vs.length<=cs.length->Er cs n vs=cs.take n++vs++cs.drop (n+vs.length)
 | cs,n,[],_=>by rw[AlR];simp
 | [],n,v::vs,h=>by simp at h
 | c::cs,0,v::vs,h=>by
  have:=KB cs 0 vs (by simp at h⊢;omega)
  simp only[Er,this];simp
 | c::cs,n+1,v::vs,h=>by
  have:=KB cs n (v::vs) (by simp at h⊢;omega)
  simp only[Er,this];simp[show n+1+(vs.length+1)=n+(vs.length+1)+1 by omega]
theorem iG (w:World) (g:Nat) (cs:Array Value) {k:Nat} (a:k≠g):(w.setRow g cs).heap[k]? = w.heap[k]? := by
 simp only[World.setRow,Array.getElem?_modify];rw[if_neg (fun e=>a e.symm)]
theorem y6 {B:Nat} {x w:World} (hb:Below B x w) {g:Nat} (b:B<=g) (cs:Array Value):Below B x (w.setRow g cs) :=
 hb.trans ⟨rfl,rfl,rfl,by simp,fun k a=>iG w g cs (by omega)⟩
theorem yY {t:TypeId} {ti:By} (ht:Br P t ti) {v:Value} (hl:v.cells.size=ti.size) (b n:Nat) {vs:Array Value} {t':TypeId} (f:w.heap[b]? = some (.cells vs t' (0,0)))
  (d:n+ti.size<=vs.size) (e:∀x∈v.cells.toList,x.oneCell'=true) :
  (Instr.storeAt t (.pointer (some ⟨b,n,none⟩)) v).run P w=.ok () (w.setRow b (vs.toList.take n++v.cells.toList++vs.toList.drop (n+v.cells.toList.length)).toArray):=by
 have hs:=ht.run_sizeOf w;have a:=run_storeCells_at P b n t' v.cells.toList 0 vs w f (by simp;omega) e
 have c:¬v.cells.size≠ti.size:=by omega
 simp only[Instr.storeAt,Instr.sureAddr,storeVar,Cz,Sem.run_pure,Result.andThen_ok,hs,c,if_false];simpa using a
theorem AlP (xs cs:List AB) (n:Nat) (vs:List AB) (h:n+vs.length<=cs.length):Er (xs++cs) (xs.length+n) vs=xs++Er cs n vs:=by
 rw[KB _ _ _ (by rw[List.length_append];omega),KB _ _ _ h,List.take_length_add_append,show xs.length+n+vs.length=xs.length+(n+vs.length) by omega,List.drop_length_add_append]
 simp
theorem AlE (cs ds:List AB) (n:Nat) (vs:List AB) (h:n+vs.length<=cs.length):Er (cs++ds) n vs=Er cs n vs++ds:=by
 rw[KB _ _ _ (by rw[List.length_append];omega),KB _ _ _ h,List.take_append_of_le_length (by omega),List.drop_append_of_le_length h]
 simp
theorem AlQ (cs:List AB) (n:Nat) (vs:List AB) (h:n+vs.length<=cs.length):(Er cs n vs).length=cs.length:=by
 rw[KB _ _ _ h];simp;omega
theorem zH {e:Nat}:∀{es:List (List AB)} {i:Nat} {c:List AB} (vs:List AB) {off:Nat},(∀y∈es,y.length=e)->es[i]? = some c->off+vs.length<=e →
  (es.set i (Er c off vs)).flatten=Er es.flatten (i*e+off) vs
 | [],i,c,vs,off,_,h,_=>by simp at h
 | x::es,0,c,vs,off,d,h,hl=>by
  simp only[List.getElem?_cons_zero,Bc]at h;subst h;rw[List.set_cons_zero,List.flatten_cons,List.flatten_cons,Nat.zero_mul,Nat.zero_add,AlE _ _ _ _ (by rw[d x (by simp)];exact hl)]
 | x::es,i+1,c,vs,off,d,h,hl=>by
  have b:x.length=e:=d x (by simp)
  have hc:es[i]? = some c:=by simpa using h
  have ih:=zH vs (fun y hy=>d y (by simp[hy])) hc hl
  rw[List.set_cons_succ,List.flatten_cons,List.flatten_cons,ih,show(i+1)*e+off=x.length+(i*e+off) by rw[b,Nat.succ_mul];omega,AlP]
  have AA:i<es.length:=(OE.1 hc).1;have a:es.flatten.length=es.length*e:=by
   have:∀(l:List (List AB)),(∀y∈l,y.length=e)->l.flatten.length=l.length*e:=fun l=>by
    induction l with
    | nil=>intro _;simp
    | cons y l ih=>intro hl;rw[List.flatten_cons,List.length_append,ih (fun z j=>hl z (by simp[j])),hl y (by simp),List.length_cons,Nat.succ_mul];omega
   exact this es fun y hy=>d y (by simp[hy])
  rw[a];have:=Nat.mul_le_mul_right e AA;rw[Nat.succ_mul]at this;omega
theorem Ank {α:Type} (d V:List α) (k N:Nat) (b:k+V.length<=N) (c:N<=d.length) :
  List.take N (d.take k++V++d.drop (k+V.length))=(d.take N).take k++V++(d.take N).drop (k+V.length):=by
 have a:(d.take k).length=k:=by rw[List.length_take];omega
 have AS:(d.take N).take k=d.take k:=by rw[List.take_take,Nat.min_eq_left (by omega)]
 have BG:(d.take N).drop (k+V.length)=(d.drop (k+V.length)).take (N-(k+V.length)):=List.drop_take;rw[AS,BG,List.take_append,List.length_append,a,List.take_of_length_le (l:=d.take k++V) (by rw[List.length_append,a];exact b)]
theorem MS:∀{cs:List AB},B4 cs=true↔∀c∈cs,BW c=true
 | []=>by simp[B4]
 | c::cs=>by simp[B4,MS (cs:=cs)]
theorem AlF (hh:Ax E w0 G0 D w β G h) {t:TypeId} {ti:By} (ht:Br P t ti) {da AI:AB} {u v:Value} (a:AO β G da u) (hy:AO β G AI v) {us:List (Nat×Option A8)}
  (d:Nb ti h da AI=some us):∃w',(Instr.storeAt t u v).run P w=.ok () w'/\Ax E w0 G0 D w' β G (BY h us)/\Fs β β h (BY h us) nid:=by
 unfold Nb at d;obtain⟨hq,d⟩:=Ad d;simp only[Ar]at hq;have a5:(cellsOf AI).length=ti.size:=Al hq.1;have hcs:=UN hy;have a7:v.cells.size=ti.size:=by have:=FR hcs;simp at this;omega
 have a1:∀x∈v.cells.toList,x.oneCell'=true:=Xk hq.2 hcs;have k:∀{id:Nat} {o':A8} {o:A8},h id=some o->Fs β β h (BY h [(id,some o')]) nid:=fun {id o' o} f i _ hf=>by
  refine⟨?_,rfl,fun _=>rfl⟩;rw[EV]
  by_cases e:i=id
  ·subst e;rw[hf]at f;cases f
  ·rw[if_neg e];exact hf
 split at d
 ·rename_i id off _;obtain⟨b,hb,rfl⟩:=Ja.1 a;obtain⟨ob,f,d⟩:=AD d;split at d
  ·rename_i t' cs;obtain⟨r,d⟩:=Ad d;cases d;have r:off+ti.size<=cs.length:=DF r;obtain⟨b',vs,h1,h2,U,s,h5⟩:=hh.obj id _ f;rw[hb]at h1;cases h1;have c6:vs.size=cs.length:=by have:=FR U;simpa using this
   refine⟨_,yY ht a7 b off h2 (by omega) a1,?_,k f⟩
   have a0:=KB cs off (cellsOf AI) (by omega)
   refine hh.move (fun x=>x=b) id _ (Ext.refl β G) (y6 hh.below (hh.own id _ b f hb).1 _) (fun x a _=>iG w b _ a) (fun _ _=>rfl) (by simp) ?_ ?_ ?_ ?_ ?_ ?_ (fun _ _=>⟨rfl,fun _=>rfl⟩)
   ·rintro x rfl;exact⟨(hh.own id _ _ f hb).1,(hh.own id _ _ f hb).2.2⟩
   ·rintro x J Bs rfl O Q;exact hh.inj J id Bs _ _ O f Q hb
   ·rintro x rfl n y hg;rw[h5]at hg;cases hg
   ·refine⟨b,_,hb,setRow_heap w b vs _ t' (0,0) h2,?_,?_,h5⟩
    ·rw[a0];simp only[FV];refine JA.2 ⟨_,_,rfl,J5 _ U,JA.2 ⟨_,_,rfl,hcs,?_⟩⟩;have:v.cells.toList.length=(cellsOf AI).length:=FR hcs;rw[this];exact J4 _ U
    ·rw[a0];simp only[List.all_append,Ar];refine⟨⟨?_,hq.2⟩,?_⟩
     ·rw[List.all_eq_true]at s⊢;exact fun x a=>s x (List.mem_of_mem_take a)
     ·rw[List.all_eq_true]at s⊢;exact fun x a=>s x (List.mem_of_mem_drop a)
   ·intro x a;exact .inr ⟨_,f,a⟩
   ·intro x a;have:=(hh.own id _ x f a).2.1;simpa using this
  ·cases d
 ·rename_i id b1 i e off _;obtain⟨b,m,c,hb,rfl⟩:=MX.1 a;obtain⟨ob,f,d⟩:=AD d;split at d
  ·rename_i t' es p uu;obtain⟨Hh,hc,d⟩:=AD d;obtain⟨a6,b2⟩:=Ad d;clear d;cases b2;simp only[Ar]at a6;obtain⟨⟨⟨⟨hu,M⟩,W⟩,l⟩,r⟩:=a6;have hu:uu=b1:=Al hu;have M:Hh.length=e:=Al M;have W:p=0:=Al W;have r:off+ti.size<=Hh.length:=DF r;subst hu W;obtain⟨Am,C,h1,h2,U,s,h5,h6,h7⟩:=hh.obj id _ f;rw[hb]at h1;cases h1;have a2:e=E0 E t':=by rw[<-M];exact(s Hh (List.mem_of_getElem? hc)).1
   have AA:i<es.length:=(OE.1 hc).1;have b6:=zH (e:=e) (off:=off) (cellsOf AI) (fun y hy=>by rw[a2];exact(s y hy).1) hc (by omega)
   rcases h2.2 with⟨AS,_⟩|⟨g,c8,K,AS,b0,a3,a8,b8,Z,b7⟩
   ·cases AS
   ·cases AS;have a5:C.length=es.length*E0 E t':=h2.1;have b5:es.flatten.length=C.length:=(FR U).symm;have b3:=Nat.mul_le_mul_right e AA;rw[Nat.succ_mul]at b3;have c7:=Nat.mul_le_mul_right e a8;have j:Cc β id (.row t' es 0 uu) b:=⟨_,_,hb⟩;have a4:∀o,G b o=none:=fun o=>h6 b rfl o (by simp[Jq])
    have b4:v.cells.toList.length=(cellsOf AI).length:=FR hcs;have b9:es.length*E0 E t'=es.length*e:=by rw[a2]
    have q:c*E0 E t'=c*e:=by rw[a2]
    refine⟨_,yY ht a7 b (i*e+off) a3 (by rw[Z,q];omega) a1,?_,k f⟩
    have a0:=KB es.flatten (i*e+off) (cellsOf AI) (by omega)
    refine hh.move (fun x=>x=b) id _ (Ext.refl β G) (y6 hh.below b0 _) (fun x a _=>iG w b _ a) (fun _ _=>rfl) (by simp) ?_ ?_ ?_ ?_ ?_ ?_ (fun _ _=>⟨rfl,fun _=>rfl⟩)
    ·rintro x rfl;exact⟨(hh.own id _ _ f j).1,(hh.own id _ _ f j).2.2⟩
    ·rintro x J Bs rfl O Q;exact hh.inj J id Bs _ _ O f Q j
    ·rintro x rfl n y hg;rw[a4]at hg;cases hg
    ·refine⟨_,C.take (i*e+off)++v.cells.toList++C.drop (i*e+off+v.cells.toList.length),hb,⟨?_,.inr ⟨b,c,_,?_,b0,setRow_heap w b K _ t' (0,0) a3,?_,b8,?_,?_⟩⟩,?_,?_,⟨h5.1,PV _ _⟩,fun b' a9 o _=>?_,h7⟩
     ·simp only[List.length_append,List.length_take,List.length_drop,List.length_set];omega
     ·rw[List.length_set]
     ·rw[List.length_set];exact a8
     ·simp only[List.size_toArray,List.length_append,List.length_take,List.length_drop,Array.length_toList];omega
     ·rw[List.length_set,<-b7];have c0:K.toList.length=c*e:=by rw[Array.length_toList,Z,q]
      exact Ank K.toList v.cells.toList (i*e+off) _ (by omega) (by omega)
     ·rw[b6,a0];simp only[FV];refine JA.2 ⟨_,_,rfl,J5 _ U,JA.2 ⟨_,_,rfl,hcs,?_⟩⟩;rw[b4];exact J4 _ U
     ·intro y hy;rcases List.mem_or_eq_of_mem_set hy with hy|rfl
      ·exact s y hy
      ·obtain⟨BI,BD,B9⟩:=s Hh (List.mem_of_getElem? hc);refine⟨by rw[AlQ _ _ _ (by omega)];exact BI,?_,?_⟩
       ·rw[MS]at BD l⊢;rw[KB _ _ _ (by omega)]
        intro z I;simp only[List.mem_append]at I;rcases I with(I|I)|I
        ·exact BD z (List.mem_of_mem_take I)
        ·exact l z I
        ·exact BD z (List.mem_of_mem_drop I)
       ·rw[KB _ _ _ (by omega)]
        simp only[List.all_append,Ar];refine⟨⟨?_,hq.2⟩,?_⟩
        ·rw[List.all_eq_true]at B9⊢;exact fun x a=>B9 x (List.mem_of_mem_take a)
        ·rw[List.all_eq_true]at B9⊢;exact fun x a=>B9 x (List.mem_of_mem_drop a)
     ·simp only[Value.ownBlock,Bc]at a9;subst a9;exact a4 o
    ·rintro x ⟨n',c',a⟩;rw[hb]at a;cases a;exact .inl rfl
    ·rintro x ⟨n',c',a⟩;rw[hb]at a;cases a;have:=(hh.own id _ _ f j).2.1;simpa using this
  ·cases d
 ·cases d
theorem AaM (hh:Ax E w0 G0 D w β G h) (hf:C3 β h nid) {t:TypeId} {cs:List AB} {vs:Array Value} (AH:Ae β G cs vs.toList) (hc:cs.all Ct=true) :
  ∃β',Ext β G β' G/\β'.BE nid=some w.heap.size/\Ax E w0 G0 D (w.alloc (.cells vs t)) β' G (BY h [(nid,some (.cells t cs))])/\Fs β β' h (BY h [(nid,some (.cells t cs))]) nid:=by
 refine hh.lay hf (.cells vs t) (.cells t cs) rfl (fun β' d hb=>?_);exact⟨w.heap.size,vs,hb,heap_alloc_new w _,Ae.mono d _ _ AH,hc,fun o=>Mv hh (Nat.le_refl _) o⟩
theorem Aag (t:TypeId) (v:Value):(newVar t v).run P w=.ok ⟨w.heap.size,0,none⟩ (w.alloc (.cells v.cells t)):=by
 rfl
theorem Ale (hh:Ax E w0 G0 D w β G h) (hf:C3 β h nid) {t:TypeId} {ti:By} (ht:Br P t ti) (f:o.op=.alloc t) :
  De P E w0 G0 D o a w β G h nid ⟨some (.ptr nid 0),[(nid,some (.cells t ti.zero))]⟩:=by
 obtain⟨z,i,_,AH⟩:=ht.Ai3 w;obtain⟨β',g,hb,b,e⟩:=AaM (t:=t) hh hf (AH β G) ht.Aif;refine⟨.value (.pointer (some ⟨w.heap.size,0,none⟩)),_,w.alloc (.cells z.cells t),β',G,?_,.inl rfl,?_,g,b,e⟩
 ·unfold execOp;rw[f];simp[Instr.alloc,Cz,i,Aag]
 ·intro d c;cases c;exact Ja.2 ⟨_,hb,rfl⟩
theorem Amc (hh:Ax E w0 G0 D w β G h) (hf:C3 β h nid) {t:TypeId} {x:Operand} {d:AB} (g:o.op=.box t x) (i:AO β G d (a.eval x)) (hc:(cellsOf d).all Ct=true) :
  De P E w0 G0 D o a w β G h nid ⟨some (.ptr nid 0),[(nid,some (.cells t (cellsOf d)))]⟩:=by
 obtain⟨β',b,hb,c,f⟩:=AaM (t:=t) hh hf (UN i) hc;refine⟨.value (.pointer (some ⟨w.heap.size,0,none⟩)),_,w.alloc (.cells (a.eval x).cells t),β',G,?_,.inl rfl,?_,b,c,f⟩
 ·unfold execOp;rw[g];simp[Instr.box,Aag]
 ·intro d e;cases e;exact Ja.2 ⟨_,hb,rfl⟩
end
end Go.Ab
namespace Go.Ab
open Go.RowKit
section
variable {P:Program} {E:Env} {w0:World} {G0:Aj} {D:CW} {o:Oper} {a:Act} {w:World} {β:BB} {G:Aj} {h:Nat->Option A8} {nid:Nat} {ρ:Nat->Option AB}
theorem Abo:∀(d:List Value) (off k:Nat) (cells:Array Value),off+k+d.length<=cells.size →
  ((d.zipIdx k).foldl (fun cs (c,j)=>cs.setIfInBounds (off+j) c) cells).toList=cells.toList.take (off+k)++d++cells.toList.drop (off+k+d.length)
 | [],off,k,cells,_=>by simp
 | u::d,off,k,cells,h=>by
  have ih:=Abo d off (k+1) (cells.setIfInBounds (off+k) u) (by simp at h⊢;omega)
  simp only[List.zipIdx_cons,List.foldl_cons];rw[ih];have:=list_seg_step cells.toList (off+k) u d (by simp at h⊢;omega)
  simpa[Array.toList_setIfInBounds,Nat.add_assoc]using this
theorem hU (d:Array Value) (off:Nat) (cells:Array Value) (h:off+d.size<=cells.size) :
  (d.zipIdx.foldl (fun cs (c,j)=>cs.setIfInBounds (off+j) c) cells).toList=cells.toList.take off++d.toList++cells.toList.drop (off+d.size):=by
 have:=Abo d.toList off 0 cells (by simpa using h)
 rw[<-Array.foldl_toList,Array.toList_zipIdx];simpa using this
def Na (β:BB) (G:Aj):List (Nat×AB)->List (Nat×Value)->Prop
 | [],AP=>AP=[]
 | (i,d)::ds,AP=>∃v e,AP=(i,v)::e/\AO β G d v/\Na β G ds e
theorem kE (hf:Dq β G ρ a.tmps):∀{AP:List (Nat×Operand)} {ds:List (Nat×AB)},Jd ρ AP=some ds->Na β G ds (AP.map fun(i,x)=>(i,a.eval x))
 | [],ds,b=>by simp only[Jd,Bc]at b;subst b;rfl
 | (i,x)::AP,ds,b=>by
  simp only[Jd]at b;obtain⟨d,e,b⟩:=AD b;obtain⟨j,c,f⟩:=AD b;cases f;exact⟨_,_,rfl,DP hf e,kE hf c⟩
theorem zQ {cs d:List AB} {vs xs:List Value} {off:Nat} (hc:Ae β G cs vs) (a:Ae β G d xs) (hl:off+d.length<=cs.length) :
  Ae β G (Er cs off d) (vs.take off++xs++vs.drop (off+xs.length)):=by
 rw[KB cs off d hl,FR a,FV,FV];exact JA.2 ⟨_,_,rfl,J5 _ hc,JA.2 ⟨_,_,rfl,a,J4 _ hc⟩⟩
theorem xT {size:Nat}:∀{ds:List (Nat×AB)} {AP:List (Nat×Value)} {cs q:List AB} {vs:Array Value},Na β G ds AP->Ae β G cs vs.toList →
  NZ size ds cs=some q->∃out,Instr.fill (fun i=>some (i*size,size)) vs AP=some out/\Ae β G q out.toList
 | [],AP,cs,q,vs,u,hc,a=>by
  simp only[Na]at u;subst u;simp only[NZ,Bc]at a;subst a;exact⟨vs,rfl,hc⟩
 | (i,d)::ds,_,cs,q,vs,⟨v,C,z,hv,u⟩,hc,a=>by
  subst z;simp only[NZ]at a;obtain⟨g,a⟩:=Ad a;simp only[Ar]at g;have p:(cellsOf d).length=size:=Al g.1;have o:i*size+size<=cs.length:=DF g.2;have f:=UN hv;have l:v.cells.size=size:=by have:=FR f;simp at this;omega
  have m:vs.size=cs.length:=by have:=FR hc;simpa using this
  have e:=zQ (off:=i*size) hc f (by omega)
  have h:=hU v.cells (i*size) vs (by omega)
  have b:Ae β G (Er cs (i*size) (cellsOf d)) (v.cells.zipIdx.foldl (fun cs (c,j)=>cs.setIfInBounds (i*size+j) c) vs).toList:=by
   rw[h];simpa using e
  obtain⟨out,k,n⟩:=xT u b a;refine⟨out,?_,n⟩;have hn:(v.cells.size≠size||i*size+v.cells.size>vs.size)=false:=by simp;omega
  simp only[Instr.fill,hn,CI,if_false];exact k
theorem xQ {fs:List (Nat×Nat)} (u:Nat->Option (Nat×Nat)) (e:∀i I off ti,fs[i]? = some (I,off)->E.ty I=some ti->u i=some (off,ti.size)) :
  ∀{ds:List (Nat×AB)} {AP:List (Nat×Value)} {cs z:List AB} {vs:Array Value},Na β G ds AP->Ae β G cs vs.toList →
  N5 fs E ds cs=some z->∃out,Instr.fill u vs AP=some out/\Ae β G z out.toList
 | [],AP,cs,z,vs,C,hc,a=>by
  simp only[Na]at C;subst C;simp only[N5,Bc]at a;subst a;exact⟨vs,rfl,hc⟩
 | (i,d)::ds,_,cs,z,vs,⟨v,K,J,hv,C⟩,hc,a=>by
  subst J;simp only[N5]at a;obtain⟨⟨I,off⟩,hf,a⟩:=AD a;obtain⟨ti,h,a⟩:=AD a;obtain⟨k,a⟩:=Ad a;simp only[Ar]at k;have r:(cellsOf d).length=ti.size:=Al k.1;have q:off+ti.size<=cs.length:=DF k.2;have g:=UN hv;have n:v.cells.size=ti.size:=by have:=FR g;simp at this;omega
  have o:vs.size=cs.length:=by have:=FR hc;simpa using this
  have f:=zQ (off:=off) hc g (by omega)
  have l:=hU v.cells off vs (by omega)
  have b:Ae β G (Er cs off (cellsOf d)) (v.cells.zipIdx.foldl (fun cs (c,j)=>cs.setIfInBounds (off+j) c) vs).toList:=by
   rw[l];simpa using f
  obtain⟨out,m,p⟩:=xQ u e C b a;refine⟨out,?_,p⟩;have hn:(v.cells.size≠ti.size||off+v.cells.size>vs.size)=false:=by simp;omega
  simp only[Instr.fill,e i I off ti hf h,hn,CI,if_false];exact m
theorem Abc {α γ:Type} {f:α->Option γ}:∀{l:List α} {r:List γ},l.mapM f=some r->∀{i:Nat} {x:α},l[i]? = some x->f x=r[i]?
 | [],_,_,i,x,d=>by simp at d
 | y::l,r,h,i,x,d=>by
  simp only[List.mapM_cons,Option.bind_eq_bind,Option.pure_def]at h;obtain⟨z,b,h⟩:=AD h;obtain⟨e,a,h⟩:=AD h;cases h;cases i with
  | zero=>simp at d;subst d;simpa using b
  | succ i=>simpa using Abc a (i:=i) (x:=x) (by simpa using d)
theorem Ali (hE:∀t ti,E.ty t=some ti->Br P t ti) (hf:Dq β G ρ a.tmps) {t:TypeId} {AP:Array (Nat×Operand)} {d:AB}
  (c:((E.ty t).bind fun ti=>(Jd ρ AP.toList).bind fun vs=>match ti.k with
   | .struct fs=>(N5 fs E vs ti.zero).bind fun cs=>ret (.agg cs)
   | .array _ e=>(E.ty e).bind fun J=>(NZ J.size vs ti.zero).bind fun cs=>ret (.agg cs)
   | _=>none)=some ⟨some d,[]⟩) :
  ∃r,(Instr.build t (AP.map fun(i,x)=>(i,a.eval x))).run P w=.ok r w/\AO β G d r:=by
 obtain⟨ti,p,c⟩:=AD c;obtain⟨vs,q,c⟩:=AD c;have ht:=hE t ti p;have M:=kE hf q;have h:(AP.map fun(i,x)=>(i,a.eval x)).toList=AP.toList.map fun(i,x)=>(i,a.eval x):=by simp
 obtain⟨it,z,y,h2,_,v,h5,O⟩:=ht.IB;split at c
 ·rename_i fs j;obtain⟨cs,hcs,c⟩:=AD c;cases c;have b:=ht.desc;rw[j]at b;obtain⟨I,W,l,C,g⟩:=b;obtain⟨out,m,o⟩:=xQ (E:=E) (fs:=fs) (fun i=>C.toArray[i]?) (fun i Q off U f u=>by
   rw[<-l,List.getElem?_map]at f;cases K:I.toList[i]? with
   | none=>rw[K]at f;cases f
   | some fd =>
    rw[K]at f;simp only[As,Bc,Prod.mk.injEq]at f;obtain⟨AS,BG⟩:=f;obtain⟨ii,zz,k1,k2,_⟩:=(hE Q U u).IB;have:=Abc g K;rw[AS,k1]at this;simp only[As,Bc]at this;simp[<-this,BG,k2]) M (O β G) hcs
  refine⟨.agg out,run_build w t _ out ?_,Hp.2 ⟨out.toList,by simp,o⟩⟩
  rw[h];simp only[Program.built,y,W,v,g];exact m
 ·rename_i n e j;obtain⟨J,s,c⟩:=AD c;obtain⟨cs,hcs,c⟩:=AD c;cases c;have b:=ht.desc;rw[j]at b;obtain⟨ie,Z,k1,k2,_⟩:=(hE e J s).IB;obtain⟨out,m,o⟩:=xT M (O β G) hcs;refine⟨.agg out,run_build w t _ out ?_,Hp.2 ⟨out.toList,by simp,o⟩⟩
  rw[h];simp only[Program.built,y,b,v,k1,k2];exact m
 ·cases c
end
end Go.Ab
namespace Go.Ab
open Go.RowKit
section
variable {P:Program} {E:Env} {w0:World} {G0:Aj} {D:CW} {w:World} {β:BB} {G:Aj} {h:Nat->Option A8}
def IP (G:Aj) (g:Nat) (d:List Value):Aj:=fun b o=>if b=g then(if o<d.length then d[o]? else G b o)else G b o
def IL (E:Env) (β:BB) (G:Aj) (h:Nat->Option A8) (id:Nat):Prop :=
 ∀t es p u,h id=some (.row t es p u)->∃Am,β.Am id u=some Am/\∃a c,(Am=.slice a es.length c/\es.length<=c)/\(es=[]\/∃b,a=some ⟨b,0,none⟩/\DD β G b (E0 E t) 0 es)
theorem iR {g:Nat}:∀{cs:List AB} {vs:List Value} {o:Nat},Ae β G cs vs->(∀j v,vs[j]? = some v->G g (o+j)=some v)->D7 β G g o cs
 | [],_,_,_,_=>by unfold D7;trivial
 | c::cs,_,o,AH,hv=>by
  obtain⟨v,e,rfl,d,b⟩:=CE.1 AH;unfold D7;refine⟨⟨v,by simpa using hv 0 v rfl,d⟩,iR b (fun j u a=>?_)⟩
  rw[show o+1+j=o+(j+1) by omega]
  exact hv (j+1) u (by simpa using a)
theorem iC {g e:Nat}:∀{es:List (List AB)} {vs:List Value} {o:Nat},Ae β G es.flatten vs->(∀c∈es,c.length=e/\B4 c=true/\c.all Ct=true)->(∀j v,vs[j]? = some v->G g (o+j)=some v)->DD β G g e o es
 | [],_,_,_,_,_=>by unfold DD;trivial
 | c::cs,_,o,AH,hc,hv=>by
  rw[List.flatten_cons]at AH;obtain⟨as,bs,rfl,f,h⟩:=JA.1 AH;obtain⟨hl,b⟩:=hc c (by simp)
  have i:=FR f;unfold DD;refine⟨hl,b,iR f (fun j v a=>hv j v ?_),iC h (fun x k=>hc x (by simp[k])) (fun j v a=>?_)⟩
  ·have d:j<as.length:=(OE.1 a).1;rw[List.getElem?_append_left d];exact a
  ·have:=hv (e+j) v (by rw[List.getElem?_append_right (by omega)];rw[show e+j-as.length=j by omega];exact a)
   rwa [show o+e+j=o+(e+j) by omega]
theorem Anf (hh:Ax E w0 G0 D w β G h) {id:Nat} {t:TypeId} {es:List (List AB)} {p u:Nat} (s:h id=some (.row t es p u)) :
  ∃G',Ext β G β G'/\Ax E w0 G0 D w β G' (BY h [(id,some (.row t es 1 u))])/\IL E β G' (BY h [(id,some (.row t es 1 u))]) id:=by
 obtain⟨Am,C,i,q,Z,O,W,h6,h7⟩:=hh.obj id _ s;rcases q.2 with⟨rfl,hn⟩|⟨g,I,a1,rfl,a3,a6,y,a5,a4,a2⟩
 ·have l:es=[]:=List.eq_nil_of_length_eq_zero hn;refine⟨G,Ext.refl β G,?_,fun t' U p' u' r=>?_⟩
  ·refine hh.move (fun _=>False) id _ (Ext.refl β G) hh.below (fun _ _ _=>rfl) (fun _ _=>rfl) (Nat.le_refl _) (fun _ hf=>hf.elim) (fun _ _ _ hf=>hf.elim) (fun _ hf=>hf.elim) ?_ ?_ ?_ (fun _ _=>⟨rfl,fun _=>rfl⟩)
   ·exact⟨_,C,i,q,Z,O,⟨W.1,PV _ _⟩,fun b hb=>by simp[Value.ownBlock]at hb,h7⟩
   ·rintro b ⟨n,c,hb⟩;rw[i]at hb;cases hb
   ·rintro b ⟨n,c,hb⟩;rw[i]at hb;cases hb
  ·rw[EV,if_pos rfl]at r;cases r;exact⟨_,i,none,0,⟨by rw[l];rfl,by rw[l];exact Nat.le_refl _⟩,.inl l⟩
 ·have f:Cc β id (.row t es p u) g:=⟨es.length,I,i⟩;obtain⟨J,Q,k⟩:=hh.own id _ g s f;have a0:C.length=es.length*E0 E t:=q.1;have a:=q.cells (g:=g) rfl;have x:Ext β G β (IP G g C):=⟨fun b o v d=>by
   unfold IP
   by_cases e:b=g
   ·rw[if_pos e]
    by_cases hl:o<C.length
    ·rw[if_pos hl];have:=hh.agree b o v d;subst e;have hc:=a o (C[o]) (by simp[hl])
     rw[HI,Nat.zero_add]at hc;rw[hc]at this;cases this;simp[hl]
    ·rw[if_neg hl];exact d
   ·rw[if_neg e];exact d,fun _ _ h=>h,fun _ _ _ h=>h⟩
  refine⟨IP G g C,x,?_,fun t' U p' u' r=>?_⟩
  ·refine hh.move (fun b=>b=g) id _ x hh.below (fun _ _ _=>rfl) (fun b hb=>by funext o;unfold IP;rw[if_neg hb]) (Nat.le_refl _) ?_ ?_ ?_ ?_ ?_ ?_ (fun _ _=>⟨rfl,fun _=>rfl⟩)
   ·rintro b rfl;exact⟨J,k⟩
   ·rintro b K Bs rfl M k;exact hh.inj K id Bs _ _ M s k f
   ·rintro b rfl o v d;unfold IP at d;rw[if_pos rfl]at d
    by_cases hl:o<C.length
    ·rw[if_pos hl]at d;have:=a o v d
     rwa [HI,Nat.zero_add]at this
    ·rw[if_neg hl]at d;exact hh.agree _ _ _ d
   ·refine⟨_,C,i,q,Ae.mono x _ _ Z,O,⟨W.1,PV _ _⟩,fun b hb o m=>?_,h7⟩;replace m:es.length*E0 E t<=o:=m;simp only[Value.ownBlock,Bc]at hb;subst hb;unfold IP;rw[if_pos rfl,if_neg (by omega)]
    refine h6 _ rfl o (Nat.le_trans ?_ m);exact Nat.mul_le_mul_right _ W.2
   ·intro b hb;exact .inr ⟨_,s,hb⟩
   ·rintro b ⟨n,c,hb⟩;rw[i]at hb;cases hb;exact Q
  ·rw[EV,if_pos rfl]at r;cases r;refine⟨_,i,_,I,⟨rfl,y⟩,.inr ⟨g,rfl,iC (Ae.mono x _ _ Z) O (fun j v hj=>?_)⟩⟩;have z:j<C.length:=(OE.1 hj).1;unfold IP;rw[if_pos rfl,Nat.zero_add,if_pos z];exact hj
theorem AaC (h:Nat->Option A8) (x:Nat×Option A8) (d:List (Nat×Option A8)) (i:Nat) :
  BY h (x::d) i=match DB i d with|some y=>y|none=>if i=x.1 then x.2 else h i:=by
 unfold BY;obtain⟨id,o⟩:=x;simp only[DB];cases j:DB i d with
 | some y=>rfl
 | none =>
  by_cases e:i=id
  ·subst e;simp
  ·have:Nat.beq id i=false:=by
    cases hb:Nat.beq id i with
    | false=>rfl
    | true=>exact absurd (Al hb).symm e
   simp[this,e]
theorem Kg (h:Nat->Option A8):∀(is:List Nat) (i:Nat) (y:Option A8),DB i (DE h is)=some y->∃t es p u,h i=some (.row t es p u)/\y=some (.row t es 1 u)
 | [],i,y,hy=>by simp[DE,DB]at hy
 | j::is,i,y,hy=>by
  simp only[DE]at hy;split at hy
  ·rename_i t es p u a;cases d:Nat.beq p 1 with
   | true=>rw[d]at hy;exact Kg h is i y (by simpa using hy)
   | false =>
   rw[d]at hy;simp only[Ac,List.singleton_append,DB]at hy;cases e:DB i (DE h is)with
   | some z =>
    rw[e]at hy;cases hy;exact Kg h is i y e
   | none =>
    rw[e]at hy;simp only at hy;cases hb:Nat.beq j i with
    | false=>rw[hb]at hy;cases hy
    | true =>
     rw[hb]at hy;cases hy;have:=Al hb;subst this;exact⟨t,es,p,u,a,rfl⟩
  ·exact Kg h is i y (by simpa using hy)
theorem IL.mono {β':BB} {G':Aj} {id:Nat} (e:Ext β G β' G') (hs:IL E β G h id):IL E β' G' h id:=fun t es p u f=>by
 obtain⟨Am,j,a,c,g,d⟩:=hs t es p u f;refine⟨Am,e.Am _ _ _ j,a,c,g,?_⟩;rcases d with d|⟨b,d,i⟩
 ·exact .inl d
 ·exact .inr ⟨b,d,DD.mono e _ _ _ _ i⟩
theorem N2 (hh:Ax E w0 G0 D w β G h):∀(is:List Nat),∃G',Ext β G β G'/\Ax E w0 G0 D w β G' (BY h (DE h is))/\∀i∈is,IL E β G' (BY h (DE h is)) i
 | []=>⟨G,Ext.refl β G,hh,fun i AA=>by cases AA⟩
 | j::is=>by
  obtain⟨M,m,q,g⟩:=N2 hh is;simp only[DE];split
  ·rename_i t es p u l
   have o:∃J,BY h (DE h is) j=some (.row t es J u):=by
    unfold BY;cases b:DB j (DE h is)with
    | none=>exact⟨p,l⟩
    | some y =>
     obtain⟨t',z,J,I,k1,k2⟩:=Kg h is j y b;rw[l]at k1;cases k1;exact⟨_,k2⟩
   obtain⟨J,a⟩:=o;obtain⟨K,d,r,k⟩:=Anf q a;cases f:Nat.beq p 1 with
   | true =>
    have f:p=1:=Al f;subst f;have n:J=1:=by
     unfold BY at a;cases b:DB j (DE h is)with
     | none=>rw[b]at a;simp only at a;rw[l]at a;cases a;rfl
     | some y =>
      obtain⟨t',z,C,I,k1,k2⟩:=Kg h is j y b;rw[b]at a;simp only at a;rw[k2]at a;cases a;rfl
    subst n;simp only[AY,List.nil_append];have c:∀i,BY h (DE h is) i=BY (BY h (DE h is)) [(j,some (.row t es 1 u))] i:=fun i=>by
     rw[EV]
     by_cases e:i=j
     ·rw[if_pos e,e];exact a
     ·rw[if_neg e]
    refine⟨K,m.trans d,r.eq c,fun i AA=>?_⟩;intro t' z C I b
    by_cases e:i=j
    ·subst e;exact k t' z C I ((c i).symm.trans b)
    ·rcases DK.1 AA with rfl|AA
     ·exact absurd rfl e
     ·exact(g i AA).mono d t' z C I b
   | false =>
   simp only[Ac];have c:∀i,BY h ([(j,some (.row t es 1 u))]++DE h is) i=BY (BY h (DE h is)) [(j,some (.row t es 1 u))] i:=fun i=>by
    rw[EV,List.singleton_append,AaC];unfold BY
    by_cases e:i=j
    ·subst e;rw[if_pos rfl];cases b:DB i (DE h is)with
     | none=>simp
     | some y =>
      obtain⟨t',z,J,I,k1,k2⟩:=Kg h is i y b;rw[l]at k1;cases k1;simp[k2]
    ·rw[if_neg e];cases b:DB i (DE h is)with
     | none=>simp[e]
     | some y=>simp[e]
   refine⟨K,m.trans d,r.eq c,fun i AA=>?_⟩;have s:IL E β K (BY (BY h (DE h is)) [(j,some (.row t es 1 u))]) i:=by
    rcases DK.1 AA with rfl|AA
    ·exact k
    ·intro t' z C I b;rw[EV]at b
     by_cases e:i=j
     ·subst e;exact k t' z C I (by rw[EV];exact b)
     ·rw[if_neg e]at b;exact(g i AA).mono d t' z C I b
   intro t' z C I b;rw[c i]at b;exact s t' z C I b
  ·rename_i l;refine⟨M,m,by simpa using q,fun i AA=>?_⟩
   rw[List.nil_append];rcases DK.1 AA with rfl|AA
   ·intro t es p u b;exfalso;unfold BY at b;cases hf:DB i (DE h is)with
    | none=>rw[hf]at b;exact l t es p u b
    | some y =>
     obtain⟨t',z,J,I,k1,_⟩:=Kg h is i y hf;exact l t' z J I k1
   ·exact g i AA
theorem RP {b e:Nat}:∀{es:List (List AB)} {off:Nat} (n:Nat),DD β G b e off es->DD β G b e off (es.take n)
 | [],_,n,_=>by simp[DD]
 | _::_,_,0,_=>by simp[DD]
 | x::es,off,n+1,h=>by
  unfold DD at h;simp only[List.take_succ_cons];unfold DD;exact⟨h.1,h.2.1,h.2.2.1,RP n h.2.2.2⟩
theorem RO {b e:Nat}:∀{es:List (List AB)} {off:Nat} (n:Nat),DD β G b e off es->DD β G b e (off+n*e) (es.drop n)
 | [],_,n,_=>by simp[DD]
 | _::_,_,0,h=>by simpa using h
 | x::es,off,n+1,h=>by
  unfold DD at h;have:=RO n h.2.2.2
  rwa [show off+e+n*e=off+(n+1)*e by rw[Nat.add_mul,Nat.one_mul];omega]at this
theorem Xb {b e e' o:Nat} {es:List (List AB)} (h:DD β G b e o es) (hl:∀c∈es,c.length=e'):es=[]\/DD β G b e' o es:=by
 cases es with
 | nil=>exact .inl rfl
 | cons c cs =>
  right;have d:=hl c (by simp)
  have a:c.length=e:=by unfold DD at h;exact h.1
  have:e=e':=by omega
  subst this;exact h
mutual
theorem R3 {h':Nat->Option A8} {G':Aj} (j:Ext β G β G') (g:∀i t es p u,h i=some (.row t es p u)->∃J,h' i=some (.row t es J u)) :
  ∀{d z:AB} {v:Value},BP h d=some z->(∀i∈B3 d,IL E β G' h' i)->AO β G d v->AO β G' z v/\BW z=true
 | .rs id C,z,v,e,hs,AH=>by
  simp only[BP]at e;obtain⟨K,q,e⟩:=AD e;split at e
  ·rename_i t es p u;obtain⟨n,e⟩:=Ad e;cases e;have n:u=C:=Al n;subst n;obtain⟨J,o⟩:=g _ _ _ _ _ q;obtain⟨Am,s,a,c,r,l⟩:=hs id (by simp[B3]) _ _ _ _ o
   obtain⟨m,_⟩:=IK.1 AH;rw[s]at m;cases m;refine⟨Km.2 ⟨a,c,r,?_⟩,rfl⟩;rcases l with l|⟨b,l,m⟩
   ·exact .inl l
   ·exact .inr ⟨b,0,_,l,m⟩
  ·cases e
 | .CV _ _ _ _ _,_,_,e,_,_=>by simp[BP,BW]at e
 | .EG _,_,_,e,_,_=>by simp[BP,BW]at e
 | .agg cs,z,v,e,hs,AH=>by
  simp only[BP]at e;obtain⟨I,hc,e⟩:=AD e;cases e;obtain⟨vs,rfl,k⟩:=Hp.1 AH;obtain⟨k1,k2⟩:=YL j g hc (by simpa[B3]using hs) k
  exact⟨Hp.2 ⟨vs,rfl,k1⟩,by simpa[BW]using k2⟩
 | .Ap cs,z,v,e,hs,AH=>by
  simp only[BP]at e;obtain⟨I,hc,e⟩:=AD e;cases e;obtain⟨vs,rfl,k⟩:=HU.1 AH;obtain⟨k1,k2⟩:=YL j g hc (by simpa[B3]using hs) k
  exact⟨HU.2 ⟨vs,rfl,k1⟩,by simpa[BW]using k2⟩
 | .iface t x,z,v,e,hs,AH=>by
  simp only[BP]at e;obtain⟨M,hc,e⟩:=AD e;cases e;unfold AO at AH;obtain⟨u,rfl,k⟩:=AH;obtain⟨k1,k2⟩:=R3 j g hc (by simpa[B3]using hs) k
  refine⟨?_,by simpa[BW]using k2⟩
  unfold AO;exact⟨u,rfl,k1⟩
 | .bool _,z,v,e,_,AH=>by simp only[BP,BW,AY,Bc]at e;subst e;exact⟨AO.mono j _ _ AH,rfl⟩
 | .int _ _,z,v,e,_,AH=>by simp only[BP,BW,AY,Bc]at e;subst e;exact⟨AO.mono j _ _ AH,rfl⟩
 | .str _,z,v,e,_,AH=>by simp only[BP,BW,AY,Bc]at e;subst e;exact⟨AO.mono j _ _ AH,rfl⟩
 | .Bu,z,v,e,_,AH=>by simp only[BP,BW,AY,Bc]at e;subst e;exact⟨AO.mono j _ _ AH,rfl⟩
 | .ptr _ _,z,v,e,_,AH=>by simp[BP,BW]at e
 | .CO _ _ _ _ _,z,v,e,_,AH=>by simp[BP,BW]at e
 | .CN _,z,v,e,_,AH=>by simp[BP,BW]at e
 | .Aq,z,v,e,_,AH=>by
  simp only[BP,Bc]at e;subst e;unfold AO at AH;exact⟨Km.2 ⟨none,0,⟨AH,Nat.le_refl _⟩,.inl rfl⟩,rfl⟩
 | .AR _,z,v,e,_,AH=>by simp only[BP,BW,AY,Bc]at e;subst e;exact⟨AO.mono j _ _ AH,rfl⟩
 | .fn f x c,z,v,e,_,AH=>by
  simp only[BP]at e;obtain⟨AA,e⟩:=Ad e;cases e;exact⟨AO.mono j _ _ AH,AA⟩
 | .A2,z,v,e,_,AH=>by simp only[BP,BW,AY,Bc]at e;subst e;exact⟨AO.mono j _ _ AH,rfl⟩
 | .map _,z,v,e,_,AH=>by simp[BP,BW]at e
 | .Cv,z,v,e,_,AH=>by simp only[BP,BW,AY,Bc]at e;subst e;exact⟨AO.mono j _ _ AH,rfl⟩
 | .Bl,z,v,e,_,AH=>by simp only[BP,BW,AY,Bc]at e;subst e;exact⟨AO.mono j _ _ AH,rfl⟩
 | .iter _,z,v,e,_,AH=>by simp[BP,BW]at e
 | .B2 _,z,v,e,_,AH=>by simp[BP,BW]at e
theorem YL {h':Nat->Option A8} {G':Aj} (f:Ext β G β G') (a:∀i t es p u,h i=some (.row t es p u)->∃z,h' i=some (.row t es z u)) :
  ∀{ds l:List AB} {vs:List Value},FF h ds=some l->(∀i∈Bm ds,IL E β G' h' i)->Ae β G ds vs->Ae β G' l vs/\B4 l=true
 | [],l,vs,b,_,AH=>by simp only[FF,Bc]at b;subst b;rw[CU]at AH;subst AH;exact⟨CU.2 rfl,rfl⟩
 | d::ds,l,vs,b,hs,AH=>by
  simp only[FF]at b;obtain⟨K,j,b⟩:=AD b;obtain⟨J,g,b⟩:=AD b;cases b;obtain⟨v,q,rfl,e,c⟩:=CE.1 AH;obtain⟨k1,k2⟩:=R3 f a j (fun i AA=>hs i (by simp[Bm,AA])) e
  obtain⟨C,I⟩:=YL f a g (fun i AA=>hs i (by simp[Bm,AA])) c
  exact⟨CE.2 ⟨v,q,rfl,k1,C⟩,by simp[B4,k2,I]⟩
end
theorem On (h:Nat->Option A8) (is:List Nat):∀i t es p u,h i=some (.row t es p u)->∃d,BY h (DE h is) i=some (.row t es d u):=fun i t es p u AA=>by
 unfold BY;cases j:DB i (DE h is)with
 | none=>exact⟨p,AA⟩
 | some y =>
  obtain⟨t',e,d,l,k1,k2⟩:=Kg h is i y j;rw[AA]at k1;cases k1;exact⟨_,k2⟩
theorem kN {nid:Nat} (is:List Nat):Fs β β h (BY h (DE h is)) nid:=fun i _ hf=>by
 refine⟨?_,rfl,fun _=>rfl⟩;unfold BY;cases e:DB i (DE h is)with
 | none=>exact hf
 | some y =>
  obtain⟨t',d,l,j,k1,k2⟩:=Kg h is i y e;rw[hf]at k1;cases k1
theorem An8 {h':Nat->Option A8} {G':Aj} (O:Ext β G β G') (f:∀i t es p u,h i=some (.row t es p u)->∃K,h' i=some (.row t es K u)) (z:∀i t es p u,h i=some (.row t es p u)->∀c∈es,c.length=E0 E t)
  {d C:AB} {v:Value} (g:LA E h d=some C) (hs:∀i∈B3 d,IL E β G' h' i) (AH:AO β G d v):AO β G' C v/\BW C=true:=by
 unfold LA at g;split at g
 ·rename_i id I i n e;obtain⟨W,A5,g⟩:=AD g;split at g
  ·rename_i t es p u;obtain⟨j,q⟩:=Ad g;clear g;cases q;simp only[Ar]at j;obtain⟨j,y⟩:=j;have j:u=I:=Al j;have y:E0 E t=e:=Al y;subst j;obtain⟨K,r⟩:=f _ _ _ _ _ A5;obtain⟨Am,Q,a,c,M,k⟩:=hs id (by simp[B3]) _ _ _ _ r
   obtain⟨a0,m,c0,a',c',l,rfl,s,U,J⟩:=Yf.1 AH;rw[Q,M.1]at l;cases l;have o:((es.drop i).take n).length=n:=by simp;omega
   refine⟨Km.2 ⟨_,c',⟨by rw[o],by rw[o];exact s⟩,?_⟩,rfl⟩
   rcases J with J|⟨b,w,x⟩
   ·exact .inl (by rw[J];simp)
   rcases k with k|⟨Z,k,l⟩
   ·exact .inl (by rw[k];simp)
   ·rw[w]at k;cases k;rw[y]at l;refine .inr ⟨_,i*e,e,x,?_⟩;have:=RP n (RO i l)
    rwa [Nat.zero_add]at this
  ·cases g
 ·exact R3 O f g hs AH
theorem jV {h':Nat->Option A8} {G':Aj} (j:Ext β G β G') (a:∀i t es p u,h i=some (.row t es p u)->∃C,h' i=some (.row t es C u)) (e:∀i t es p u,h i=some (.row t es p u)->∀c∈es,c.length=E0 E t) :
  ∀{ds q:List AB} {vs:List Value},Ji E h ds=some q->(∀i∈Bm ds,IL E β G' h' i)->Ae β G ds vs->Ae β G' q vs/\B4 q=true
 | [],q,vs,b,_,AH=>by simp only[Ji,Bc]at b;subst b;rw[CU]at AH;subst AH;exact⟨CU.2 rfl,rfl⟩
 | d::ds,q,vs,b,hs,AH=>by
  simp only[Ji]at b;obtain⟨c,l,b⟩:=AD b;obtain⟨cs,k,b⟩:=AD b;cases b;obtain⟨v,z,rfl,g,f⟩:=CE.1 AH;obtain⟨k1,k2⟩:=An8 j a e l (fun i AA=>hs i (by simp[Bm,AA])) g
  obtain⟨I,J⟩:=jV j a e k (fun i AA=>hs i (by simp[Bm,AA])) f
  exact⟨CE.2 ⟨v,z,rfl,k1,I⟩,by simp[B4,k2,J]⟩
end
end Go.Ab
namespace Go.Ab
open Go.RowKit
section
variable {P:Program} {E:Env} {w0:World} {G0:Aj} {D:CW} {o:Oper} {a:Act} {w:World} {β:BB} {G:Aj} {h:Nat->Option A8} {nid:Nat} {ρ:Nat->Option AB}
theorem AaF {α:Type} {e:Nat}:∀{es:List (List α)} (i:Nat),(∀c∈es,c.length=e)->(es.drop i).flatten=es.flatten.drop (i*e)
 | [],i,_=>by simp
 | c::es,0,_=>by simp
 | c::es,i+1,h=>by
  have hc:=h c (by simp)
  have a:c.drop ((i+1)*e)=[]:=List.drop_of_length_le (by rw[hc,Nat.add_mul];omega)
  have b:(i+1)*e-c.length=i*e:=by rw[hc,Nat.add_mul];omega
  rw[List.drop_succ_cons,AaF i (fun x d=>h x (List.mem_cons_of_mem _ d)),List.flatten_cons,List.drop_append,a,b,List.nil_append]
theorem AaG {α:Type} {e:Nat}:∀{es:List (List α)} (n:Nat),(∀c∈es,c.length=e)->(es.take n).flatten=es.flatten.take (n*e)
 | [],i,_=>by simp
 | c::es,0,_=>by simp
 | c::es,n+1,h=>by
  have hc:=h c (by simp)
  have a:c.take ((n+1)*e)=c:=List.take_of_length_le (by rw[hc,Nat.add_mul];omega)
  have b:(n+1)*e-c.length=n*e:=by rw[hc,Nat.add_mul];omega
  rw[List.take_succ_cons,List.flatten_cons,AaG n (fun x d=>h x (List.mem_cons_of_mem _ d)),List.flatten_cons,List.take_append,a,b]
theorem AmT {e:Nat} {es:List (List AB)} {d:List Value} (hl:∀c∈es,c.length=e) (AH:Ae β G es.flatten d) (i n:Nat):Ae β G ((es.drop i).take n).flatten ((d.drop (i*e)).take (n*e)):=by
 rw[AaG n (fun c hc=>hl c (List.mem_of_mem_drop hc)),AaF i hl];exact J5 _ (J4 _ AH)
theorem X6 (hh:Ax E w0 G0 D w β G h) {d:AB} {es:List (List AB)} {v:Value} (a:FK h d=some es) (AH:AO β G d v) :
  ∃A c,v=.slice A es.length c/\es.length<=c/\(es=[]\/∃b off e C,A=some ⟨b,off,none⟩/\(∀x∈es,x.length=e/\B4 x=true/\x.all Ct=true)/\Ae β G es.flatten C ∧
   ∀j u,C[j]? = some u->w.cell? ⟨b,off+j,none⟩=some u):=by
 unfold FK at a;split at a
 ·cases a;rw[L1]at AH;exact⟨none,0,AH,Nat.le_refl _,.inl rfl⟩
 ·cases a;obtain⟨A,c,⟨rfl,a2⟩,q⟩:=Km.1 AH;refine⟨A,c,rfl,a2,?_⟩;rcases q with q|⟨b,off,e,q,s⟩
  ·exact .inl q
  ·refine .inr ⟨b,off,e,?_⟩;have key:∀(es:List (List AB)) (off:Nat),DD β G b e off es->∃C,(∀x∈es,x.length=e/\B4 x=true/\x.all Ct=true)/\Ae β G es.flatten C/\∀j u,C[j]? = some u->w.cell? ⟨b,off+j,none⟩=some u:=by
    intro es
    induction es with
    | nil=>intro off _;exact⟨[],by simp,CU.2 rfl,by simp⟩
    | cons x xs ih =>
     intro off hp;unfold DD at hp;obtain⟨k1,k2,Q,k4⟩:=hp;obtain⟨K,k5,k6⟩:=lE hh.agree x off Q;obtain⟨W,k7,k8,k9⟩:=ih (off+e) k4;refine⟨K++W,?_,?_,?_⟩
     ·intro y hy;rcases DK.1 hy with rfl|hy
      ·exact⟨k1,k2⟩
      ·exact k7 y hy
     ·rw[List.flatten_cons];exact JA.2 ⟨_,_,rfl,k5,k8⟩
     ·intro j u l;have hl:=FR k5
      by_cases Z:j<K.length
      ·rw[List.getElem?_append_left Z]at l;exact k6 j u l
      ·rw[List.getElem?_append_right (by omega)]at l
       have:=k9 _ u l
       rwa [show off+e+(j-K.length)=off+j by omega]at this
   obtain⟨C,k1,k2,Q⟩:=key es off s;exact⟨C,q,k1,k2,Q⟩
 ·rename_i id I;obtain⟨ob,A5,a⟩:=AD a;split at a
  ·rename_i t _ p u;obtain⟨o,r⟩:=Ad a;clear a;cases r;have o:u=I:=Al o;subst o;obtain⟨Am,C,q,s,h3,h4,h5,h6,h7⟩:=hh.obj id _ A5;obtain⟨k,_⟩:=IK.1 AH;rw[q]at k;cases k;rcases s.2 with⟨hv,hn⟩|⟨g,M,U,hv,a9,a7,a5,b0,a6,a8⟩
   ·have z:es=[]:=List.eq_nil_of_length_eq_zero hn;exact⟨none,0,by rw[hv,z];rfl,by rw[z];exact Nat.le_refl _,.inl z⟩
   ·refine⟨_,M,hv,a5,.inr ⟨g,0,E0 E t,C,rfl,h4,h3,fun j u l=>?_⟩⟩;have:=s.cells (g:=g) (by rw[hv];rfl) j u l
    rwa [HI]at this
  ·cases a
 ·rename_i id I i n e;obtain⟨ob,A5,a⟩:=AD a;split at a
  ·rename_i t J p u;obtain⟨o,r⟩:=Ad a;clear a;cases r;simp only[Ar,List.all_eq_true]at o;obtain⟨o,f⟩:=o;have f:∀c∈J,c.length=e:=fun c hc=>Al (f c hc);have o:u=I:=Al o;subst o;obtain⟨Am,C,q,s,h3,h4,h5,h6,h7⟩:=hh.obj id _ A5;obtain⟨a0,m,c,a',c',k,rfl,h9,a2,hz⟩:=Yf.1 AH;rw[q]at k;have k:=Option.some.inj k;have hm:J.length=m:=by
    rcases s.2 with⟨hv,hn⟩|⟨g,M,U,hv,_⟩
    ·rw[hv]at k;cases k;exact hn
    ·rw[hv]at k;cases k;rfl
   have a1:((J.drop i).take n).length=n:=by simp;omega
   refine⟨_,c',by rw[a1],by rw[a1];exact h9,?_⟩
   rcases hz with hz|⟨b,a4,a3⟩
   ·exact .inl (by rw[hz];simp)
   rw[a4]at k;refine .inr ⟨b,i*e,e,(C.drop (i*e)).take (n*e),a3,fun x O=>?_,AmT f h3 i n,fun j u l=>?_⟩
   ·have O:=List.mem_of_mem_drop (List.mem_of_mem_take O);exact⟨f x O,(h4 x O).2⟩
   ·rw[List.getElem?_take]at l;split at l
    ·rw[List.getElem?_drop]at l;have:=s.cells (g:=b) (by rw[k];rfl) _ u l
     rw[HI]at this
     rwa [Nat.zero_add]at this
    ·cases l
  ·cases a
 ·cases a
theorem UT {n:Nat} {d:AB} {i:Nat} {v:Value} (a:I7 n d=some i) (AH:AO β G d v):∃k,v=.int k (i:Int)/\i<n:=by
 unfold I7 at a;split at a
 ·rename_i k x;rw[DX]at AH;obtain⟨b,a⟩:=Ad a;simp only[Ar,Ew]at b;cases a;refine⟨k,?_,by omega⟩
  rw[AH,Int.toNat_of_nonneg b.1]
 ·cases a
theorem UU:∀{es:List (AB×AB)} {d:List MapEntry},Ic β G es d->d.length=es.length
 | [],_,h=>by simp only[Ic]at h;simp[h]
 | _::_,_,⟨m,i,j,_,_,_,_,e⟩=>by subst j;simp[UU e]
theorem Ams (hh:Ax E w0 G0 D w β G h) {t:TypeId} {ti:By} (ht:Br P t ti) {ts:Array TypeId} (g:ts[0]? = some t) {ty:TypeId} {d r:AB} {v:Value} (f:IS ti.k h d=some r) (AH:AO β G d v) :
  ∃u,(Builtin.len_ ts ty #[v]).run P w=.ok u w/\AO β G r u:=by
 have a:=ht.desc;unfold IS at f;split at f<;>rename_i i
 ·cases f;rw[i]at a;rw[GO]at AH;subst AH;exact⟨_,by simp[Builtin.len_,g,C7 a,goInt],DX.2 rfl⟩
 ·cases f;rw[i]at a;rw[jF]at AH;subst AH;exact⟨_,by simp[Builtin.len_,g,C7 a,goInt],DX.2 rfl⟩
 ·rename_i k e id;rw[i]at a;obtain⟨C,n,f⟩:=AD f;split at f
  ·cases f;obtain⟨b,hb,rfl⟩:=Ud.1 AH;obtain⟨I,z,q,m,o,p⟩:=hh.obj id _ n;rw[hb]at m;cases m;have hl:=UU p.1;simp at hl;exact⟨.int .i64 (z.size:Nat),by simp[Builtin.len_,g,C7 a,goInt,getObj,Sem.run,o],DX.2 (by rw[hl])⟩
  ·cases f
 ·rw[i]at a;cases f;obtain⟨A,c,rfl,_⟩:=AbG.1 AH;exact⟨_,by simp[Builtin.len_,g,C7 a,goInt],DX.2 rfl⟩
 ·rename_i j;rw[j]at a;obtain⟨es,l,f⟩:=AD f;cases f;obtain⟨A,c,rfl,_,_⟩:=X6 hh l AH;exact⟨_,by simp[Builtin.len_,g,C7 a,goInt],DX.2 rfl⟩
 ·rw[i]at a;cases f;exact⟨_,by simp[Builtin.len_,g,C7 a,goInt],DX.2 rfl⟩
 ·cases f
structure Src (P:Program) (w:World) (t t' ty e:TypeId) (i:TypeInfo) (z x:Value) (m:Nat) (news:List Value):Prop where
 Adz:m=0->∀(base:Nat) (v:Value) (n:Nat) (xs:List Value),w.ownsRow base e i.size v n xs->(Builtin.append_ #[t,t'] ty #[v,x]).run P w=.ok v w
 nil:0<m->(m:Int)<=9223372036854775807->m*i.bytes<=281474976710656->(Builtin.append_ #[t,t'] ty #[.slice none 0 0,x]).run P w =
   .ok (.slice (some ⟨w.heap.size,0,none⟩) m (grownCap w m 0 e)) (w.drew.alloc (.cells (news.toArray++Builtin.zeroCells z.cells (grownCap w m 0 e-m)) e))
 fits:0<m->∀(base g n cap:Nat) (xs:List Value),w.ownsRow base e i.size (.slice (some ⟨g,0,none⟩) n cap) n xs->n+m<=cap →
  ∃w',(Builtin.append_ #[t,t'] ty #[.slice (some ⟨g,0,none⟩) n cap,x]).run P w=.ok (.slice (some ⟨g,0,none⟩) (n+m) cap) w' ∧
   w'.ownsRow base e i.size (.slice (some ⟨g,0,none⟩) (n+m) cap) (n+m) (xs++news)/\w.grownBy w' (some g)
 grow:0<m->∀(b:Addr) (sLen sCap:Nat) (LC:List Value),LC.length=sLen*i.size->(∀j v,LC[j]? = some v->w.cell? (b.add j)=some v) →
  sCap<sLen+m->((sLen+m:Nat):Int)<=9223372036854775807->Builtin.nextslicecap (sLen+m) sCap*i.bytes<=281474976710656 →
  (Builtin.append_ #[t,t'] ty #[.slice (some b) sLen sCap,x]).run P w =
   .ok (.slice (some ⟨w.heap.size,0,none⟩) (sLen+m) (grownCap w (sLen+m) sCap e))
    (w.drew.alloc (.cells (LC.toArray++news.toArray++Builtin.zeroCells z.cells (grownCap w (sLen+m) sCap e-(sLen+m))) e))
theorem kP {t ty e:TypeId} {i:TypeInfo} {z:Value} (ht:P.underlying t=some (.slice e)) (AA:P.info? e=some i) (K:i.zero=some z) {A:Option Addr} {m c:Nat} {news:List Value} (hl:news.length=m*i.size)
  (l:m=0\/∃b off,A=some ⟨b,off,none⟩/\∀j u,news[j]? = some u->w.cell? ⟨b,off+j,none⟩=some u) (x:∀u∈news,u.oneCell'=true) :
  Src P w t t ty e i z (.slice A m c) m news:=by
 have a:0<m->∃b off,A=some ⟨b,off,none⟩/\∀j u,news[j]? = some u->w.cell? ((⟨b,off,none⟩:Addr).add j)=some u:=fun f=>by
  obtain⟨b,off,rfl,hc⟩:=l.resolve_left (by omega)
  exact⟨b,off,rfl,fun j u Q=>by rw[HI];exact hc j u Q⟩
 refine⟨fun f base v n xs d=>?_,fun f k p=>?_,fun f base g n C xs d h=>?_,fun f b J I LC r y s k o=>?_⟩
 ·subst f;rcases d.2 with⟨rfl,rfl⟩|⟨g,C,O,rfl,_,s,q,_,hcs,_⟩
  ·cases A<;>simp[Builtin.append_,C7 ht,sizeOf,typeInfo,AA,Builtin.lenOf,Builtin.firstCells,loadCells,loadCellsFrom]
  ·cases A<;>simp[Builtin.append_,C7 ht,sizeOf,typeInfo,AA,Builtin.lenOf,Builtin.firstCells,q,loadCells,loadCellsFrom,storeCells]
 ·obtain⟨b,off,rfl,hc⟩:=a f;exact run_append_nil (P:=P) w t ty e i z ht AA K ⟨b,off,none⟩ m c news hl hc f k p
 ·obtain⟨b,off,rfl,hc⟩:=a f;exact run_append_fits (P:=P) w base t ty e i i.size ht AA rfl g n C xs d ⟨b,off,none⟩ m c news hl hc x h
 ·obtain⟨M,off,rfl,hc⟩:=a f;exact run_append_grow (P:=P) w t ty e i z ht AA K b J I LC r y ⟨M,off,none⟩ m c news hl hc s k o
theorem AnU {t t' ty e:TypeId} {i:TypeInfo} {z:Value} (ht:P.underlying t=some (.slice e)) (j:P.underlying t'=some .string) (AA:P.info? e=some i) (J:i.zero=some z) (s:ByteArray) (hs:0<s.size->i.size=1) :
  Src P w t t' ty e i z (.string s) s.size (Lib.strCells s):=by
 refine⟨fun f base v n xs a=>?_,fun f d k=>?_,fun f base g n u xs a c=>?_,fun f b I C LC o r p d h=>?_⟩
 ·have l:s=.empty:=ByteArray.ext (Array.eq_empty_of_size_eq_zero f);subst l;rcases a.2 with⟨rfl,rfl⟩|⟨g,u,M,rfl,_,p,m,_,hcs,_⟩
  ·simp[Builtin.append_,C7 ht,C7 j,sizeOf,typeInfo,AA,Builtin.lenOf,Builtin.firstCells]
  ·simp[Builtin.append_,C7 ht,C7 j,sizeOf,typeInfo,AA,Builtin.lenOf,Builtin.firstCells,m,storeCells]
 ·have:=run_append_nil_string (P:=P) w t t' ty e i z ht j AA J s f d k;have AS:(Lib.strCells s).toArray=s.data.map fun b=>Value.int .u8 b.toNat:=by
   apply Array.ext';simp[Lib.strCells]
  rw[AS];exact this
 ·have q:=hs f;rw[q]at a⊢;obtain⟨w',k1,k2,K⟩:=Lib.run_append_fits_string (P:=P) w base t t' ty e i ht j AA q (some ⟨g,0,none⟩) n u xs a s (by omega) c
  exact⟨w',k1,k2,K⟩
 ·exact Lib.run_append_grow_string (P:=P) w t t' ty e i z ht j AA J b I C LC o r s p d h
theorem jL {base:Nat} {t t' ty e:TypeId} {ti:By} {i:TypeInfo} {z:Value} (AA:P.info? e=some i) (hs:i.size=ti.size) (l:i.bytes=ti.bytes) (hz:i.zero=some z) (o:z.cells.size=ti.size) {v:Value} {n:Nat} {xs:List Value}
  (a:w.ownsRow base e ti.size v n xs) {x:Value} {m:Nat} {news:List Value} (hl:news.length=m*ti.size) (c:Src P w t t' ty e i z x m news)
  (hb:(n+m)*(ti.bytes+1)<=200000000000000) (a3:ti.bytes<=100000000000) (d:base<=w.heap.size) :
  ∃J w' row,(Builtin.append_ #[t,t'] ty #[v,x]).run P w=.ok J w'/\w'.ownsRow base e ti.size J (n+m) (xs++news)/\w.grownBy w' row ∧
   (row=none/\(J.ownBlock=some w.heap.size\/J=v)\/row=v.ownBlock/\J.ownBlock=v.ownBlock):=by
 have K:n+m<=200000000000000:=by
  have:=Nat.le_mul_of_pos_right (n+m) (show 0<ti.bytes+1 by omega)
  omega
 have M:(n+m)*ti.bytes<=200000000000000:=by
  have:=Nat.mul_le_mul_left (n+m) (show ti.bytes<=ti.bytes+1 by omega)
  omega
 have f:(n+m+(n+m) / 4+192)*i.bytes<=281474976710656:=by
  rw[l];have h1:=Nat.mul_le_mul_right ti.bytes (Nat.div_mul_le_self (n+m) 4);have U:(n+m) / 4*4*ti.bytes=(n+m) / 4*ti.bytes*4:=by rw[Nat.mul_assoc,Nat.mul_comm 4,Nat.mul_assoc]
  rw[U]at h1;rw[Nat.add_mul,Nat.add_mul];omega
 have b:=a;rw[<-hs]at b
 by_cases O:m=0
 ·subst O;have q:news=[]:=List.eq_nil_of_length_eq_zero (by simpa using hl)
  subst q;exact⟨v,w,none,c.Adz rfl base v n xs b,by simpa using a,World.grownBy.refl w _,.inl ⟨rfl,.inr rfl⟩⟩
 ·have h:0<m:=by omega
  have u:((n+m:Nat):Int)<=9223372036854775807:=by omega
  rcases a.2 with⟨rfl,rfl⟩|⟨g,C,Q,rfl,W,hg,a4,a5,hcs,y⟩
  ·have r:xs=[]:=List.eq_nil_of_length_eq_zero (by simpa using a.1)
   subst r;have AH:=c.nil h (by omega) (by rw[l];simp at M;omega)
   have j:=grownCap_ge w m 0 e;refine⟨_,_,none,AH,⟨by simpa using hl,.inr ⟨w.heap.size,_,_,by rw[Nat.zero_add],d,heap_alloc_new w.drew _,by omega,grownCap_le_maxLen w m 0 e (by simp only[maxLen];omega),?_,?_⟩⟩,?_,.inl ⟨rfl,.inl rfl⟩⟩
   ·simp only[Array.size_append,List.size_toArray,size_zeroCells,hl,o];rw[<-Nat.add_mul];congr 1;omega
   ·simp only[Array.toList_append,List.nil_append,Nat.zero_add];rw[<-hl];simp
   ·exact⟨rfl,rfl,rfl,by simp,fun k s _=>Below.heap_alloc w.drew _ k s⟩
  ·by_cases I:n+m<=C
   ·obtain⟨w',AH,A5,Z⟩:=c.fits h base g n C xs b I;exact⟨_,w',_,AH,by rw[<-hs];exact A5,Z,.inr ⟨rfl,rfl⟩⟩
   ·have p:xs.length=n*i.size:=by rw[hs];exact a.1
    have a2:=a.cells (g:=g) rfl;have AH:=c.grow h ⟨g,0,none⟩ n C xs p a2 (by omega) u (growslice_fits_wide (by omega) f)
    have j:=grownCap_ge w (n+m) C e;refine⟨_,_,none,AH,⟨by rw[List.length_append,a.1,hl,Nat.add_mul],.inr ⟨w.heap.size,_,_,rfl,d,heap_alloc_new w.drew _,j,grownCap_le_maxLen w (n+m) C e (by simp only[maxLen];omega),?_,?_⟩⟩,?_,.inl ⟨rfl,.inl rfl⟩⟩
    ·simp only[Array.size_append,List.size_toArray,size_zeroCells,hl,a.1,o];rw[<-Nat.add_mul,<-Nat.add_mul];congr 1;omega
    ·simp only[Array.toList_append];rw[Nat.add_mul,<-a.1,<-hl];exact List.take_left' (by simp)
    ·exact⟨rfl,rfl,rfl,by simp,fun k s _=>Below.heap_alloc w.drew _ k s⟩
end
end Go.Ab
namespace Go.Ab
open Go.RowKit
section
variable {P:Program} {E:Env} {w0:World} {G0:Aj} {D:CW} {o:Oper} {a:Act} {w:World} {β:BB} {G:Aj} {h:Nat->Option A8} {nid:Nat} {ρ:Nat->Option AB}
theorem RT {t:TypeId} {ti:By} (ht:E.ty t=some ti):E0 E t=ti.size:=by simp[E0,ht]
theorem Oq {id:Nat} {t:TypeId} {es:List (List AB)} {p u:Nat} {Am:Value} (a:β.Am id u=some Am) {base e:Nat} {n:Nat} {xs:List Value} {size:Nat} (d:w.ownsRow base e size Am n xs) (b:Nat) :
  Cc β id (.row t es p u) b↔Am.ownBlock=some b:=by
 constructor
 ·rintro⟨i,c,hb⟩;rw[a]at hb;cases hb;rfl
 ·intro hb;obtain⟨c,hc⟩:=hO d hb;exact⟨n,c,by rw[a,hc]⟩
def Ej (β:BB) (id u:Nat) (v:Value):BB:={ β with Am:=fun i x=>if i=id/\x=u then some v else β.Am i x }
theorem jJ {id u:Nat} {v:Value} (hn:β.Am id u=none):Ext β G (Ej β id u v) G :=
 ⟨fun _ _ _ h=>h,fun _ _ h=>h,fun i x y hy=>by
  by_cases e:i=id/\x=u
  ·obtain⟨rfl,rfl⟩:=e;rw[hn]at hy;cases hy
  ·simp[Ej,e,hy]⟩
theorem Y4 (hh:Ax E w0 G0 D w β G h) (hf:C3 β h nid) {w':World} {Am:Value} {t:TypeId} {es:List (List AB)} {C:List Value}
  (m:w.grownBy w' none) (d:w'.ownsRow w0.heap.size t (E0 E t) Am es.length C) (g:∀b,Am.ownBlock=some b->w.heap.size<=b) (r:∃a n c,Am=.slice a n c)
  (AH:Ae β G es.flatten C) (q:∀c∈es,c.length=E0 E t/\B4 c=true/\c.all Ct=true) (y:0<E0 E t) :
  ∃β',Ext β G β' G/\AO β' G (.rs nid 0) Am/\Ax E w0 G0 D w' β' G (BY h [(nid,some (.row t es 0 0))])/\Fs β β' h (BY h [(nid,some (.row t es 0 0))]) nid:=by
 have p:Ext β G (Ej β nid 0 Am) G:=jJ (hf.Am 0);have f:(Ej β nid 0 Am).Am nid 0=some Am:=by simp[Ej]
 refine⟨Ej β nid 0 Am,p,IK.2 ⟨f,r⟩,?_,?_⟩
 ·refine hh.move (fun b=>w.heap.size<=b) nid _ p (hh.below.grown m hh.below.size (fun _ e=>by cases e)) (fun b hb k=>m.block b k (by simp)) (fun _ _=>rfl) m.size ?_ ?_ ?_ ?_ ?_ ?_ ?_
  ·intro b hb;refine⟨Nat.le_trans hh.below.size hb,hh.Z8 hb⟩
  ·intro b I Bs hb x s;have:=(hh.own I Bs _ x s).2.1;omega
  ·intro b hb o v j;rw[Mv hh hb]at j;cases j
  ·refine⟨Am,C,f,d,Ae.mono p _ _ AH,q,⟨y,PV _ _⟩,fun b hb o _=>?_,fun J z=>?_⟩
   ·exact Mv hh (g b hb) o
   ·have:¬J=0:=by omega
    simp only[Ej,this,and_false,if_false];exact hf.Am J
  ·intro b hb;rw[Oq f d]at hb;left;exact g b hb
  ·intro b hb;rw[Oq f d]at hb;exact(d.lt b hb).2
  ·intro i AA;exact⟨rfl,fun u=>by simp[Ej,AA]⟩
 ·intro i AA l;exact⟨by rw[EV,if_neg AA];exact l,rfl,fun u=>by simp[Ej,AA]⟩
theorem AbK (hh:Ax E w0 G0 D w β G h) {id:Nat} {w':World} {v I:Value} {row:Option Nat} {t:TypeId} {es xs:List (List AB)} {p u:Nat} {C news:List Value}
  (A5:h id=some (.row t es p u)) (hv:β.Am id u=some v) (f:w.ownsRow w0.heap.size t (E0 E t) v es.length C) (M:Ae β G es.flatten C)
  (hg:w.grownBy w' row) (d:w'.ownsRow w0.heap.size t (E0 E t) I (es.length+xs.length) (C++news))
  (q:row=none/\(I.ownBlock=some w.heap.size\/I=v)\/row=v.ownBlock/\I.ownBlock=v.ownBlock)
  (hn:Ae β G xs.flatten news) (a2:∀c∈xs,c.length=E0 E t/\B4 c=true/\c.all Ct=true) :
  ∃β',Ext β G β' G/\AO β' G (.rs id (u+1)) I/\Ax E w0 G0 D w' β' G (BY h [(id,some (.row t (es++xs) p (u+1)))])/\Fs β β' h (BY h [(id,some (.row t (es++xs) p (u+1)))]) nid:=by
 obtain⟨Am,a1,h1,h2,h3,h4,h5,h6,h7⟩:=hh.obj id _ A5;rw[hv]at h1;cases h1;have W:Ext β G (Ej β id (u+1) I) G:=jJ (h7 (u+1) (by omega))
 have y:(Ej β id (u+1) I).Am id (u+1)=some I:=by simp[Ej]
 have a0:∃a n c,I=.slice a n c:=by
  rcases d.2 with⟨e,_⟩|⟨g,a6,a4,e,_⟩<;>exact⟨_,_,_,e⟩
 have j:∀b,row=some b->v.ownBlock=some b:=fun b hb=>by
  rcases q with⟨e,_⟩|⟨e,_⟩
  ·rw[e]at hb;cases hb
  ·rw[<-e];exact hb
 have z:∀b,I.ownBlock=some b->b=w.heap.size\/v.ownBlock=some b:=fun b hb=>by
  rcases q with⟨_,e|e⟩|⟨_,e⟩
  ·rw[e]at hb;cases hb;exact .inl rfl
  ·subst e;exact .inr hb
  ·right;rw[<-e];exact hb
 refine⟨Ej β id (u+1) I,W,IK.2 ⟨y,a0⟩,?_,?_⟩
 ·refine hh.move (fun b=>w.heap.size<=b\/row=some b) id _ W (hh.below.grown hg hh.below.size (fun k e=>(f.lt k (j k e)).1))
   (fun b hb s=>hg.block b s (fun e=>hb (.inr e.symm))) (fun _ _=>rfl) hg.size ?_ ?_ ?_ ?_ ?_ ?_ ?_
  ·rintro b (hb|hb)
   ·refine⟨Nat.le_trans hh.below.size hb,hh.Z8 hb⟩
   ·have o:Cc β id (.row t es p u) b:=(Oq hv f b).2 (j b hb);exact⟨(hh.own id _ b A5 o).1,(hh.own id _ b A5 o).2.2⟩
  ·rintro b J Bs (hb|hb) O o
   ·have:=(hh.own J Bs _ O o).2.1;omega
   ·exact hh.inj J id Bs _ b O A5 o ((Oq hv f b).2 (j b hb))
  ·rintro b (hb|hb) off x r
   ·rw[Mv hh hb]at r;cases r
   ·have m:=j b hb;have Q:I.ownBlock=some b:=by
     rcases q with⟨e,_⟩|⟨_,e⟩
     ·rw[e]at hb;cases hb
     ·rw[e];exact m
    have l:off<C.length:=by
     have s:off<Jq p es.length*E0 E t:=by
      rcases Nat.lt_or_ge off (Jq p es.length*E0 E t)with s|Z
      ·exact s
      ·rw[h6 b m off Z]at r;cases r
     have:=Nat.mul_le_mul_right (E0 E t) h5.2;rw[f.1];omega
    have hc:=f.cells m off (C[off]) (by simp[l])
    rw[HI,Nat.zero_add]at hc;have:=hh.agree b off x r;rw[hc]at this;cases this;have a3:=d.cells Q off (C[off]) (by rw[List.getElem?_append_left l];simp[l])
    rwa [HI,Nat.zero_add]at a3
  ·refine⟨I,C++news,y,by rw[List.length_append];exact d,?_,?_,⟨h5.1,PV _ _⟩,?_,?_⟩
   ·rw[List.flatten_append];exact JA.2 ⟨_,_,rfl,Ae.mono W _ _ M,Ae.mono W _ _ hn⟩
   ·intro c hc;rcases List.mem_append.1 hc with hc|hc
    ·exact h4 c hc
    ·exact a2 c hc
   ·intro b hb off l;rcases z b hb with rfl|m
    ·exact Mv hh (Nat.le_refl _) off
    ·exact h6 b m off (Nat.le_trans (Nat.mul_le_mul_right _ (AnO p (by rw[List.length_append];omega))) l)
   ·intro u' a5;have:¬u'=u+1:=by omega
    simp only[Ej,this,and_false,if_false];exact h7 u' (by omega)
  ·intro b hb;rw[Oq y d]at hb;rcases z b hb with rfl|m
   ·exact .inl (.inl (Nat.le_refl _))
   ·exact .inr ⟨_,A5,(Oq hv f b).2 m⟩
  ·intro b hb;rw[Oq y d]at hb;exact(d.lt b hb).2
  ·intro i AA;exact⟨rfl,fun x=>by simp[Ej,AA]⟩
 ·intro i AA K;have U:i≠id:=by rintro rfl;rw[K]at A5;cases A5
  exact⟨by rw[EV,if_neg U];exact K,rfl,fun x=>by simp[Ej,U]⟩
theorem kV {e:Nat}:∀{xs:List (List AB)},(∀c∈xs,c.length=e)->xs.flatten.length=xs.length*e
 | [],_=>by simp
 | y::ys,h=>by
  have ih:=kV (xs:=ys) (fun c hc=>h c (by simp[hc]))
  rw[List.flatten_cons,List.length_append,ih,h y (by simp),List.length_cons,Nat.add_mul,Nat.one_mul,Nat.add_comm]
theorem yH (hE:∀t ti,E.ty t=some ti->Br P t ti) (hh:Ax E w0 G0 D w β G h) (hf:C3 β h nid) {t t' ty:TypeId} {ds dx:AB} {s x:Value} (hs:AO β G ds s) (hx:AO β G dx x) {r:Out}
  (f:L8 E nid h t t' ds dx=some r) :
  ∃v w' β',(Builtin.append_ #[t,t'] ty #[s,x]).run P w=.ok v w'/\(∀d,r.val=some d->AO β' G d v)/\Ext β G β' G/\Ax E w0 G0 D w' β' G (BY h r.Ba)/\Fs β β' h (BY h r.Ba) nid:=by
 unfold L8 at f;obtain⟨ti,c6,f⟩:=AD f;have a4:=(hE t ti c6).desc;split at f
 ·rename_i e hk;rw[hk]at a4;obtain⟨C,a7,f⟩:=AD f;obtain⟨xs,j,f⟩:=AD f;have m:=(Ad f).1;replace f:=(Ad f).2;simp only[Ar]at m;have K:=DF m.2;have m:0<C.size:=DF m.1;have k:=RT a7;obtain⟨i,z,AA,a3,b3,hz,b4,_⟩:=(hE e C a7).IB;have q:∀{xs:List (List AB)},(xs.all fun c=>Nat.beq c.length C.size)=true->∀c∈xs,c.length=C.size:=fun h c hc=>Al (List.all_eq_true.1 h c hc)
  have O:(xs.all fun c=>Nat.beq c.length C.size)=true->∃news,news.length=xs.length*C.size/\Ae β G xs.flatten news/\Src P w t t' ty e i z x xs.length news/\(∀c∈xs,B4 c=true/\c.all Ct=true):=fun a1=>by
   unfold Np at j;cases Z:Nat.beq t t' with
   | true =>
    rw[Z]at j;obtain rfl:=Al Z;obtain⟨A,c,rfl,_,b1⟩:=X6 hh j hx;rcases b1 with rfl|⟨b,off,e',I,hA,U,h2,h3⟩
    ·exact⟨[],by simp,CU.2 rfl,kP a4 AA hz (by simp) (.inl rfl) (by simp),by simp⟩
    ·have c0:xs.flatten.length=xs.length*C.size:=kV (q a1);have b2:I.length=xs.length*C.size:=by rw[FR h2,c0]
     refine⟨I,b2,h2,kP a4 AA hz (by rw[a3];exact b2) (.inr ⟨b,off,hA,h3⟩) (Xk ?_ h2),fun c hc=>(U c hc).2⟩
     rw[List.all_eq_true];intro y hy;obtain⟨c,hc,hy⟩:=List.mem_flatten.1 hy;exact List.all_eq_true.1 (U c hc).2.2 y hy
   | false =>
    rw[Z]at j;simp only[Ac]at j;split at j
    ·rename_i s0 _ _;obtain⟨c7,a9,j⟩:=AD j;have M:=(hE t' c7 a9).desc;split at j
     ·rename_i b8;rw[b8]at M;cases j;rw[GO]at hx;subst hx;have a0:(PN s0).length=s0.size:=by simp[PN]
      have a8:0<s0.size->C.size=1:=fun h0=>by
       have hb:0<(PN s0).length:=by rw[a0];exact h0
       have U:=q a1 _ (Fx hb);rw[<-U];simp[PN]
      have Q:(Lib.strCells s0).length=(PN s0).length*C.size:=by
       rw[a0,Lib.strCells_length]
       by_cases h0:0<s0.size
       ·rw[a8 h0];omega
       ·have:s0.size=0:=by omega
        rw[this];omega
      have a5:∀l:List UInt8,Ae β G (l.map fun b=>[AB.int .u8 b.toNat]).flatten (l.map fun b=>Value.int .u8 b.toNat):=fun l=>by
       induction l with
       | nil=>exact CU.2 rfl
       | cons b l ih=>exact CE.2 ⟨_,_,rfl,DX.2 rfl,ih⟩
      refine⟨Lib.strCells s0,Q,by simpa[PN,Lib.strCells]using a5 s0.data.toList,by rw[a0];exact AnU a4 M AA hz s0 (fun h0=>by rw[a3];exact a8 h0),fun c hc=>?_⟩
      obtain⟨b,_,rfl⟩:=List.mem_map.1 hc;exact⟨rfl,rfl⟩
     ·cases j
    ·cases j
  cases ds with
  | Aq =>
   simp only at f;rw[L1]at hs;subst hs;split at f
   ·cases f;refine⟨.slice none 0 0,w,β,?_,fun d f=>by cases f;exact L1.2 rfl,Ext.refl β G,by rw[Abw];exact hh,Fs.refl β h nid⟩
    obtain⟨news,k1,k2,k3,k4⟩:=O rfl;exact k3.Adz rfl 0 _ 0 [] ⟨by simp,.inl ⟨rfl,rfl⟩⟩
   ·skip
    obtain⟨J,b7⟩:=Ad f;clear f;cases b7;simp only[Ar]at J;obtain⟨news,k1,k2,k3,k5⟩:=O J.1;have a6:w.ownsRow w0.heap.size e C.size (.slice none 0 0) 0 []:=⟨by simp,.inl ⟨rfl,rfl⟩⟩
    have W:=DF J.2;obtain⟨v',w',row,AH,a2,hg,o⟩:=jL (P:=P) (ty:=ty) AA a3 b3 hz b4 a6 k1 k3 (by rw[Nat.zero_add];exact W) K hh.below.size
    rw[Nat.zero_add,List.nil_append]at a2;have b9:w.grownBy w' none:=by
     rcases o with⟨AS,_⟩|⟨AS,_⟩<;>rw[AS]at hg<;>exact hg
    have hb:∀b,v'.ownBlock=some b->b=w.heap.size:=fun b hb=>by
     rcases o with⟨_,AS|AS⟩|⟨_,AS⟩
     ·rw[AS]at hb;cases hb;rfl
     ·rw[AS]at hb;cases hb
     ·rw[AS]at hb;cases hb
    have Q:∃a n c,v'=.slice a n c:=by
     rcases a2.2 with⟨AS,_⟩|⟨g,c9,c8,AS,_⟩<;>exact⟨_,_,_,AS⟩
    obtain⟨β',m1,m2,m3,m4⟩:=Y4 hh hf b9 (by rw[k];exact a2) (fun b J=>Nat.le_of_eq (hb b J).symm) Q k2 (fun c hc=>⟨by rw[k];exact q J.1 c hc,(k5 c hc).1,(k5 c hc).2⟩) (by rw[k];exact m)
    exact⟨v',w',β',AH,fun d f=>by cases f;exact m2,m1,m3,m4⟩
  | rs id b5 =>
   simp only at f;obtain⟨ob,A5,f⟩:=AD f;split at f
   ·rename_i e' es p u;obtain⟨J,b6⟩:=Ad f;clear f;cases b6;simp only[Ar]at J;obtain⟨⟨⟨hu,he⟩,a1⟩,W⟩:=J;have hu:u=b5:=Al hu;have he:e'=e:=Al he;subst hu he;obtain⟨news,k1,k2,k3,k5⟩:=O a1;obtain⟨hv,_⟩:=IK.1 hs;obtain⟨Am,I,U,h2,h3,h4,h5,h6,h7⟩:=hh.obj id _ A5;rw[hv]at U;cases U;have b0:=h2;rw[k]at b0;obtain⟨v',w',row,AH,a2,hg,o⟩:=jL (P:=P) (ty:=ty) AA a3 b3 hz b4 b0 k1 k3 (DF W) K hh.below.size;obtain⟨β',m1,m2,m3,m4⟩:=AbK (nid:=nid) (xs:=xs) (news:=news) hh A5 hv h2 h3 hg (by rw[k];exact a2) o k2 (fun c hc=>⟨by rw[k];exact q a1 c hc,(k5 c hc).1,(k5 c hc).2⟩)
    exact⟨v',w',β',AH,fun d f=>by cases f;exact m2,m1,m3,m4⟩
   ·cases f
  | _=>cases f
 ·cases f
end
end Go.Ab
namespace Go.Ab
open Go.RowKit
section
variable {P:Program} {E:Env} {w0:World} {G0:Aj} {D:CW} {o:Oper} {a:Act} {w:World} {β:BB} {G:Aj} {h:Nat->Option A8} {nid:Nat} {ρ:Nat->Option AB}
theorem z6 {size:Nat}:∀(AP:List (Nat×Value)) (k:Nat) (base:Array Value),(∀j p,AP[j]? = some p->p.1=k+j/\p.2.cells.size=size)->(k+AP.length)*size<=base.size →
  ∃out,Instr.fill (fun i=>some (i*size,size)) base AP=some out/\out.size=base.size/\out.toList.take ((k+AP.length)*size)=base.toList.take (k*size)++AP.flatMap (fun p=>p.2.cells.toList)
 | [],k,base,_,_=>⟨base,rfl,rfl,by simp⟩
 | (i,v)::AP,k,base,q,hs=>by
  obtain⟨f,d⟩:=q 0 (i,v) rfl;simp only[Nat.add_zero]at f d;subst f;have e:(i+((i,v)::AP).length)*size=i*size+size+AP.length*size:=by
   simp only[List.length_cons];rw[show i+(AP.length+1)=i+1+AP.length by omega,Nat.add_mul,Nat.add_mul,Nat.one_mul]
  have a:=hU v.cells (i*size) base (by rw[d];omega)
  obtain⟨out,g,l,m⟩:=z6 AP (i+1) (v.cells.zipIdx.foldl (fun cs (c,j)=>cs.setIfInBounds (i*size+j) c) base)
   (fun j p h=>by
    obtain⟨k1,k2⟩:=q (j+1) p (by simpa using h)
    exact⟨by omega,k2⟩)
   (by
    have b:(v.cells.zipIdx.foldl (fun cs (c,j)=>cs.setIfInBounds (i*size+j) c) base).size=base.size:=by
     rw[<-Array.length_toList,a];simp;omega
    rw[b,Nat.add_mul,Nat.add_mul,Nat.one_mul];omega)
  have b:(v.cells.zipIdx.foldl (fun cs (c,j)=>cs.setIfInBounds (i*size+j) c) base).size=base.size:=by
   rw[<-Array.length_toList,a];simp;omega
  refine⟨out,?_,l.trans b,?_⟩
  ·have hn:(v.cells.size≠size||i*size+v.cells.size>base.size)=false:=by simp;omega
   simp only[Instr.fill,hn,CI,if_false];exact g
  ·rw[show i+((i,v)::AP).length=i+1+AP.length by simp;omega,m,a]
   have hl:(base.toList.take (i*size)).length=i*size:=by simp;omega
   rw[Nat.add_mul,Nat.one_mul,FV];simp only[List.flatMap_cons,<-FV];congr 1;rw[FV,List.take_append,hl,List.take_of_length_le (by rw[hl];omega),show i*size+size-i*size=size by omega,List.take_append]
   simp[d];exact List.take_of_length_le (by simp[d])
theorem zA (d:AB):Bm (cellsOf d)=B3 d:=by
 cases d<;>simp[cellsOf,B3,Bm]
theorem zS {h':Nat->Option A8} {G':Aj} (g:Ext β G β G') (b:∀i t es p u,h i=some (.row t es p u)->∃C,h' i=some (.row t es C u)) {size:Nat} :
  ∀{ds:List (Nat×AB)} {AP:List (Nat×Value)} {k:Nat} {es:List (List AB)},Na β G ds AP->(∀i∈Bm (ds.map (·.2)),IL E β G' h' i)->Ll h size k ds=some es →
   Ae β G' es.flatten (AP.flatMap fun p=>p.2.cells.toList)/\(∀c∈es,c.length=size/\B4 c=true/\c.all Ct=true)/\es.length=AP.length/\∀j p,AP[j]? = some p->p.1=k+j/\p.2.cells.size=size
 | [],AP,k,es,q,_,a=>by
  simp only[Na]at q;subst q;simp only[Ll,Bc]at a;subst a;exact⟨CU.2 rfl,by simp,rfl,by simp⟩
 | (i,d)::ds,_,k,es,⟨v,J,z,hv,q⟩,hs,a=>by
  subst z;simp only[Ll]at a;obtain⟨m,a⟩:=Ad a;simp only[Ar]at m;obtain⟨c,hc,a⟩:=AD a;obtain⟨l,a⟩:=Ad a;obtain⟨r,AH,a⟩:=AD a;cases a;have AA:i=k:=Al m.1;have hl:(cellsOf d).length=size:=Al m.2;subst AA;have f:=UN hv;obtain⟨k1,k2⟩:=YL (E:=E) g b hc (fun j e=>hs j (by rw[zA]at e;simp[Bm,e])) f
  obtain⟨K,I,Q,M⟩:=zS g b q (fun j e=>hs j (by simp[Bm,e])) AH
  have n:c.length=size:=by have:=FR k1;have:=FR f;omega
  refine⟨?_,?_,by simp[Q],?_⟩
  ·rw[List.flatten_cons,List.flatMap_cons];exact JA.2 ⟨_,_,rfl,k1,K⟩
  ·intro x g;rcases DK.1 g with rfl|g
   ·exact⟨n,k2,l⟩
   ·exact I x g
  ·intro j p e;cases j with
   | zero =>
    simp at e;subst e;have:=FR f;refine⟨by simp,?_⟩
    show v.cells.size=size;rw[<-hl,<-this];simp
   | succ j =>
    obtain⟨U,O⟩:=M j p (by simpa using e)
    exact⟨by omega,O⟩
theorem Aa8 {id:Nat} {x:Option A8} {d:List (Nat×Option A8)} (hn:DB id d=none) (i:Nat):BY h ((id,x)::d) i=BY (BY h d) [(id,x)] i:=by
 rw[AaC,EV];unfold BY
 by_cases e:i=id
 ·subst e;rw[hn]
 ·simp only[e,if_false]<;>(cases DB i d<;>rfl)
theorem AkL (hE:∀t ti,E.ty t=some ti->Br P t ti) (hf:Dq β G ρ a.tmps) (hh:Ax E w0 G0 D w β G h) (o:C3 β h nid) {t:TypeId} {n:Nat} {AP:Array (Nat×Operand)} {r:Out}
  (f:BX E nid ρ h (.buildSlice t n AP)=some r) :
  ∃v w' β' G',(Instr.buildSlice t n (AP.map fun(i,x)=>(i,a.eval x))).run P w=.ok v w'/\(∀d,r.val=some d->AO β' G' d v)/\Ext β G β' G'/\Ax E w0 G0 D w' β' G' (BY h r.Ba)/\Fs β β' h (BY h r.Ba) nid:=by
 simp only[BX]at f;obtain⟨ti,b6,f⟩:=AD f;have s:=(hE t ti b6).desc;split at f
 ·rename_i e hk;rw[hk]at s;obtain⟨C,O,f⟩:=AD f;obtain⟨vs,b3,f⟩:=AD f;obtain⟨es,b2,f⟩:=AD f;obtain⟨u,f⟩:=Ad f;cases f;simp only[Ar]at u;obtain⟨⟨j,K⟩,g⟩:=u;have j:es.length=n:=Al j;have K:n*C.size<=1048576:=DF K;have g:0<C.size:=DF g;have l:=RT O;have b1:=kE hf b3;obtain⟨G1,M,a9,b0⟩:=N2 hh (Bm (vs.map (·.2)));obtain⟨k1,k2,k3,k4⟩:=zS (E:=E) M (On h _) b1 b0 b2;have a8:(AP.map fun(i,x)=>(i,a.eval x)).toList=AP.toList.map fun(i,x)=>(i,a.eval x):=by simp
  obtain⟨ie,z,AA,q,c6,hz,c7,_⟩:=(hE e C O).IB;have k:DB nid (DE h (Bm (vs.map (·.2))))=none:=by
   cases u:DB nid (DE h (Bm (vs.map (·.2))))with
   | none=>rfl
   | some y =>
    obtain⟨t',c0,p',u',I,_⟩:=Kg h _ nid y u;rw[o.h]at I;cases I
  have a0:C3 β (BY h (DE h (Bm (vs.map (·.2))))) nid:=by
   refine⟨o.BE,o.Am,?_⟩;unfold BY;rw[k];exact o.h
  have Z:∃cells:Array Value,(Instr.buildSlice t n (AP.map fun(i,x)=>(i,a.eval x))).run P w=.ok (.slice (some ⟨w.heap.size,0,none⟩) n n) (w.alloc (.cells cells e))/\cells.size=n*C.size ∧
    cells.toList=(AP.toList.map fun(i,x)=>(i,a.eval x)).flatMap fun p=>p.2.cells.toList:=by
   have m:(AP.toList.map fun(i,x)=>(i,a.eval x)).length=n:=by rw[List.length_map]at k3⊢;omega
   obtain⟨out,n1,n2,U⟩:=z6 (size:=C.size) (AP.toList.map fun(i,x)=>(i,a.eval x)) 0 ((Array.range (n*C.size)).map (z.cells[· % z.cells.size]!)) (by simpa using k4) (by rw[m];simp)
   have Q:out.size=n*C.size:=by rw[n2];simp
   have W:out.toList=(AP.toList.map fun(i,x)=>(i,a.eval x)).flatMap fun p=>p.2.cells.toList:=by
    rw[Nat.zero_add,m,List.take_of_length_le (by rw[Array.length_toList,Q];exact Nat.le_refl _)]at U
    simpa using U
   by_cases J:n*C.size=0
   ·have b8:n=0:=by
     rcases Nat.mul_eq_zero.1 J with AS|AS
     ·exact AS
     ·omega
    subst b8;have b5:AP.toList=[]:=by
     have:AP.toList.length=0:=by simpa using m
     exact List.eq_nil_of_length_eq_zero this
    have b7:AP = #[]:=by simpa using b5
    subst b7;refine⟨#[],?_,by simp,by simp⟩
    simp[Instr.buildSlice,C7 s,sizeOf,typeInfo,AA,Instr.fill,newRow];congr 2;apply Array.ext';simp
   ·refine⟨out,?_,Q,W⟩;refine run_buildSlice w t e n _ out ie z s AA hz (by rw[q];omega) (by rw[q];exact J) ?_
    rw[a8,q];exact n1
  obtain⟨cells,AH,hcs,b9⟩:=Z;have a5:n<=maxLen:=by
   have:n<=n*C.size:=Nat.le_mul_of_pos_right n g;simp only[maxLen];omega
  have a3:(w.alloc (.cells cells e)).ownsRow w0.heap.size e (E0 E e) (.slice (some ⟨w.heap.size,0,none⟩) n n) es.length cells.toList:=by
   rw[l,j];exact World.ownsRow_lit w cells n hh.below.size a5 hcs
  rw[<-b9]at k1;obtain⟨β',I,m2,m3,m4⟩:=Y4 (nid:=nid) a9 a0 (World.grownBy_alloc w _ none) a3 (by intro b hb;cases hb;exact Nat.le_refl _) ⟨_,_,_,rfl⟩ k1 (fun c hc=>by rw[l];exact k2 c hc) (by rw[l];exact g)
  refine⟨_,_,β',G1,AH,fun d f=>by cases f;exact m2,M.trans I,m3.eq (Aa8 k),fun i AA u=>?_⟩
  obtain⟨BI,BD,B9⟩:=m4 i AA (kN (β:=β) (nid:=nid) _ i AA u).1;exact⟨by rw[Aa8 k];exact BI,BD,B9⟩
 ·cases f
end
end Go.Ab
namespace Go.Ab
open Go.RowKit
section
variable {P:Program} {E:Env} {w0:World} {G0:Aj} {D:CW} {o:Oper} {a:Act} {w:World} {β:BB} {G:Aj} {h:Nat->Option A8} {nid:Nat} {ρ:Nat->Option AB}
theorem AkY {t:TypeId} {ti q:By} (ht:Br P t ti) {len e:Nat} (j:ti.k=.array len e) (l:Br P e q) {x d:AB} {z:AB} {u v:Value} {i:Nat} (h:AO β G x u) (AA:AO β G z v) (f:I7 len z=some i)
  (g:J8 x (i*q.size)=some d):∃r,(Instr.indexAt t u v).run P w=.ok r w/\AO β G d r:=by
 have a:=ht.desc;rw[j]at a;obtain⟨k,rfl,c⟩:=UT f AA;obtain⟨b,rfl,AH⟩:=yE h g;refine⟨_,?_,AH⟩;have m:(0:Int)<=(i:Int)/\(i:Int)<(len:Int):=⟨by omega,by omega⟩
 simp[Instr.indexAt,asIntOf,C7 a,Instr.sureAddr,l.run_sizeOf,m,c]
theorem yM {t:TypeId} {ti j:By} (ht:Br P t ti) {e:Nat} (f:ti.k=.slice e) (g:Br P e j) {l:AB} {v:Value} {i n c:Nat} {A:Addr} (AA:AO β G l v) (d:I7 n l=some i) :
  (Instr.indexAt t (.slice (some A) n c) v).run P w=.ok (.pointer (some (A.add (i*j.size)))) w:=by
 have a:=ht.desc;rw[f]at a;obtain⟨k,rfl,b⟩:=UT d AA;have h:(0:Int)<=(i:Int)/\(i:Int)<(n:Int):=⟨by omega,by omega⟩
 simp[Instr.indexAt,asIntOf,C7 a,g.run_sizeOf,h,b]
theorem Abq {b e:Nat}:∀{es:List (List AB)} {off i:Nat} {c:List AB},DD β G b e off es->es[i]? = some c->B4 c=true/\D7 β G b (off+i*e) c/\c.length=e
 | [],_,i,c,_,h=>by simp at h
 | x::es,off,0,c,j,h=>by
  simp at h;subst h;unfold DD at j;exact⟨j.2.1.1,by simpa using j.2.2.1,j.1⟩
 | x::es,off,i+1,c,j,h=>by
  unfold DD at j;obtain⟨a,f,d⟩:=Abq (i:=i) (c:=c) j.2.2.2 (by simpa using h)
  refine⟨a,?_,d⟩
  rwa [show off+(i+1)*e=off+e+i*e by rw[Nat.add_mul,Nat.one_mul];omega]
theorem Ald (hE:∀t ti,E.ty t=some ti->Br P t ti) {t:TypeId} {ti:By} (ht:Br P t ti) {x z d:AB} {u v:Value} 
  (c:(match ti.k,x with
   | .array len e,.agg cs=>(E.ty e).bind fun q=>(I7 len z).bind fun i=>Gk q cs (i*q.size)
   | .string,.str s=>(I7 s.size z).bind fun i=>(s[i]?).bind fun b=>some (.int .u8 b.toNat)
   | _,_=>none)=some d) (l:AO β G x u) (AA:AO β G z v):∃r,(Instr.index t u v).run P w=.ok r w/\AO β G d r:=by
 have a:=ht.desc;split at c<;>rename_i m
 ·rename_i len e cs;rw[m]at a;obtain⟨q,f,c⟩:=AD c;obtain⟨i,g,c⟩:=AD c;obtain⟨k,rfl,h⟩:=UT g AA;obtain⟨vs,rfl,AH⟩:=Hp.1 l;obtain⟨r,o,n⟩:=Aac (w:=w) (hE e q f) (hE e q f).Ze AH c;have j:(0:Int)<=(i:Int)/\(i:Int)<(len:Int):=⟨by omega,by omega⟩
  exact⟨r,by simp[Instr.index,asIntOf,C7 a,(hE e q f).run_sizeOf,j,h,o],n⟩
 ·rename_i s;rw[m]at a;obtain⟨i,g,c⟩:=AD c;obtain⟨b,hb,c⟩:=AD c;cases c;obtain⟨k,rfl,h⟩:=UT g AA;rw[GO]at l;subst l;have j:(0:Int)<=(i:Int):=by omega
  exact⟨_,by simp[Instr.index,asIntOf,C7 a,j,hb],DX.2 rfl⟩
 ·cases c
theorem Aln (hE:∀t ti,E.ty t=some ti->Br P t ti) {t:TypeId} {ti:By} (ht:Br P t ti) {f:Nat} {x d:AB} {u:Value}
  (a:(match ti.k,x with
   | .struct fs,.agg cs=>(fs[f]?).bind fun(C,off)=>(E.ty C).bind fun q=>Gk q cs off
   | _,_=>none)=some d) (g:AO β G x u):∃r,(Instr.field t u f).run P w=.ok r w/\AO β G d r:=by
 split at a<;>rename_i i
 ·rename_i fs cs;obtain⟨⟨C,off⟩,hf,a⟩:=AD a;obtain⟨q,b,a⟩:=AD a;obtain⟨z,I,l,c,e,j⟩:=zC ht i hf;obtain⟨vs,rfl,AH⟩:=Hp.1 g;obtain⟨r,m,h⟩:=Aac (w:=w) (hE C q b) (hE C q b).Ze AH a;exact⟨r,by simp[Instr.field,C7 l,c,asAgg,e,j,m],h⟩
 ·cases a
def Jm (β:BB) (G:Aj) (d:Option AB) (v:Option Value):Prop:=d=none/\v=none\/∃i e,d=some i/\v=some e/\AO β G i e
theorem Aco (hf:Dq β G ρ a.tmps) {x:Option Operand} {d:Option AB} (b:Lb ρ x=some d):Jm β G d (x.map a.eval):=by
 cases x with
 | none=>simp only[Lb,Bc]at b;subst b;exact .inl ⟨rfl,rfl⟩
 | some x =>
  simp only[Lb]at b;obtain⟨i,c,e⟩:=AD b;cases e;exact .inr ⟨i,_,rfl,rfl,DP hf c⟩
theorem YH {d:AB} {v:Value} {Bi y e m:Nat} {code:BoundsCode} (a:KJ (some d) Bi y=some m) (AH:AO β G d v) (hc:y<=e):(Instr.sliceBound v e code).run P w=.ok m w/\m<=y:=by
 cases d with
 | int k i =>
  rw[DX]at AH;subst AH;simp only[KJ]at a;obtain⟨b,a⟩:=Ad a;simp only[Ar,Ew]at b;cases a;refine⟨?_,by omega⟩
  have:(0:Int)<=i/\i<=(e:Int):=⟨b.1,by omega⟩
  simp[Instr.sliceBound,asIntOf,this]
 | _=>cases a
theorem Tz {isSlice:Bool} {n e:Nat} {A1 AA:Option AB} {j i:Option Value} (hl:Jm β G A1 j) (hh:Jm β G AA i) {l m:Nat}
  (d:KJ AA n n=some m) (c:KJ A1 0 m=some l) (hc:n<=e):(Instr.sliceBounds isSlice n e j i none).run P w=.ok (l,m,e) w/\l<=m/\m<=n:=by
 rcases hh with⟨rfl,rfl⟩|⟨C,z,rfl,rfl,a⟩<;>rcases hl with⟨rfl,rfl⟩|⟨dl,bE,rfl,rfl,b⟩
 ·cases d;cases c;exact⟨by simp[Instr.sliceBounds],by omega,Nat.le_refl _⟩
 ·cases d;obtain⟨k1,k2⟩:=YH (P:=P) (w:=w) (code:=.sliceB) c b (Nat.le_refl _);exact⟨by simp[Instr.sliceBounds,k1],k2,Nat.le_refl _⟩
 ·cases c;obtain⟨k1,k2⟩:=YH (P:=P) (w:=w) (code:=if isSlice then .sliceAcap else .sliceAlen) d a hc;exact⟨by simp[Instr.sliceBounds,k1],by omega,k2⟩
 ·obtain⟨k1,k2⟩:=YH (P:=P) (w:=w) (code:=if isSlice then .sliceAcap else .sliceAlen) d a hc;obtain⟨u,q⟩:=YH (P:=P) (w:=w) (code:=.sliceB) c b (Nat.le_refl _);exact⟨by simp[Instr.sliceBounds,k1,u],q,k2⟩
theorem AlC {t:TypeId} {ti C:By} (ht:Br P t ti) {e:Nat} (p:ti.k=.slice e) (q:Br P e C) {es:List (List AB)} {u:Value} (i:∃A c,u=.slice A es.length c/\es.length<=c/\(es=[]\/∃b off,A=some ⟨b,off,none⟩/\DD β G b C.size off es))
  {A1 AA:Option AB} {I z:Option Value} (hl:Jm β G A1 I) (hh:Jm β G AA z) {d:AB} (g:KP es A1 AA=some d) :
  ∃r,(Instr.sliceAt t u I z none).run P w=.ok r w/\AO β G d r:=by
 have a:=ht.desc;rw[p]at a;obtain⟨A,c,rfl,j,f⟩:=i;unfold KP at g;obtain⟨m,s,g⟩:=AD g;obtain⟨l,o,g⟩:=AD g;cases g;obtain⟨k1,k2,K⟩:=Tz (P:=P) (w:=w) (isSlice:=true) hl hh s o j;have h:((es.take m).drop l).length=m-l:=by simp;omega
 refine⟨.slice (if c=l then A else A.map (·.add (l*C.size))) (m-l) (c-l),by simp[Instr.sliceAt,Instr.slice,C7 a,k1,q.run_sizeOf],Km.2 ?_⟩
 rw[h];refine⟨_,_,⟨rfl,by omega⟩,?_⟩
 rcases f with rfl|⟨b,off,rfl,n⟩
 ·exact .inl (by simp)
 ·by_cases J:c=l
  ·left;have:m=l:=by omega
   subst this;simp
  ·right;refine⟨b,off+l*C.size,C.size,?_,RO l (RP m n)⟩;simp[J,HI]
end
end Go.Ab
namespace Go.Ab
open Go.RowKit
section
variable {P:Program} {E:Env} {w0:World} {G0:Aj} {D:CW} {o:Oper} {a:Act} {w:World} {β:BB} {G:Aj} {h:Nat->Option A8} {nid:Nat} {ρ:Nat->Option AB}
theorem jY {id:Nat} {o o':A8} (a:h id=some o):Fs β β h (BY h [(id,some o')]) nid:=fun i _ hf=>by
 refine⟨?_,rfl,fun _=>rfl⟩;rw[EV]
 by_cases e:i=id
 ·subst e;rw[hf]at a;cases a
 ·rw[if_neg e];exact hf
theorem RX (hh:Ax E w0 G0 D w β G h) {id b:Nat} {o o':A8} {z ob':Obj} (n:h id=some o) (d:Cc β id o b) (hb:w.heap[b]? = some z) (i:∀c t f,z≠.cells c t f)
  (a:∀x,Cc β id o' x->x=b) (l:FL E w0.heap.size (w.putObj b ob') β G id o'):Ax E w0 G0 D (w.putObj b ob') β G (BY h [(id,some o')]):=by
 have g:b<w.heap.size:=(Gv.1 hb).1;obtain⟨k1,_,C⟩:=hh.own id o b n d;refine hh.move (fun x=>x=b) id o' (Ext.refl β G) ?_ (fun x e _=>World.putObj_heap_other e) (fun _ _=>rfl) (by simp) ?_ ?_ ?_ l ?_ ?_ (fun _ _=>⟨rfl,fun _=>rfl⟩)
 ·exact hh.below.trans ⟨rfl,rfl,rfl,by simp,fun k q=>World.putObj_heap_other (by omega)⟩
 ·rintro x rfl;exact⟨k1,C⟩
 ·rintro x u Bs rfl m j;exact hh.inj u id Bs o x m n j d
 ·rintro x rfl off v p;have:=hh.agree x off v p;unfold World.cell? at this;rw[hb]at this;cases z<;>first|cases this|exact absurd rfl (i _ _ _)
 ·intro x e;exact .inl (a x e)
 ·intro x e;rw[a x e];simpa using g
theorem Nw (s t:ByteArray):(s==t)=decide (s=t):=by
 cases s;cases t;rename_i a b;have:((⟨a⟩:ByteArray)==⟨b⟩)=(a==b):=rfl;rw[this]
 by_cases h:a=b
 ·subst h;simp
 ·simp[h]
theorem RF {b:Bool} {i:TypeId} {e:TypeDesc} {v:Value} (c:P.underlying i=some e) (a:match e with | .bool | .int _ | .string=>True|_=>False) (d:Nat):(Instr.checkKey b (d+1) i v).run P w=.ok () w:=by
 cases e<;>simp only at a<;>simp[Instr.checkKey,C7 c]
theorem AbP (n:Nat) (k j:IntKind) (x y:Int):Instr.sameBits n (.int k x) (.int j y)=(k==j&&x==y):=by cases n<;>simp[Instr.sameBits]
theorem AbQ (n:Nat) (x y:ByteArray):Instr.sameBits n (.string x) (.string y)=(x==y):=by cases n<;>simp[Instr.sameBits]
theorem Aas (n:Nat) (x y:Bool):Instr.sameBits n (.bool x) (.bool y)=(x==y):=by cases n<;>simp[Instr.sameBits]
def Vb:AB->Bool
 | .agg _=>false
 | _=>true
theorem X9:∀{e xs ys:List AB} {r:Bool},Bz xs ys=some r->C9 e xs=true->C9 e ys=true
 | [],[],[],_,_,_=>rfl
 | [],[],y::ys,_,h,_=>by cases y<;>simp[Bz]at h
 | [],x::xs,_,_,_,d=>by simp[C9]at d
 | z::e,[],_,_,_,d=>by cases z<;>simp[C9]at d
 | z::e,x::xs,[],_,h,_=>by cases x<;>simp[Bz]at h
 | z::e,x::xs,y::ys,r,h,d=>by
  cases x<;>cases y<;>simp only[Bz,reduceCtorEq]at h
  ·obtain⟨q,a,_⟩:=AD h;cases z<;>simp only[C9,CI]at d⊢;exact X9 a d
  ·obtain⟨b,h⟩:=Ad h;obtain⟨q,a,_⟩:=AD h;cases z<;>simp only[C9,CI,Ar]at d⊢;have:=eq_of_beq b;subst this;exact⟨d.1,X9 a d.2⟩
  ·obtain⟨q,a,_⟩:=AD h;cases z<;>simp only[C9,CI]at d⊢;exact X9 a d
theorem X4:∀{d xs:List AB},C9 d xs=true->xs.all P6=true
 | [],[],_=>rfl
 | [],x::xs,h=>by simp[C9]at h
 | z::d,[],h=>by cases z<;>simp[C9]at h
 | z::d,x::xs,h=>by
  cases z<;>cases x<;>simp only[C9,CI,Ar]at h
  ·simp[P6,X4 h]
  ·simp[P6,X4 h.2]
  ·simp[P6,X4 h]
theorem Xl (n:Nat):∀{xs ys:List AB} {CZ D2:List Value},Bz xs ys=some true->Ae β G xs CZ->Ae β G ys D2->D2.length=CZ.length/\((D2.zip CZ).all fun p=>Instr.sameBits n p.1 p.2)=true
 | [],[],CZ,D2,_,j,hy=>by rw[CU]at j hy;subst j hy;exact⟨rfl,rfl⟩
 | [],y::ys,_,_,h,_,_=>by cases y<;>simp[Bz]at h
 | x::xs,[],_,_,h,_,_=>by cases x<;>simp[Bz]at h
 | x::xs,y::ys,CZ,D2,h,j,hy=>by
  obtain⟨u,l,rfl,f,d⟩:=CE.1 j;obtain⟨C,z,rfl,a,e⟩:=CE.1 hy;cases x<;>cases y<;>simp only[Bz,reduceCtorEq]at h
  ·obtain⟨q,c,b⟩:=AD h;simp only[Bc,Ar]at b;rw[b.2]at c;obtain⟨k1,k2⟩:=Xl n c d e;rw[Es]at f a;subst f a;have:=eq_of_beq b.1;subst this;exact⟨by simp[k1],by simp only[List.zip_cons_cons,EW,k2,Aas,beq_self_eq_true,CD]⟩
  ·obtain⟨i,h⟩:=Ad h;obtain⟨q,c,b⟩:=AD h;simp only[Bc,Ar]at b;rw[b.2]at c;obtain⟨k1,k2⟩:=Xl n c d e;rw[DX]at f a;subst f a;have:=eq_of_beq b.1;have:=eq_of_beq i
   subst_vars
   exact⟨by simp[k1],by simp only[List.zip_cons_cons,EW,k2,AbP,beq_self_eq_true,CD]⟩
  ·obtain⟨q,c,b⟩:=AD h;simp only[Bc,Ar]at b;rw[b.2]at c;obtain⟨k1,k2⟩:=Xl n c d e;rw[GO]at f a;subst f a;have g:=b.1;rw[Nw]at g;have:=of_decide_eq_true g;subst this;refine⟨by simp[k1],?_⟩
   simp only[List.zip_cons_cons,EW,k2,AbQ,Nw,decide_true,CD]
theorem zL {J:TypeId} {l:By} (g:Br P J l) {k k':AB} {v q:Value} {r:Bool} (hf:Gn l k=true) (c:Ma k k'=some r) (AH:AO β G k v) (d:AO β G k' q) :
  ∃I,P.underlying J=some I/\(Vb k=true->Instr.sameNow I v q=some r)/\(Vb k=false->Instr.sameNow I v q=none/\∀w,(Op.equal J v q).run P w=.ok r w)/\(r=true->Instr.sameBits 10000 q v=true):=by
 have a:=g.desc;cases k with
 | int O n =>
  cases j:l.k<;>rw[j]at a<;>simp[Gn,j]at hf;cases k' with
  | int z Q =>
   rw[DX]at AH d;subst AH d;simp only[Ma]at c;have e:=(Ad c).1;replace c:=(Ad c).2;have e:O=z:=by simpa using e
   subst e;simp only[Bc]at c;subst c;refine⟨_,a,fun _=>by simp[Instr.sameNow],fun h=>(by cases h),fun h=>?_⟩
   have:n=Q:=by simpa using h
   subst this;rw[AbP];simp
  | _=>cases c
 | str s =>
  cases j:l.k<;>rw[j]at a<;>simp[Gn,j]at hf;cases k' with
  | str M =>
   rw[GO]at AH d;subst AH d;simp only[Ma,Bc]at c;subst c;refine⟨_,a,fun _=>by simp[Instr.sameNow],fun h=>(by cases h),fun h=>?_⟩
   rw[Nw]at h;have:s=M:=by simpa using h
   subst this;rw[AbQ,Nw];simp
  | _=>cases c
 | bool b =>
  cases j:l.k<;>rw[j]at a<;>simp[Gn,j]at hf;cases k' with
  | bool K =>
   rw[Es]at AH d;subst AH d;simp only[Ma,Bc]at c;subst c;refine⟨_,a,fun _=>by simp[Instr.sameNow],fun h=>(by cases h),fun h=>?_⟩
   have:b=K:=by simpa using h
   subst this;rw[Aas];simp
  | _=>cases c
 | agg cs =>
  cases j:l.k<;>rw[j]at a<;>simp[Gn,j]at hf;cases k' with
  | agg C =>
   obtain⟨CZ,rfl,f⟩:=Hp.1 AH;obtain⟨D2,rfl,hy⟩:=Hp.1 d;simp only[Ma]at c;obtain⟨u,i,_⟩:=a;refine⟨_,i,fun h=>(by cases h),fun _=>⟨rfl,fun w=>(g.Adh hf.1.1).1 cs C r c hf.2 (X9 c hf.2) β G CZ D2 w f hy⟩,fun h=>?_⟩
   subst h;obtain⟨k1,k2⟩:=Xl (β:=β) (G:=G) 9999 c f hy;show(D2.toArray.size==CZ.toArray.size&&(D2.toArray.toList.zip CZ.toArray.toList).all fun(x,y)=>Instr.sameBits 9999 x y)=true;simp only[List.size_toArray,k1,beq_self_eq_true,Bool.true_and];exact k2
  | _=>cases c
 | _=>cases j:l.k<;>simp[Gn,j]at hf
theorem Ab7 {q:TypeId} {l:By} (c:Br P q l) {k:AB} {v:Value} (hf:Gn l k=true) (AH:AO β G k v):∃u,P.underlying q=some u/\(∀b w,(Instr.checkKey b 10000 q v).run P w=.ok () w)/\(Vb k=false->∃fs,u=.struct fs):=by
 have a:=c.desc;cases i:l.k<;>rw[i]at a<;>cases k<;>simp[Gn,i]at hf
 ·rw[Es]at AH;subst AH;exact⟨_,a,fun b w=>RF a trivial 9999,fun h=>by cases h⟩
 ·rw[DX]at AH;subst AH;exact⟨_,a,fun b w=>RF a trivial 9999,fun h=>by cases h⟩
 ·rw[GO]at AH;subst AH;exact⟨_,a,fun b w=>RF a trivial 9999,fun h=>by cases h⟩
 ·obtain⟨CZ,rfl,e⟩:=Hp.1 AH;obtain⟨j,d,_⟩:=a;exact⟨_,d,fun b w=>c.key hf.1.2 _ hf.2 b β G CZ w e,fun _=>⟨_,rfl⟩⟩
theorem Ac7 {e:By} {k:AB} (hf:Gn e k=true):LG k=true:=by
 cases d:e.k<;>cases k<;>simp[Gn,d]at hf<;>first|rfl|skip
 exact X4 hf.2
def Hl (P:Program) (l:TypeId) (e:TypeDesc) (j:Bool) (v:Value) (d:List MapEntry) (i:Nat) (r:Option (Nat×Value)):Prop :=
 (j=true->Instr.findNow e v d i=some r)/\(j=false->(∀w,(Instr.findAsking l v d i).run P w=.ok r w)/\(Instr.findNow e v d i=none\/(d=[]/\r=none)))
theorem Hl.run {d:TypeId} {e:TypeDesc} {i:Bool} {v:Value} {j:List MapEntry} {r:Option (Nat×Value)} (h:Hl P d e i v j 0 r) (b:P.underlying d=some e) (w:World):(Instr.findKey d v j).run P w=.ok r w:=by
 cases i with
 | true=>simp[Instr.findKey,C7 b,h.1 rfl]
 | false =>
  obtain⟨c,a⟩:=h.2 rfl;rcases a with a|⟨rfl,rfl⟩
  ·simp[Instr.findKey,C7 b,a,c]
  ·simp[Instr.findKey,C7 b,Instr.findNow]
theorem Hl.nil {j:TypeId} {e:TypeDesc} {d:Bool} {v:Value} {i:Nat}:Hl P j e d v [] i none :=
 ⟨fun _=>rfl,fun _=>⟨fun w=>rfl,.inr ⟨rfl,rfl⟩⟩⟩
theorem Hl.hit {j:TypeId} {d:TypeDesc} {e:Bool} {v:Value} {m:MapEntry} {l:List MapEntry} {i:Nat} (b:e=true->Instr.sameNow d v m.key=some true) (a:e=false->Instr.sameNow d v m.key=none/\∀w,(Op.equal j v m.key).run P w=.ok true w):Hl P j d e v (m::l) i (some (i,m.val)) :=
 ⟨fun h=>by simp[Instr.findNow,b h],fun h=>⟨fun w=>by simp[Instr.findAsking,(a h).2],.inl (by simp[Instr.findNow,(a h).1])⟩⟩
theorem Hl.Adw {j:TypeId} {d:TypeDesc} {e:Bool} {v:Value} {m:MapEntry} {l:List MapEntry} {i:Nat} {r:Option (Nat×Value)} (b:e=true->Instr.sameNow d v m.key=some false) (a:e=false->Instr.sameNow d v m.key=none/\∀w,(Op.equal j v m.key).run P w=.ok false w) (h:Hl P j d e v l (i+1) r):Hl P j d e v (m::l) i r :=
 ⟨fun hs=>by simp[Instr.findNow,b hs,h.1 hs],fun hs=>⟨fun w=>by simp[Instr.findAsking,(a hs).2,(h.2 hs).1],.inl (by simp[Instr.findNow,(a hs).1])⟩⟩
theorem z7 {C:TypeId} {I:By} (h:Br P C I) {k:AB} {v:Value} (hf:Gn I k=true) (AH:AO β G k v) {K:TypeDesc} (e:P.underlying C=some K) :
  ∀{es:List (AB×AB)} {q:List MapEntry} {r:Option AB} (i:Nat),Ic β G es q->M1 k es=some r →
  ∃r',Hl P C K (Vb k) v q i r'/\((r=none/\r'=none)\/∃d j u,r=some d/\r'=some (i+j,u)/\AO β G d u)
 | [],q,r,i,J,a=>by
  simp only[Ic]at J;subst J;simp only[M1,Bc]at a;subst a;exact⟨none,Hl.nil,.inl ⟨rfl,rfl⟩⟩
 | (k',M)::es,q,r,i,⟨m,W,z,U,Z,h4,h5,h6⟩,a=>by
  subst z;simp only[M1]at a;obtain⟨b,hb,a⟩:=AD a;obtain⟨O,n,g,l,_⟩:=zL h hf hb AH U;rw[e]at n;cases n;cases b with
  | true =>
   cases a;exact⟨_,Hl.hit g l,.inr ⟨M,0,m.val,rfl,rfl,Z⟩⟩
  | false =>
   obtain⟨r',f,c⟩:=z7 h hf AH e (i+1) h6 a;refine⟨r',Hl.Adw g l f,?_⟩;rcases c with c|⟨d,j,u,AS,BG,Q⟩
   ·exact .inl c
   ·exact .inr ⟨d,j+1,u,AS,by rw[BG];congr 2;omega,Q⟩
theorem Al7 (hE:∀t ti,E.ty t=some ti->Br P t ti) (hh:Ax E w0 G0 D w β G h) {t O e:TypeId} {ti M U:By} (a1:Br P t ti) (y:ti.k=.map O e) (x:Br P e M) (s:Br P O U)
  {m k:AB} {W K:Value} (hk:AO β G k K) (hf:Gn U k=true) {es:List (AB×AB)}
  (f:(match m with | .Cv=>some [] | .map id=>(h id).bind (fun | .map es=>some es|_=>none)|_=>none)=some es) {r:Option AB} (AH:M1 k es=some r) {z:AB} (hz:M.zero=[z]) (a3:M.size=1) (a0:M.isAgg=false)
  (ok:Bool) (Q:AO β G m W):∃v,(Instr.lookup t W K ok).run P w=.ok v w/\AO β G (match r with|some d=>(bif ok then .Ap [d,.bool true]else d)|none=>(bif ok then .Ap [z,.bool false]else z)) v:=by
 have a:=a1.desc;rw[y]at a;obtain⟨dd,o,p,_⟩:=Ab7 (β:=β) (G:=G) s hf hk;obtain⟨i,I,AA,_,_,q,_⟩:=x.IB;have g:AO β G z I:=x.Dj a0 z hz i I AA q β G;have l:(zeroValue e).run P w=.ok I w:=by simp[zeroValue,typeInfo,AA,q]
 have J:∀{r':Option (Nat×Value)},((r=none/\r'=none)\/∃d j u,r=some d/\r'=some (0+j,u)/\AO β G d u) →
   AO β G (match r with|some d=>(bif ok then .Ap [d,.bool true]else d)|none=>(bif ok then .Ap [z,.bool false]else z))
    (match r' with|some (_,v)=>(if ok then Value.tuple #[v,.bool true]else v)|none=>(if ok then Value.tuple #[I,.bool false]else I)):=by
  rintro r' (⟨rfl,rfl⟩|⟨d,j,u,rfl,rfl,Z⟩)
  ·cases ok
   ·exact g
   ·exact HU.2 ⟨[I,.bool false],rfl,CE.2 ⟨_,_,rfl,g,CE.2 ⟨_,_,rfl,Es.2 rfl,CU.2 rfl⟩⟩⟩
  ·cases ok
   ·exact Z
   ·exact HU.2 ⟨[u,.bool true],rfl,CE.2 ⟨_,_,rfl,Z,CE.2 ⟨_,_,rfl,Es.2 rfl,CU.2 rfl⟩⟩⟩
 cases m with
 | Cv =>
  cases f;rw[jF]at Q;subst Q;cases AH;have c:(Instr.findKey O K ([]:List MapEntry)).run P w=.ok none w:=by simp[Instr.findKey,C7 o,Instr.findNow]
  refine⟨_,?_,J (r':=none) (.inl ⟨rfl,rfl⟩)⟩;simp[Instr.lookup,C7 a,p,c,l]
 | map id =>
  obtain⟨ob,A5,f⟩:=AD f;cases ob with
  | map a2 =>
   cases f;obtain⟨b,hb,rfl⟩:=Ud.1 Q;obtain⟨b',ms,C,h1,h2,h3,_⟩:=hh.obj id _ A5;rw[hb]at h1;cases h1;have n:(getObj b).run P w=.ok (.map ms C) w:=by simp[getObj,Sem.run,h2]
   obtain⟨r',h4,h5⟩:=z7 s hf hk o 0 h3 AH;have c:(Instr.findKey O K ms.toList).run P w=.ok r' w:=h4.run o w;refine⟨_,?_,J h5⟩;cases r' with
   | none=>simp[Instr.lookup,C7 a,n,p,c,l]
   | some jx=>simp[Instr.lookup,C7 a,n,p,c]
  | _=>cases f
 | _=>cases f
theorem AaU {O:TypeId} {Q:By} (s:Br P O Q) {k d:AB} {v u:Value} (hf:Gn Q k=true) (AH:AO β G k v) (q:AO β G d u) (g:BW d=true) {dd:TypeDesc} (h:P.underlying O=some dd) :
  ∀{es C:List (AB×AB)} {I:List MapEntry} (i z:Nat),Ic β G es I->Nh k d es=some C →
  ∃r',Hl P O dd (Vb k) v I i r'/\(∀j x,r'=some (j,x)->i<=j/\∃m,I[j-i]? = some m/\Instr.sameBits 10000 m.key v=true) ∧
   Ic β G C (match r' with|some (j,_)=>I.modify (j-i) (fun e=>{ e with key:=v,val:=u })|none=>I++[{ key:=v,val:=u,born:=z }])
 | [],C,I,i,z,U,a=>by
  simp only[Ic]at U;subst U;simp only[Nh,Bc]at a;subst a;have f:LG k=true:=Ac7 hf;exact⟨none,Hl.nil,by simp,⟨_,[],rfl,AH,q,f,g,rfl⟩⟩
 | (k',d')::es,C,I,i,z,⟨m,M,K,J,h3,W,Z,h6⟩,a=>by
  subst K;simp only[Nh]at a;obtain⟨b,hb,a⟩:=AD a;obtain⟨a0,t,w,n,y⟩:=zL s hf hb AH J;rw[h]at t;cases t;have f:LG k=true:=Ac7 hf;cases b with
  | true =>
   cases a;refine⟨some (i,m.val),Hl.hit w n,fun j x r=>?_,?_⟩
   ·cases r;exact⟨Nat.le_refl _,m,by simp,y rfl⟩
   ·simp only[Nat.sub_self,List.modify_zero_cons];exact⟨_,M,rfl,AH,q,f,g,h6⟩
  | false =>
   obtain⟨a1,o,a⟩:=AD a;cases a;obtain⟨r',p,l,c⟩:=AaU s hf AH q g h (i+1) z h6 o;refine⟨r',Hl.Adw w n p,fun j x r=>?_,?_⟩
   ·obtain⟨k1,m1,k2,k3⟩:=l j x r;exact⟨by omega,m1,by rw[show j-i=(j-(i+1))+1 by omega];simpa using k2,k3⟩
   ·cases r' with
    | none=>exact⟨m,_,rfl,J,h3,W,Z,c⟩
    | some jx =>
     obtain⟨j,x⟩:=jx;obtain⟨k1,_⟩:=l j x rfl;simp only at c⊢;rw[show j-i=(j-(i+1))+1 by omega,List.modify_succ_cons]
     exact⟨m,_,rfl,J,h3,W,Z,c⟩
theorem xU {α γ:Type} (f:α->α) (g:α->γ) (b:∀x,g (f x)=g x):∀(l:List α) (j:Nat),(l.modify j f).map g=l.map g
 | [],j=>by cases j<;>simp[List.modify]
 | a::l,0=>by simp[b]
 | a::l,j+1=>by simp[xU f g b l j]
theorem AkT (hh:Ax E w0 G0 D w β G h) {t Q e:TypeId} {ti U:By} (s:Br P t ti) (r:ti.k=.map Q e) (o:Br P Q U)
  {id:Nat} {k d:AB} {W J u:Value} (hm:AO β G (.map id) W) (z:AO β G k J) (hu:AO β G d u) (y:BW d=true) (hf:Gn U k=true) {es I:List (AB×AB)}
  (p:h id=some (.map es)) (hp:Nh k d es=some I) :
  ∃w',(Instr.mapUpdate t W J u).run P w=.ok () w'/\Ax E w0 G0 D w' β G (BY h [(id,some (.map I))])/\Fs β β h (BY h [(id,some (.map I))]) nid:=by
 have a:=s.desc;rw[r]at a;obtain⟨dd,n,q,_⟩:=Ab7 (β:=β) (G:=G) o hf z;obtain⟨b,hb,rfl⟩:=Ud.1 hm;obtain⟨b',K,C,Z,m,h3,g,f⟩:=hh.obj id _ p;rw[hb]at Z;cases Z;obtain⟨r',h4,h5,h6⟩:=AaU o hf z hu y n 0 C h3 hp;have c:(Instr.findKey Q J K.toList).run P w=.ok r' w:=h4.run n w;have l:(getObj b).run P w=.ok (.map K C) w:=by simp[getObj,Sem.run,m]
 have i:∀O,(setObj b O).run P w=.ok () (w.putObj b O):=fun O=>by simp[setObj,Sem.run,m,World.putObj]
 cases r' with
 | none =>
  refine⟨w.putObj b (.map (K.push { key:=J,val:=u,born:=C }) (C+1)),by simp[Instr.mapUpdate,C7 a,l,q,c,i],?_,jY p⟩
  refine RX hh p hb m (by intros;simp) (fun x v=>by rw[show β.BE id=some x from v]at hb;cases hb;rfl) ?_
  exact⟨b,_,_,hb,World.putObj_heap_same (Gv.1 m).1,by simpa using h6,by simp[g,f,List.range_succ],by simp[f]⟩
 | some jx =>
  obtain⟨j,x⟩:=jx;obtain⟨_,m1,k2,k3⟩:=h5 j x rfl;have M:K[j]? = some m1:=by simpa using k2
  refine⟨w.putObj b (.map (K.modify j fun e=>{ e with key:=J,val:=u }) C),by simp[Instr.mapUpdate,C7 a,l,q,c,i,Instr.keyThatStays,M,k3],?_,jY p⟩
  refine RX hh p hb m (by intros;simp) (fun x v=>by rw[show β.BE id=some x from v]at hb;cases hb;rfl) ?_
  exact⟨b,_,_,hb,World.putObj_heap_same (Gv.1 m).1,by simpa using h6,by rw[Array.toList_modify,Array.size_modify,xU _ _ (by intro x;rfl),g],by simp[f]⟩
end
end Go.Ab
namespace Go.Ab
open Go.RowKit
section
variable {P:Program} {E:Env} {w0:World} {G0:Aj} {D:CW} {o:Oper} {a:Act} {w:World} {β:BB} {G:Aj} {h:Nat->Option A8} {nid:Nat} {ρ:Nat->Option AB}
theorem kM {t:TypeId} {d:AB} {v:Value}:AO β G (.iface t d) v↔∃u,v=.iface t u/\AO β G d u:=by conv=>lhs;unfold AO
theorem Xz {v:Value}:AO β G .Bl v↔v=.nilIface:=by conv=>lhs;unfold AO
theorem Alb {t:TypeId} {ti:By} (ht:Br P t ti) {z:AB} (j:Ht ti=some z):∃q,(zeroValue t).run P w=.ok q w/\AO β G z q:=by
 obtain⟨i,q,AA,_,_,b,g,a⟩:=ht.IB;refine⟨q,by simp[zeroValue,typeInfo,AA,b],?_⟩
 unfold Ht at j;cases u:ti.isAgg with
 | true =>
  rw[u]at j;simp only[AY,Bc]at j;subst j;obtain⟨cs,rfl⟩:=ht.AAL u i q AA b;have:=a β G;exact Hp.2 ⟨cs.toList,by simp,by simpa[Value.cells]using this⟩
 | false =>
  rw[u]at j;simp only[Ac]at j;cases l:ti.zero with
  | nil=>rw[l]at j;cases j
  | cons d ds =>
   rw[l]at j;simp only[List.head?_cons,Bc]at j;subst j;cases ds with
   | nil=>exact ht.Dj u d l i q AA b β G
   | cons e es =>
    exfalso;have f:=FR (a β G);rw[l]at f;have c:∀cs,q≠.agg cs:=fun cs hc=>by
     subst hc;have:=ht.AAP u;rw[l]at this;simp at this
    have:q.cells = #[q]:=by
     cases q<;>first|rfl|exact absurd rfl (c _)
    rw[this]at f;simp at f
theorem AaB {t:TypeId} {ti:By} (ht:Br P t ti) (g:ti.k≠.iface):∃d,P.underlying t=some d/\∀j,d≠.interface j:=by
 have e:=ht.desc;cases i:ti.k<;>rw[i]at e<;>simp only at e
 all_goals first
  | exact⟨_,e,fun _ h=>by cases h⟩
  | (obtain⟨f,e,_⟩:=e;exact⟨_,e,fun _ h=>by cases h⟩)
  | (obtain⟨a,b,c,e⟩:=e;exact⟨_,e,fun _ h=>by cases h⟩)
  | (exact absurd i g)
theorem AkQ {t:TypeId} {ti:By} (ht:Br P t ti) (a:ti.k≠.iface) {d:AB} {v:Value} (AH:AO β G d v):(Instr.makeInterface t v).run P w=.ok (.iface t v) w/\AO β G (.iface t d) (.iface t v):=by
 obtain⟨e,b,hn⟩:=AaB ht a;refine⟨?_,kM.2 ⟨v,rfl,AH⟩⟩;unfold Instr.makeInterface;rw[Cz,C7 b w];cases e<;>first|rfl|exact absurd rfl (hn _)
theorem AkP {t xt:TypeId} {ti:By} (ht:Br P t ti) (i:ti.k≠.iface) {x d:AB} {v:Value} {ok:Bool}
  (a:(match x with
   | .Bl=>bif ok then(Ht ti).bind fun z=>some (.Ap [z,.bool false])else none
   | .iface t' v=>bif Nat.beq t' t then some (bif ok then .Ap [v,.bool true]else v)else bif ok then(Ht ti).bind fun z=>some (.Ap [z,.bool false])else none
   | _=>none:Option AB)=some d) (AH:AO β G x v):∃r,(Instr.typeAssert v xt t ok).run P w=.ok r w/\AO β G d r:=by
 obtain⟨I,g,hn⟩:=AaB ht i;have j:∀{z:AB},Ht ti=some z->∃l,(zeroValue t).run P w=.ok l w/\AO β G (.Ap [z,.bool false]) (.tuple #[l,.bool false]):=fun q=>by
  obtain⟨l,c,b⟩:=Alb (P:=P) (w:=w) (β:=β) (G:=G) ht q;exact⟨l,c,HU.2 ⟨[l,.bool false],rfl,CE.2 ⟨_,_,rfl,b,CE.2 ⟨_,_,rfl,Es.2 rfl,CU.2 rfl⟩⟩⟩⟩
 cases x with
 | Bl =>
  rw[Xz]at AH;subst AH;cases ok with
  | false=>cases a
  | true =>
   obtain⟨z,q,a⟩:=AD a;cases a;obtain⟨l,c,b⟩:=j q;refine⟨_,?_,b⟩;unfold Instr.typeAssert;rw[Cz,C7 g w];cases I<;>first|(simp[Result.andThen,c];done)|exact absurd rfl (hn _)
 | iface t' J =>
  obtain⟨u,rfl,f⟩:=kM.1 AH;simp only at a;cases C:Nat.beq t' t with
  | true =>
   have:t'=t:=Al C;subst this;rw[C]at a;simp only[AY,Bc]at a;subst a;cases ok with
   | true =>
    refine⟨.tuple #[u,.bool true],?_,HU.2 ⟨[u,.bool true],rfl,CE.2 ⟨_,_,rfl,f,CE.2 ⟨_,_,rfl,Es.2 rfl,CU.2 rfl⟩⟩⟩⟩;unfold Instr.typeAssert;rw[Cz,C7 g w];cases I<;>first|(simp[Result.andThen];done)|exact absurd rfl (hn _)
   | false =>
    refine⟨u,?_,f⟩;unfold Instr.typeAssert;rw[Cz,C7 g w];cases I<;>first|(simp[Result.andThen];done)|exact absurd rfl (hn _)
  | false =>
   have h:t'≠t:=fun e=>by subst e;rw[Nat.beq_refl]at C;cases C
   rw[C]at a;simp only[Ac]at a;cases ok with
   | false=>cases a
   | true =>
    obtain⟨z,q,a⟩:=AD a;cases a;obtain⟨l,c,b⟩:=j q;refine⟨_,?_,b⟩;unfold Instr.typeAssert;rw[Cz,C7 g w];cases I<;>first|(simp[Result.andThen,c,h];done)|exact absurd rfl (hn _)
 | _=>cases a
theorem Aaa (z:Array Value) (e:Nat) (a:z.size=e) (b:0<e):∀k,((Array.range (k*e)).map (z[· % z.size]!)).toList=(List.replicate k z.toList).flatten
 | 0=>by simp
 | k+1=>by
  have ih:=Aaa z e a b k;simp only[Array.toList_map,Array.toList_range]at ih⊢;rw[List.replicate_succ,List.flatten_cons,<-ih,show(k+1)*e=e+k*e by rw[Nat.add_mul,Nat.one_mul,Nat.add_comm],List.range_add,List.map_append,List.map_map]
  congr 1
  ·apply List.ext_getElem
   ·simp[a]
   ·intro i c d;simp only[List.length_map,List.length_range]at c;simp only[List.getElem_map,List.getElem_range,Array.getElem_toList];rw[a,Nat.mod_eq_of_lt c];simp[a,c]
  ·apply List.map_congr_left;intro i _;simp only[Function.comp_def];rw[a,Nat.add_mod_left]
theorem AbD {d:List AB} {vs:List Value} (h:Ae β G d vs):∀k,Ae β G (List.replicate k d).flatten (List.replicate k vs).flatten
 | 0=>by simp[CU]
 | k+1=>by
  rw[List.replicate_succ,List.replicate_succ,List.flatten_cons,List.flatten_cons];exact JA.2 ⟨_,_,rfl,h,AbD h k⟩
theorem AkR (hE:∀t ti,E.ty t=some ti->Br P t ti) (hh:Ax E w0 G0 D w β G h) (r:C3 β h nid) {t e:TypeId} {ti C:By} (ht:Br P t ti) (hk:ti.k=.slice e) (q:E.ty e=some C) {k1 k2:IntKind} {n:Int}
  (h0:0<=n) (hb:n.toNat*(C.bytes+1)<=200000000000000) (f:0<C.size) (W:B4 C.zero=true) :
  ∃v w' β',(Instr.makeSlice t (.int k1 n) (.int k2 n)).run P w=.ok v w'/\AO β' G (.rs nid 0) v/\Ext β G β' G/\Ax E w0 G0 D w' β' G (BY h [(nid,some (.row e (List.replicate n.toNat C.zero) 0 0))])/\Fs β β' h (BY h [(nid,some (.row e (List.replicate n.toNat C.zero) 0 0))]) nid:=by
 have l:=ht.desc;rw[hk]at l;have I:=hE e C q;have a:=RT q;obtain⟨ie,z,AA,hs,x,Q,K,g⟩:=I.IB;obtain⟨m,rfl⟩:∃m:Nat,n=(m:Int):=⟨n.toNat,by omega⟩
 simp only[Int.toNat_natCast]at hb⊢;have O:m<=200000000000000:=by
  have:=Nat.le_mul_of_pos_right m (show 0<C.bytes+1 by omega)
  omega
 have J:C.bytes*m<=200000000000000:=by
  have h1:=Nat.mul_le_mul_left m (show C.bytes<=C.bytes+1 by omega)
  rw[Nat.mul_comm]at h1;omega
 have o:m<=maxLen:=by simp only[maxLen];omega
 obtain⟨w',p,j,y⟩:=run_make_full (P:=P) w w0.heap.size t e ie z C.size l AA Q hs k1 k2 m (by rw[x];omega) o hh.below.size
 have d:(madeCells z.cells (m*C.size)).toList=(List.replicate m z.cells.toList).flatten:=Aaa z.cells C.size K f m;have s:Ae β G (List.replicate m C.zero).flatten (madeCells z.cells (m*C.size)).toList:=by
  rw[d];exact AbD (g β G) m
 have i:w'.ownsRow w0.heap.size e (E0 E e) (.slice (some ⟨w.heap.size,0,none⟩) m m) (List.replicate m C.zero).length (madeCells z.cells (m*C.size)).toList:=by
  rw[a,List.length_replicate];exact j
 have u:C.zero.length=C.size:=by have:=FR (g β G);simp at this;omega
 obtain⟨β',U,M,m3,Z⟩:=Y4 (nid:=nid) hh r y i (by intro b hb;cases hb;exact Nat.le_refl _) ⟨_,_,_,rfl⟩ s (fun c hc=>by
  rw[List.mem_replicate]at hc;rw[a,hc.2];exact⟨u,W,I.Aif⟩) (by rw[a];exact f)
 exact⟨_,_,β',p,M,U,m3,Z⟩
theorem YP {β':BB} {G':Aj} (e:Ext β G β' G') {d:Option AB} {v:Option Value} (h:Jm β G d v):Jm β' G' d v:=by
 rcases h with h|⟨i,j,b,a,c⟩
 ·exact .inl h
 ·exact .inr ⟨i,j,b,a,AO.mono e _ _ c⟩
theorem UH (e:Nat):∀(n:Nat) (cs:List AB),(Hb e n cs).length=n
 | 0,_=>rfl
 | n+1,cs=>by simp[Hb,UH e n]
theorem jN {g e:Nat} (m:∀o:Nat,True):∀(n:Nat) (cs:List AB) (off:Nat),n*e<=cs.length->B4 (cs.take (n*e))=true->cs.all Ct=true->D7 β G g off cs->DD β G g e off (Hb e n cs)
 | 0,_,_,_,_,_,_=>by simp[Hb,DD]
 | n+1,cs,off,hl,hf,hc,b=>by
  have f:(n+1)*e=e+n*e:=by rw[Nat.add_mul,Nat.one_mul,Nat.add_comm]
  rw[f]at hl hf;unfold Hb DD;have p:(cs.take e).length=e:=by simp;omega
  have j:B4 (cs.take e)=true:=MS.2 fun c hc=>(MS.1 hf) c (by
   rw[List.take_add];exact List.mem_append.2 (.inl hc))
  have i:B4 ((cs.drop e).take (n*e))=true:=MS.2 fun c hc=>(MS.1 hf) c (by
   rw[List.take_add];exact List.mem_append.2 (.inr hc))
  have l:(cs.take e).all Ct=true:=List.all_eq_true.2 fun c a=>List.all_eq_true.1 hc c (List.mem_of_mem_take a);have h:(cs.drop e).all Ct=true:=List.all_eq_true.2 fun c a=>List.all_eq_true.1 hc c (List.mem_of_mem_drop a);have d:∀(k:Nat) (cs:List AB) (off:Nat),D7 β G g off cs->D7 β G g off (cs.take k):=by
   intro k
   induction k with
   | zero=>intro cs off _;simp[D7]
   | succ k ih =>
    intro cs off b;cases cs with
    | nil=>simp[D7]
    | cons c cs=>unfold D7 at b;simp only[List.take_succ_cons];unfold D7;exact⟨b.1,ih cs (off+1) b.2⟩
  exact⟨p,⟨j,l⟩,d e cs off b,jN m n (cs.drop e) (off+e) (by simp;omega) i h (YQ e b)⟩
theorem AcK (hh:Ax E w0 G0 D w β G h) {id:Nat} {J:TypeId} {cs:List AB} (n:h id=some (.cells J cs)) {b:Nat} (hb:β.BE id=some b) :
  ∃G',Ext β G β G'/\Ax E w0 G0 D w β G' (BY h [(id,none)])/\D7 β G' b 0 cs:=by
 obtain⟨C,vs,u,y,O,Q,z⟩:=hh.obj id _ n;rw[hb]at u;cases u;have f:Cc β id (.cells J cs) b:=hb;obtain⟨U,M,K⟩:=hh.own id _ b n f;have k:∀j v,vs.toList[j]? = some v->w.cell? ⟨b,j,none⟩=some v:=fun j v p=>by
  unfold World.cell?;simp only[y];simpa using p
 have t:Ext β G β (IP G b vs.toList):=⟨fun C o v c=>by
  unfold IP
  by_cases e:C=b
  ·subst e;rw[z o]at c;cases c
  ·rw[if_neg e];exact c,fun _ _ h=>h,fun _ _ _ h=>h⟩
 have m:D7 β (IP G b vs.toList) b 0 cs:=iR (Ae.mono t _ _ O) (fun j v p=>by
  have s:j<vs.toList.length:=(OE.1 p).1;unfold IP;rw[if_pos rfl,Nat.zero_add,if_pos s];exact p)
 refine⟨IP G b vs.toList,t,?_,m⟩;have a:Ax E w0 G0 D w β G (BY h [(id,none)]):=hh.less fun i x AA=>by
  rw[EV]at AA
  by_cases I:i=id
  ·rw[if_pos I]at AA;cases AA
  ·rw[if_neg I]at AA;exact AA
 have r:∀i x C,BY h [(id,none)] i=some x->Cc β i x C->C≠b:=fun i x C AA l e=>by
  subst e;rw[EV]at AA
  by_cases I:i=id
  ·rw[if_pos I]at AA;cases AA
  ·rw[if_neg I]at AA;exact I (hh.inj i id x _ C AA n l f)
 refine⟨a.below,fun C g=>?_,fun C o v c=>?_,fun i x AA=>?_,a.own,a.inj,fun d x q=>?_,hh.H0⟩
 ·rw[<-a.g0 C g];funext o;unfold IP;rw[if_neg (by omega)]
 ·unfold IP at c
  by_cases e:C=b
  ·subst e;rw[if_pos rfl]at c
   by_cases g:o<vs.toList.length
   ·rw[if_pos g]at c;exact k o v c
   ·rw[if_neg g]at c;exact hh.agree _ _ _ c
  ·rw[if_neg e]at c;exact hh.agree _ _ _ c
 ·refine FL.Cs t (fun _=>rfl) (fun C l=>⟨rfl,fun o=>?_⟩) (a.obj i x AA);unfold IP;rw[if_neg (r i x C AA l)]
 ·obtain⟨BI,BD,B9⟩:=a.marks d x q;refine⟨BI,BD,fun o=>?_⟩;unfold IP;rw[if_neg (fun e=>by rw[e,(hh.own id _ b n f).2.2]at q;cases q)]
  exact B9 o
theorem AkV (hE:∀t ti,E.ty t=some ti->Br P t ti) (hh:Ax E w0 G0 D w β G h) {t e:TypeId} {ti C:By} (ht:Br P t ti) {n:Nat} (U:ti.k=.array n e) (v:E.ty e=some C) {id off:Nat} {u:Value} (AH:AO β G (.ptr id off) u)
  {O:TypeId} {cs:List AB} (z:h id=some (.cells O cs)) (W:off+n*C.size<=cs.length) (y:0<C.size) (hf:B4 ((cs.drop off).take (n*C.size))=true)
  {A1 AA:Option AB} {J I:Option Value} (hl:Jm β G A1 J) (q:Jm β G AA I) {d:AB} (f:KP (Hb C.size n (cs.drop off)) A1 AA=some d) :
  ∃r G',(Instr.sliceAt t u J I none).run P w=.ok r w/\AO β G' d r/\Ext β G β G'/\Ax E w0 G0 D w β G' (BY h [(id,none)]):=by
 have j:=ht.desc;rw[U]at j;have Z:=hE e C v;obtain⟨b,hb,rfl⟩:=Ja.1 AH;obtain⟨b',vs,x,h2,h3,Q,h5⟩:=hh.obj id _ z;rw[hb]at x;cases x;obtain⟨M,s,p,g⟩:=AcK hh z hb;have a:DD β M b C.size off (Hb C.size n (cs.drop off)):=by
  refine jN (fun _=>trivial) n (cs.drop off) off (by simp;omega) hf (List.all_eq_true.2 fun c o=>List.all_eq_true.1 Q c (List.mem_of_mem_drop o)) ?_
  have:=YQ off g
  rwa [Nat.zero_add]at this
 unfold KP at f;obtain⟨m,k1,f⟩:=AD f;obtain⟨l,k2,f⟩:=AD f;cases f;rw[UH]at k1;obtain⟨BI,BD,B9⟩:=Tz (P:=P) (w:=w) (isSlice:=false) (YP s hl) (YP s q) k1 k2 (Nat.le_refl _);have i:(((Hb C.size n (cs.drop off)).take m).drop l).length=m-l:=by simp[UH];omega
 refine⟨.slice (some (if n=l then⟨b,off,none⟩else(⟨b,off,none⟩:Addr).add (l*C.size))) (m-l) (n-l),M,?_,Km.2 ?_,s,?_⟩
 ·simp[Instr.sliceAt,C7 j,Instr.sureAddr,BI,Z.run_sizeOf]
 ·rw[i];refine⟨_,_,⟨rfl,by omega⟩,?_⟩
  by_cases K:n=l
  ·left;have:m=l:=by omega
   subst this;simp
  ·right;refine⟨b,off+l*C.size,C.size,?_,RO l (RP m a)⟩;simp[K,HI]
 ·exact p
theorem AkW (hE:∀t ti,E.ty t=some ti->Br P t ti) {t e:TypeId} {ti z:By} (ht:Br P t ti) {n:Nat} (s:ti.k=.array n e) (p:E.ty e=some z) {u:Value}
  {cs:List AB} (AH:AO β G (.CN cs) u) (q:n*z.size<=cs.length) (hc:cs.all Ct=true)
  {A1 AA:Option AB} {I C:Option Value} (hl:Jm β G A1 I) (o:Jm β G AA C) {d:AB} (f:KP (Hb z.size n cs) A1 AA=some d) :
  ∃r,(Instr.sliceAt t u I C none).run P w=.ok r w/\AO β G d r:=by
 have i:=ht.desc;rw[s]at i;have v:=hE e z p;obtain⟨hf,b,off,rfl,g⟩:=N9.1 AH;have a:DD β G b z.size off (Hb z.size n cs):=jN (fun _=>trivial) n cs off q (MS.2 fun c j=>(MS.1 hf) c (List.mem_of_mem_take j)) hc g;unfold KP at f;obtain⟨m,k1,f⟩:=AD f;obtain⟨l,k2,f⟩:=AD f;cases f;rw[UH]at k1;obtain⟨BI,BD,B9⟩:=Tz (P:=P) (w:=w) (isSlice:=false) hl o k1 k2 (Nat.le_refl _);have h:(((Hb z.size n cs).take m).drop l).length=m-l:=by simp[UH];omega
 refine⟨.slice (some (if n=l then⟨b,off,none⟩else(⟨b,off,none⟩:Addr).add (l*z.size))) (m-l) (n-l),?_,Km.2 ?_⟩
 ·simp[Instr.sliceAt,C7 i,Instr.sureAddr,BI,v.run_sizeOf]
 ·rw[h];refine⟨_,_,⟨rfl,by omega⟩,?_⟩
  by_cases J:n=l
  ·left;have:m=l:=by omega
   subst this;simp
  ·right;refine⟨b,off+l*z.size,z.size,?_,RO l (RP m a)⟩;simp[J,HI]
end
end Go.Ab
