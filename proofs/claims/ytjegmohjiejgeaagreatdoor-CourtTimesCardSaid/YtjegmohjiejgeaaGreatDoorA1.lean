/- What the code of the program comes to on plain values. -/
import GoSem.Step
import Derived.Orders
import Derived.Below
import Derived.WalkKit
import Derived.CallsIn
import Derived.Laws.CopyRow
import Derived.Great.BuildSlice
import Derived.Deep.DeepAppendWide
import Derived.Lib.AppendStr
import Derived.Room.AppendFits
import Derived.RangeFuncRecord
import Derived.Laws.OwnMore
set_option linter.unusedSectionVars false
set_option linter.unusedVariables false
set_option linter.unusedSimpArgs false
set_option linter.defProp false
namespace Go.Ab
def ja:=@Array.getElem?_eq_some_iff
def jb:=@List.drop_eq_getElem_cons
def jc:=@List.getElem?_eq_some_iff
def jd:=@List.drop_eq_nil_of_le
def je:=@Nat.eq_of_beq_eq_true
def jf:=@Nat.le_of_ble_eq_true
def jg:=@Bool.false_eq_true
def jh:=@Option.some.injEq
def ji:=@Go.run_underlying
def jj:=@List.append_assoc
def jk:=@decide_eq_true_eq
def jl:=@List.getElem_mem
def jm:=@Option.bind_some
def jn:=@Bool.and_eq_true
def jo:=@List.append_nil
def jp:=@Option.map_none
def jq:=@Option.map_some
def jr:=@List.map_cons
def jt:=@List.all_cons
def ju:=@Bool.and_self
def jv:=@List.mem_cons
def jw:=@Sum.elim_inl
def jy:=@Sum.elim_inr
def jz:=@Sem.run_bind
def jA:=@cond_false
def jB:=@cond_true
inductive DV where
 | bool (b:Bool)
 | int (k:IntKind) (n:Int)
 | str (s:ByteArray)
 | nilp
 | ptr (id off:Nat)
 | rptr (id ver i esz off:Nat)
 | pub (cs:List DV)
 | nils
 | sl (es:List (List DV))
 | rs (id ver:Nat)
 | rv (id ver i n e:Nat)
 | slen (n:Nat)
 | agg (cs:List DV)
 | tup (vs:List DV)
 | fn (f:Fn) (first caps:List DV)
 | nilfn
 | map (id:Nat)
 | nilmap
 | iface (t:TypeId) (v:DV)
 | nilif
 | iter (id:Nat)
 | yld (id:Nat)
 deriving Inhabited
inductive Tr (α:Type) where
 | leaf
 | node (l:Tr α) (v:Option α) (r:Tr α)
 deriving Inhabited
namespace Tr
variable {α:Type}
def get:Tr α->Nat->Option α
 | .leaf,_=>none
 | .node l v r,k=>bif Nat.beq k 0 then v else bif Nat.beq (k % 2) 1 then l.get (k / 2)else r.get (k / 2-1)
def setAux:Nat->Tr α->Nat->Option α->Tr α
 | 0,t,_,_=>t
 | n+1,.leaf,k,v=>bif Nat.beq k 0 then .node .leaf v .leaf else bif Nat.beq (k % 2) 1 then .node (setAux n .leaf (k / 2) v) none .leaf else .node .leaf none (setAux n .leaf (k / 2-1) v)
 | n+1,.node l x r,k,v=>bif Nat.beq k 0 then .node l v r else bif Nat.beq (k % 2) 1 then .node (setAux n l (k / 2) v) x r else .node l x (setAux n r (k / 2-1) v)
def set (t:Tr α) (k:Nat) (v:Option α):Tr α:=setAux (k+1) t k v
def mkn (l:Tr α) (v:Option α) (r:Tr α):Tr α:=match l,v,r with
 | .leaf,none,.leaf=>.leaf
 | l,v,r=>.node l v r
def tm (f:Nat->α->Option (Option α)):Tr α->(a b:Nat)->Option (Tr α)
 | .leaf,_,_=>some .leaf
 | .node l v r,a,b=>(tm f l (2*a) (a+b)).bind fun l=>(match v with|some x=>f b x|none=>some none:Option (Option α)).bind fun v=>(tm f r (2*a) (2*a+b)).bind fun r=>some (mkn l v r)
def filt (m:Nat):Tr α->(a b:Nat)->Tr α
 | .leaf,_,_=>.leaf
 | .node l v r,a,b=>mkn (filt m l (2*a) (a+b)) (bif Nat.testBit m b then v else none) (filt m r (2*a) (2*a+b))
def mapv {β:Type} (f:α->β):Tr α->Tr β
 | .leaf=>.leaf
 | .node l v r=>.node (l.mapv f) (v.map f) (r.mapv f)
def ofList (l:List (Nat×α)):Tr α:=l.foldl (fun t kv=>t.set kv.1 (some kv.2)) .leaf
end Tr
inductive Ex where
 | normal
 | exit (id:Nat)
 | ret
 | busy
 deriving Inhabited
inductive Zb where
 | cells (t:TypeId) (cs:List DV)
 | row (t:TypeId) (es:List (List DV)) (pubd ver:Nat)
 | map (es:List (DV×DV))
 | siter (s:ByteArray) (pos:Nat)
 | mit (m n:Nat) (seen:List Nat)
 | bag (t:TypeId) (es:List (List DV)) (ver:Nat)
 | loop (fid:Nat) (base:Tr DV) (params:List Nat) (assign body:Code) (bid:Nat) (done:Ex)
 deriving Inhabited
inductive TK where
 | bool|int (k:IntKind)|string
 | struct (fs:List (Nat×Nat))
 | array (len elem:Nat)
 | slice (elem:Nat)
 | map (k e:Nat)
 | ptr (e:Nat)
 | func|iface|other
 deriving Inhabited
structure TI where
 k:TK
 size:Nat
 bytes:Nat
 zero:List DV
 eqOk:Bool
 keyOk:Bool
 meths:List (String×Nat)
 view:Bool
 deriving Inhabited
def TI.isAgg (t:TI):Bool:=match t.k with | .struct _ | .array _ _=>true|_=>false
inductive Acc where
 | slot (t:Nat) (elem:TypeId)
 | cell (t off:Nat) (elem:TypeId)
 deriving Inhabited
structure Z3K where
 bid:Nat
 keep:Nat
 accs:List Acc
 raw:Bool
 deriving Inhabited
structure FI where
 body:Code
 nt:Nat
 nres:List ResultVar
 vmask:Nat
 hints:List Z3K
 pur:Bool
 xm:List (Nat×Nat)
 rm:Nat
 can:Bool
 /-- regions Z4G of which the variable that a slot points to is published -/
 pubs:List (Nat×Nat)
 /-- loops over the keys of a map, which are put into a list: the loop, the slots of the iterator and of the list, the elements' type, what is forgotten -/
 mrs:List (Nat×Nat×Nat×TypeId×Nat)
 deriving Inhabited
structure Env where
 ty:Nat->Option TI
 fn:Nat->Option FI
 /-- functions of the library, told by what they come to -/
 leaf:Nat->Option (List DV->Option DV)
 /-- the copy check of a builder -/
 cc:Nat->Option TypeId
 /-- copies of slices, by their elements' type -/
 cln:Nat->Option TypeId
 /-- sorts of lists of integers -/
 srt:Nat->Option TypeId
 /-- functions that recover, and do nothing else where nothing panics -/
 dfr:Nat->Bool
 /-- what the leaves ask of the world -/
 inv:World->Prop
 stays:∀w w',inv w->RowKit.Below w.heap.size w w'->inv w'
def cellsOf:DV->List DV
 | .agg cs=>cs
 | v=>[v]
def Zw:DV->Bool
 | .agg _ | .tup _=>false
 | _=>true
def ZfN:Value->Option DV
 | .bool b=>some (.bool b)
 | .int k n=>some (.int k n)
 | .string s=>some (.str s)
 | .pointer none=>some .nilp
 | .slice none 0 0=>some .nils
 | .map none=>some .nilmap
 | .nilFunc=>some .nilfn
 | .nilIface=>some .nilif
 | _=>none
def ZU (ρ:Nat->Option DV):Operand->Option DV
 | .tmp t=>ρ t
 | .const v=>ZfN v
 | .func f=>some (.fn (.func f) [] [])
 | .global _=>none
def Z1n (ρ:Nat->Option DV):List Operand->Option (List DV)
 | []=>some []
 | x::xs=>(ZU ρ x).bind fun v=>(Z1n ρ xs).bind fun vs=>some (v::vs)
mutual
def Zf:DV->Bool
 | .bool _ | .int _ _ | .str _ | .nilp | .nils | .sl _ | .nilfn | .nilmap | .nilif=>true
 | .agg cs=>Zc cs
 | .tup cs=>Zc cs
 | .fn _ a b=>Zc a&&Zc b
 | .iface _ v=>Zf v
 | _=>false
def Zc:List DV->Bool
 | []=>true
 | c::cs=>Zf c&&Zc cs
end
mutual
def bdd (n:Nat):DV->Bool
 | .ptr i _ | .rptr i _ _ _ _ | .rs i _ | .rv i _ _ _ _ | .map i | .iter i | .yld i=>Nat.blt i n
 | .agg cs=>Z1O n cs
 | .tup cs=>Z1O n cs
 | .fn _ a b=>Z1O n a&&Z1O n b
 | .iface _ v=>bdd n v
 | .pub cs=>Z1O n cs
 | _=>true
def Z1O (n:Nat):List DV->Bool
 | []=>true
 | c::cs=>bdd n c&&Z1O n cs
end
mutual
def frz (h:Nat->Option Zb):DV->Option DV
 | .rs id v=>(h id).bind fun | .row _ es _ u=>bif Nat.beq u v then some (.sl es)else none|_=>none
 | .agg cs=>(Z1L h cs).bind fun cs=>some (.agg cs)
 | .tup cs=>(Z1L h cs).bind fun cs=>some (.tup cs)
 | .iface t v=>(frz h v).bind fun v=>some (.iface t v)
 | .nils=>some (.sl [])
 | d=>bif Zf d then some d else none
def Z1L (h:Nat->Option Zb):List DV->Option (List DV)
 | []=>some []
 | c::cs=>(frz h c).bind fun c=>(Z1L h cs).bind fun cs=>some (c::cs)
end
mutual
def Zh:DV->List Nat
 | .rs id _=>[id]
 | .rv id _ _ _ _=>[id]
 | .agg cs=>Zi cs
 | .tup cs=>Zi cs
 | .iface _ v=>Zh v
 | _=>[]
def Zi:List DV->List Nat
 | []=>[]
 | c::cs=>Zh c++Zi cs
end
def pn (p n:Nat):Nat:=match p with|0=>0|_+1=>n
def Z56:Zb->Zb
 | .row t es _ u=>.row t es 1 u
 | o=>o
def Zo (h:Nat->Option Zb):List Nat->List (Nat×Option Zb)
 | []=>[]
 | i::is=>(match h i with|some (.row t es p u)=>bif Nat.beq p 1 then []else [(i,some (.row t es 1 u))]|_=>[])++Zo h is
def Ya:List DV->Nat->List DV->List DV
 | cs,_,[]=>cs
 | [],_,_=>[]
 | _::cs,0,v::vs=>v::Ya cs 0 vs
 | c::cs,n+1,vs=>c::Ya cs n vs
def YL (ti:TI) (cs:List DV) (off:Nat):Option DV :=
 bif ti.isAgg then(bif Nat.ble (off+ti.size) cs.length then some (.agg ((cs.drop off).take ti.size))else none)else cs[off]?
structure Out where
 val:Option DV
 upd:List (Nat×Option Zb)
def ret (v:DV):Option Out:=some ⟨some v,[]⟩
def Ziu (op:BinOp) (x y:Int):Option DV :=
 match op with
 | .eql=>some (.bool (x==y))
 | .neq=>some (.bool (x != y))
 | .lss=>some (.bool (x<y))
 | .leq=>some (.bool (x<=y))
 | .gtr=>some (.bool (x>y))
 | .geq=>some (.bool (x>=y))
 | _=>none
def Zfr (op:BinOp) (k:IntKind) (x y:Int):Option DV :=
 let a:=BitVec.ofInt k.bits x
 let b:=BitVec.ofInt k.bits y
 match op with
 | .and=>some (.int k (k.wrap (a &&& b).toNat))
 | .or=>some (.int k (k.wrap (a ||| b).toNat))
 | .xor=>some (.int k (k.wrap (a ^^^ b).toNat))
 | .andNot=>some (.int k (k.wrap (a &&& ~~~b).toNat))
 | _=>none
def ZiJ (op:BinOp) (k:IntKind) (x y:Int):Option DV :=
 match op with
 | .add=>some (.int k (k.wrap (x+y)))
 | .sub=>some (.int k (k.wrap (x-y)))
 | .mul=>some (.int k (k.wrap (x*y)))
 | .quo=>bif y==0 then none else some (.int k (k.wrap (x.tdiv y)))
 | .rem=>bif y==0 then none else some (.int k (x.tmod y))
 | .and | .or | .xor | .andNot=>Zfr op k x y
 | .shl | .shr=>none
 | op=>Ziu op x y
def Zcs (op:BinOp) (k:IntKind) (x y:Int):Option DV :=
 bif decide (y<0)then none else
 match op with
 | .shl=>some (.int k (k.wrap (x*2 ^ (min y.toNat k.bits))))
 | .shr=>some (.int k (x.fdiv (2 ^ (min y.toNat k.bits))))
 | _=>none
def Z5A:BinOp->Bool
 | .shl | .shr=>true
 | _=>false
def Zj8 (op:BinOp) (x y:ByteArray):Option DV :=
 let eq:=x.toList==y.toList
 let lt:=Op.bytesLess x.toList y.toList
 match op with
 | .add=>bif Nat.ble (x.size+y.size) 1099511627776 then some (.str (x++y))else none
 | .eql=>some (.bool eq)
 | .neq=>some (.bool !eq)
 | .lss=>some (.bool lt)
 | .leq=>some (.bool (lt||eq))
 | .gtr=>some (.bool !(lt||eq))
 | .geq=>some (.bool !lt)
 | _=>none
def Zl:List DV->List DV->Option Bool
 | [],[]=>some true
 | .int k a::xs,.int k' b::ys=>bif k==k' then(Zl xs ys).bind fun r=>some (a==b&&r)else none
 | .bool a::xs,.bool b::ys=>(Zl xs ys).bind fun r=>some (a==b&&r)
 | .str a::xs,.str b::ys=>(Zl xs ys).bind fun r=>some (a==b&&r)
 | _,_=>none
def Zd:List DV->List DV->Bool
 | [],[]=>true
 | .int k _::zs,.int k' _::xs=>k==k'&&Zd zs xs
 | .bool _::zs,.bool _::xs=>Zd zs xs
 | .str _::zs,.str _::xs=>Zd zs xs
 | _,_=>false
def Zbw (E:Env) (op:BinOp) (t:TypeId):DV->DV->Option DV
 | .int k x,.int k' y=>bif Z5A op then Zcs op k x y else bif k==k' then ZiJ op k x y else none
 | .str x,.str y=>Zj8 op x y
 | .bool x,.bool y=>(E.ty t).bind fun ti=>match ti.k,op with
  | .bool,.eql=>some (.bool (x==y))
  | .bool,.neq=>some (.bool (!(x==y)))
  | _,_=>none
 | .agg x,.agg y=>(E.ty t).bind fun ti=>bif ti.eqOk&&Zd ti.zero x&&Zd ti.zero y then(match op with
  | .eql=>(Zl x y).bind fun r=>some (.bool r)
  | .neq=>(Zl x y).bind fun r=>some (.bool !r)
  | _=>none)else none
 | .sl (_::_),.nils=>(E.ty t).bind fun ti=>match ti.k,op with
  | .slice _,.eql=>some (.bool false)
  | .slice _,.neq=>some (.bool true)
  | _,_=>none
 | .iface _ _,.nilif=>(E.ty t).bind fun ti=>match ti.k,op with
  | .iface,.eql=>some (.bool false)
  | .iface,.neq=>some (.bool true)
  | _,_=>none
 | _,_=>none
def Zdf:Operand->Bool
 | .const _=>true
 | _=>false
def Zjw (E:Env) (op:BinOp) (t:TypeId):Option DV:=(E.ty t).bind fun ti=>match ti.k,op with
 | .iface,.eql=>some (.bool true)
 | .iface,.neq=>some (.bool false)
 | _,_=>none
def unD (op:UnOp):DV->Option DV
 | .int k n=>match op with | .neg=>some (.int k (k.wrap (0-n)))|_=>none
 | .bool b=>match op with | .not=>some (.bool !b)|_=>none
 | _=>none
def Z37 (n:Nat):DV->Option Nat
 | .int _ i=>bif decide (0<=i)&&decide (i<n)then some i.toNat else none
 | _=>none
def ZT (h:Nat->Option Zb):DV->Option (List (List DV))
 | .nils=>some []
 | .sl es=>some es
 | .rs id v=>(h id).bind fun | .row _ es _ u=>bif Nat.beq u v then some es else none|_=>none
 | .rv id v i n e=>(h id).bind fun | .row _ es _ u=>bif Nat.beq u v&&es.all (fun c=>Nat.beq c.length e)then some ((es.drop i).take n)else none|_=>none
 | _=>none
def Z16 (fs:List (Nat×Nat)) (E:Env):List (Nat×DV)->List DV->Option (List DV)
 | [],cs=>some cs
 | (i,v)::ps,cs=>(fs[i]?).bind fun(ft,off)=>(E.ty ft).bind fun ti =>
   bif Nat.beq (cellsOf v).length ti.size&&Nat.ble (off+ti.size) cs.length then Z16 fs E ps (Ya cs off (cellsOf v))else none
def Z1D (size:Nat):List (Nat×DV)->List DV->Option (List DV)
 | [],cs=>some cs
 | (i,v)::ps,cs=>bif Nat.beq (cellsOf v).length size&&Nat.ble (i*size+size) cs.length then Z1D size ps (Ya cs (i*size) (cellsOf v))else none
def Z23 (ρ:Nat->Option DV):List (Nat×Operand)->Option (List (Nat×DV))
 | []=>some []
 | (i,x)::ps=>(ZU ρ x).bind fun v=>(Z23 ρ ps).bind fun vs=>some ((i,v)::vs)
def Z5Y (h:Nat->Option Zb) (size:Nat):Nat->List (Nat×DV)->Option (List (List DV))
 | _,[]=>some []
 | k,(i,v)::ps=>bif Nat.beq i k&&Nat.beq (cellsOf v).length size then(Z1L h (cellsOf v)).bind fun c=>bif c.all Zw then(Z5Y h size (k+1) ps).bind fun r=>some (c::r)else none else none
def Z1d:DV->Nat->Option DV
 | .ptr id off,n=>some (.ptr id (off+n))
 | .rptr id v i e off,n=>some (.rptr id v i e (off+n))
 | .pub cs,n=>some (.pub (cs.drop n))
 | _,_=>none
def Z3a (ti:TI) (h:Nat->Option Zb):DV->Option DV
 | .ptr id off=>(h id).bind fun | .cells _ cs=>YL ti cs off|_=>none
 | .rptr id v i e off=>(h id).bind fun
  | .row _ es _ u=>(es[i]?).bind fun c=>bif Nat.beq u v&&Nat.beq c.length e then YL ti c off else none
  | _=>none
 | .pub cs=>YL ti cs 0
 | _=>none
def Z5p (ti:TI) (h:Nat->Option Zb) (a v:DV):Option (List (Nat×Option Zb)) :=
 bif Nat.beq (cellsOf v).length ti.size&&(cellsOf v).all Zw then
  match a with
  | .ptr id off=>(h id).bind fun
   | .cells t cs=>bif Nat.ble (off+ti.size) cs.length then some [(id,some (.cells t (Ya cs off (cellsOf v))))]else none
   | _=>none
  | .rptr id ver i e off=>(h id).bind fun
   | .row t es p u=>(es[i]?).bind fun c=>bif Nat.beq u ver&&Nat.beq c.length e&&Nat.beq p 0&&Zc (cellsOf v)&&Nat.ble (off+ti.size) c.length then
     some [(id,some (.row t (es.set i (Ya c off (cellsOf v))) p u))]else none
   | _=>none
  | _=>none
 else none
def Zdo:DV->DV->Option DV
 | .int k x,.int _ y=>some (.int k (bif decide (y<x)then y else x))
 | _,_=>none
def Zdn:DV->DV->Option DV
 | .int k x,.int _ y=>some (.int k (bif decide (y>x)then y else x))
 | _,_=>none
def Z6O (f:DV->DV->Option DV):DV->List DV->Option DV
 | x,[]=>some x
 | x,y::ys=>(f x y).bind fun z=>Z6O f z ys
def Z5K (k:TK) (h:Nat->Option Zb) (d:DV):Option DV :=
 match k,d with
 | .string,.str s=>some (.int .i64 (s.size:Nat))
 | .map _ _,.nilmap=>some (.int .i64 0)
 | .map _ _,.map id=>(h id).bind fun | .map es=>some (.int .i64 (es.length:Nat))|_=>none
 | .slice _,.slen n=>some (.int .i64 (n:Nat))
 | .slice _,d=>(ZT h d).bind fun es=>some (.int .i64 (es.length:Nat))
 | .array n _,_=>some (.int .i64 (n:Nat))
 | _,_=>none
def Z6a (s:ByteArray):List (List DV):=s.data.toList.map fun b=>[.int .u8 b.toNat]
def Z7o:List (List DV)->Option (List UInt8)
 | []=>some []
 | [.int .u8 n]::es=>bif decide (0<=n)&&decide (n<256)then(Z7o es).bind fun l=>some (UInt8.ofNat n.toNat::l)else none
 | _=>none
def Z8g (E:Env) (h:Nat->Option Zb) (t t':TypeId) (x:DV):Option (List (List DV)) :=
 bif Nat.beq t t' then ZT h x else match x with
 | .str s=>(E.ty t').bind fun ti=>match ti.k with
  | .string=>some (Z6a s)
  | _=>none
 | _=>none
def Z29 (E:Env) (nid:Nat) (h:Nat->Option Zb) (t t':TypeId) (s x:DV):Option Out :=
 (E.ty t).bind fun ti=>match ti.k with
 | .slice e=>(E.ty e).bind fun ei=>(Z8g E h t t' x).bind fun xs=>bif Nat.blt 0 ei.size&&Nat.ble ei.bytes 100000000000 then(match s with
  | .nils=>(match xs with
   | []=>ret .nils
   | _::_=>bif xs.all (fun c=>Nat.beq c.length ei.size)&&Nat.ble (xs.length*(ei.bytes+1)) 200000000000000 then some ⟨some (.rs nid 0),[(nid,some (.row e xs 0 0))]⟩else none)
  | .rs id v=>(h id).bind fun
   | .row e' es p u=>bif Nat.beq u v&&Nat.beq e' e&&xs.all (fun c=>Nat.beq c.length ei.size)&&Nat.ble ((es.length+xs.length)*(ei.bytes+1)) 200000000000000 then
     some ⟨some (.rs id (v+1)),[(id,some (.row e (es++xs) p (v+1)))]⟩else none
   | _=>none
  | _=>none)else none
 | _=>none
def Zf6:DV->Bool
 | .int _ _ | .str _ | .bool _=>true
 | _=>false
def keyOk:DV->Bool
 | .int _ _ | .str _ | .bool _=>true
 | .agg cs=>cs.all Zf6
 | _=>false
def Yl:TI->DV->Bool:=fun ti d=>match ti.k,d with
 | .int _,.int _ _=>true
 | .string,.str _=>true
 | .bool,.bool _=>true
 | .struct _,.agg cs=>ti.eqOk&&ti.keyOk&&Zd ti.zero cs
 | _,_=>false
def Z6U:DV->DV->Option Bool
 | .int k a,.int k' b=>bif k==k' then some (a==b)else none
 | .str a,.str b=>some (a==b)
 | .bool a,.bool b=>some (a==b)
 | .agg a,.agg b=>Zl a b
 | _,_=>none
def Z2Q (k:DV):List (DV×DV)->Option (Option DV)
 | []=>some none
 | (k',v)::es=>(Z6U k k').bind fun r=>bif r then some (some v)else Z2Q k es
def Z57 (k v:DV):List (DV×DV)->Option (List (DV×DV))
 | []=>some [(k,v)]
 | (k',v')::es=>(Z6U k k').bind fun r=>bif r then some ((k,v)::es)else(Z57 k v es).bind fun es=>some ((k',v')::es)
def Z2B:Option DV->Nat->Nat->Option Nat
 | none,dflt,_=>some dflt
 | some (.int _ i),_,y=>bif decide (0<=i)&&decide (i<=y)then some i.toNat else none
 | _,_,_=>none
def Zfe (s:ByteArray) (lo hi:Option DV):Option DV :=
 (Z2B hi s.size s.size).bind fun h=>(Z2B lo 0 h).bind fun l=>some (.str (s.extract l h))
def Z4M (es:List (List DV)) (lo hi:Option DV):Option DV :=
 (Z2B hi es.length es.length).bind fun h=>(Z2B lo 0 h).bind fun l=>some (.sl ((es.take h).drop l))
def Z36 (h:Nat->Option Zb):DV->Bool
 | .rs id _=>(match h id with|some (.row _ _ p _)=>Nat.beq p 0|_=>false)
 | _=>false
def Zg8 (es:List (List DV)) (e:Nat) (d:DV) (lo hi:Option DV):Option DV :=
 (Z2B hi es.length es.length).bind fun b=>(Z2B lo 0 b).bind fun l=>match d with
 | .rs id v=>some (.rv id v l (b-l) e)
 | _=>none
def Z1b (ti:TI):Option DV:=bif ti.isAgg then some (.agg ti.zero)else ti.zero.head?
def Z11 (e:Nat):Nat->List DV->List (List DV)
 | 0,_=>[]
 | n+1,cs=>cs.take e::Z11 e n (cs.drop e)
def Z2e (ρ:Nat->Option DV):Option Operand->Option (Option DV)
 | none=>some none
 | some x=>(ZU ρ x).bind fun v=>some (some v)
def Zx (E:Env) (nid:Nat) (ρ:Nat->Option DV) (h:Nat->Option Zb) (op:Op):Option Out :=
 match op with
 | .move x=>(ZU ρ x).bind ret
 | .assign x=>(ZU ρ x).bind ret
 | .pick c a b=>(ZU ρ c).bind fun
  | .bool c=>(bif c then ZU ρ a else ZU ρ b).bind ret
  | _=>none
 | .alloc t=>(E.ty t).bind fun ti=>some ⟨some (.ptr nid 0),[(nid,some (.cells t ti.zero))]⟩
 | .box t x=>(ZU ρ x).bind fun v=>bif(cellsOf v).all Zw then some ⟨some (.ptr nid 0),[(nid,some (.cells t (cellsOf v)))]⟩else none
 | .build t ps=>(E.ty t).bind fun ti=>(Z23 ρ ps.toList).bind fun vs=>match ti.k with
  | .struct fs=>(Z16 fs E vs ti.zero).bind fun cs=>ret (.agg cs)
  | .array _ e=>(E.ty e).bind fun ei=>(Z1D ei.size vs ti.zero).bind fun cs=>ret (.agg cs)
  | _=>none
 | .buildSlice t n ps=>(E.ty t).bind fun ti=>match ti.k with
  | .slice e=>(E.ty e).bind fun ei=>(Z23 ρ ps.toList).bind fun vs=>(Z5Y h ei.size 0 vs).bind fun es =>
    bif Nat.beq es.length n&&Nat.ble (n*ei.size) 1048576&&Nat.blt 0 ei.size then some ⟨some (.rs nid 0),(nid,some (.row e es 0 0))::Zo h (Zi (vs.map (·.2)))⟩else none
  | _=>none
 | .load t a=>(E.ty t).bind fun ti=>(ZU ρ a).bind fun a=>(Z3a ti h a).bind ret
 | .store t a x=>(E.ty t).bind fun ti=>(ZU ρ a).bind fun a=>(ZU ρ x).bind fun v=>(Z5p ti h a v).bind fun u=>some ⟨some (.tup []),u⟩
 | .nilCheck x=>(ZU ρ x).bind fun
  | .ptr i o=>ret (.ptr i o)
  | .rptr i v j e o=>ret (.rptr i v j e o)
  | .pub cs=>ret (.pub cs)
  | _=>none
 | .binOp op t x y _=>(ZU ρ x).bind fun dx=>(ZU ρ y).bind fun dy=>(match dx,dy with
  | .nilif,.nilif=>bif Zdf x||Zdf y then Zjw E op t else none
  | dx,dy=>Zbw E op t dx dy:Option DV).bind ret
 | .unOp op _ x=>(ZU ρ x).bind fun x=>(unD op x).bind ret
 | .convert s d x=>(E.ty s).bind fun _=>(E.ty d).bind fun ti=>(ZU ρ x).bind fun x=>match ti.k,x with
  | .int k,.int _ n=>ret (.int k (k.wrap n))
  | .string,.str s=>ret (.str s)
  | _,_=>none
 | .makeFunc f a c=>(Z1n ρ a.toList).bind fun a=>(Z1n ρ c.toList).bind fun c=>ret (.fn f a c)
 | .makeMap _ none=>some ⟨some (.map nid),[(nid,some (.map []))]⟩
 | .slice t x lo hi none=>(E.ty t).bind fun ti=>(ZU ρ x).bind fun x=>(Z2e ρ lo).bind fun lo=>(Z2e ρ hi).bind fun hi=>match ti.k,x with
  | .string,.str s=>(Zfe s lo hi).bind ret
  | .array n e,.ptr id off=>(E.ty e).bind fun ei=>(h id).bind fun
   | .cells _ cs=>bif Nat.ble (off+n*ei.size) cs.length&&Nat.blt 0 ei.size&&Zc ((cs.drop off).take (n*ei.size))then
     (Z4M (Z11 ei.size n (cs.drop off)) lo hi).bind fun r=>some ⟨some r,[(id,none)]⟩else none
   | _=>none
  | .array n e,.pub cs=>(E.ty e).bind fun ei=>bif Nat.ble (n*ei.size) cs.length&&cs.all Zw then(Z4M (Z11 ei.size n cs) lo hi).bind ret else none
  | .slice e,d=>(E.ty e).bind fun ei=>(ZT h d).bind fun es=>bif es.all (fun c=>Nat.beq c.length ei.size)&&Nat.blt 0 ei.size then(bif ti.view&&Z36 h d then(Zg8 es ei.size d lo hi).bind ret else(Z4M es lo hi).bind fun r=>some ⟨some r,Zo h (Zh d)⟩)else none
  | _,_=>none
 | .fieldAddr s x f=>(E.ty s).bind fun ti=>(ZU ρ x).bind fun x=>match ti.k with
  | .struct fs=>(fs[f]?).bind fun(ft,off)=>(E.ty ft).bind fun fi=>bif Nat.blt 0 fi.size then(Z1d x off).bind ret else none
  | _=>none
 | .field s x f=>(E.ty s).bind fun ti=>(ZU ρ x).bind fun x=>match ti.k,x with
  | .struct fs,.agg cs=>(fs[f]?).bind fun(ft,off)=>(E.ty ft).bind fun fi=>(YL fi cs off).bind ret
  | _,_=>none
 | .indexAddr t x i=>(E.ty t).bind fun ti=>(ZU ρ x).bind fun x=>(ZU ρ i).bind fun i=>match ti.k with
  | .array len e=>(E.ty e).bind fun ei=>(Z37 len i).bind fun i=>(Z1d x (i*ei.size)).bind ret
  | .slice e=>(E.ty e).bind fun ei=>match x with
   | .sl es=>(Z37 es.length i).bind fun i=>(es[i]?).bind fun c=>bif Nat.beq c.length ei.size&&Nat.blt 0 ei.size then ret (.pub c)else none
   | .rs id v=>(h id).bind fun
    | .row _ es _ u=>(Z37 es.length i).bind fun i=>bif Nat.beq u v&&Nat.blt 0 ei.size then ret (.rptr id v i ei.size 0)else none
    | _=>none
   | _=>none
  | _=>none
 | .index t x i=>(E.ty t).bind fun ti=>(ZU ρ x).bind fun x=>(ZU ρ i).bind fun i=>match ti.k,x with
  | .array len e,.agg cs=>(E.ty e).bind fun ei=>(Z37 len i).bind fun i=>(YL ei cs (i*ei.size)).bind ret
  | .string,.str s=>(Z37 s.size i).bind fun i=>(s[i]?).bind fun b=>ret (.int .u8 b.toNat)
  | _,_=>none
 | .lookup t m k ok=>(E.ty t).bind fun ti=>(ZU ρ m).bind fun m=>(ZU ρ k).bind fun k=>match ti.k with
  | .map kt e=>(E.ty e).bind fun ei=>(E.ty kt).bind fun ki=>bif Yl ki k&&Nat.beq ei.size 1 && !ei.isAgg then
    ((match m with | .nilmap=>some [] | .map id=>(h id).bind (fun | .map es=>some es|_=>none)|_=>none):Option (List (DV×DV))).bind fun es =>
    (Z2Q k es).bind fun r=>match r,ei.zero with
     | some v,_=>ret (bif ok then .tup [v,.bool true]else v)
     | none,z::_=>ret (bif ok then .tup [z,.bool false]else z)
     | _,_=>none
   else none
  | _=>none
 | .mapUpdate t m k v=>(E.ty t).bind fun ti=>(ZU ρ m).bind fun m=>(ZU ρ k).bind fun k=>(ZU ρ v).bind fun v=>match ti.k,m with
  | .map kt _,.map id=>(E.ty kt).bind fun ki=>(h id).bind fun
   | .map es=>bif Yl ki k&&Zw v&&Zf v then(Z57 k v es).bind fun es=>some ⟨some (.tup []),[(id,some (.map es))]⟩else none
   | _=>none
  | _,_=>none
 | .makeInterface t x=>(E.ty t).bind fun ti=>(ZU ρ x).bind fun v=>match ti.k with
  | .iface=>none
  | _=>ret (.iface t v)
 | .typeAssert x _ t ok=>(E.ty t).bind fun ti=>(ZU ρ x).bind fun x=>match ti.k,x with
  | .iface,_=>none
  | _,.nilif=>bif ok then(Z1b ti).bind fun z=>ret (.tup [z,.bool false])else none
  | _,.iface t' v=>bif Nat.beq t' t then ret (bif ok then .tup [v,.bool true]else v)else bif ok then(Z1b ti).bind fun z=>ret (.tup [z,.bool false])else none
  | _,_=>none
 | .makeSlice t l c=>(E.ty t).bind fun ti=>(ZU ρ l).bind fun l=>(ZU ρ c).bind fun c=>match ti.k,l,c with
  | .slice e,.int _ n,.int _ n'=>(E.ty e).bind fun ei=>bif n==n'&&decide (0<=n)&&Nat.ble (n.toNat*(ei.bytes+1)) 200000000000000&&Nat.blt 0 ei.size&&Zc ei.zero then
    some ⟨some (.rs nid 0),[(nid,some (.row e (List.replicate n.toNat ei.zero) 0 0))]⟩else none
  | _,_,_=>none
 | .range t x=>(E.ty t).bind fun ti=>(ZU ρ x).bind fun x=>match ti.k,x with
  | .string,.str s=>some ⟨some (.iter nid),[(nid,some (.siter s 0))]⟩
  | .map _ _,.map id=>(h id).bind fun
   | .map es=>some ⟨some (.iter nid),[(nid,some (.mit id es.length []))]⟩
   | _=>none
  | _,_=>none
 | .next it true=>(ZU ρ it).bind fun
  | .iter id=>(h id).bind fun
   | .siter s pos=>bif decide (pos<s.size)then
     some ⟨some (.tup [.bool true,.int .i64 (pos:Nat),.int .i32 (Utf8.decode s pos).1]),[(id,some (.siter s (pos+(Utf8.decode s pos).2)))]⟩
    else ret (.tup [.bool false])
   | _=>none
  | _=>none
 | .extract t i=>(ZU ρ t).bind fun
  | .tup vs=>(vs[i]?).bind ret
  | _=>none
 | .call c=>match c.callee with
  | .builtin .len=>(match c.args.toList,c.argTypes.toList with
   | [x],t::_=>(E.ty t).bind fun ti=>(ZU ρ x).bind fun x=>(Z5K ti.k h x).bind ret
   | _,_=>none)
  | .builtin .append=>(match c.args.toList,c.argTypes.toList with
   | [s,x],[t,t']=>(ZU ρ s).bind fun s=>(ZU ρ x).bind fun x=>Z29 E nid h t t' s x
   | _,_=>none)
  | .builtin .unsafeSliceData=>(match c.args.toList with
   | [x]=>(ZU ρ x).bind fun
    | .nils=>ret .nilp
    | .rs id v=>(h id).bind fun
     | .row _ (c::_) _ u=>bif Nat.beq u v then ret (.rptr id v 0 c.length 0)else none
     | _=>none
    | _=>none
   | _=>none)
  | .builtin .unsafeString=>(match c.args.toList,c.argTypes.toList with
   | [x,n],[t,_]=>(ZU ρ x).bind fun x=>(ZU ρ n).bind fun n=>(E.ty t).bind fun ti=>match x,n,ti.k with
    | .nilp,.int .i64 0,.ptr _=>ret (.str .empty)
    | .rptr id v 0 1 0,.int .i64 n,.ptr e=>(h id).bind fun
     | .row e' es _ u=>bif Nat.beq u v&&Nat.beq e e'&&n==(es.length:Nat)&&Nat.blt 0 es.length&&Nat.ble es.length 200000000000000 then(Z7o es).bind fun l=>some ⟨some (.str ⟨l.toArray⟩),[(id,none)]⟩else none
     | _=>none
    | _,_,_=>none
   | _,_=>none)
  | .builtin .min=>(Z1n ρ c.args.toList).bind fun vs=>(match vs with|x::xs=>(Z6O Zdo x xs).bind ret|[]=>none)
  | .builtin .max=>(Z1n ρ c.args.toList).bind fun vs=>(match vs with|x::xs=>(Z6O Zdn x xs).bind ret|[]=>none)
  | _=>none
 | _=>none
def Z7K (m:String):List (String×Nat)->Option Nat
 | []=>none
 | (n,g)::l=>bif n==m then some g else Z7K m l
def target (E:Env) (ρ:Nat->Option DV) (c:Call):Option (DV×List DV) :=
 match c.callee with
 | .value f=>(ZU ρ f).bind fun
  | .fn (.func g) first caps=>(Z1n ρ c.args.toList).bind fun as=>some (.fn (.func g) [] [],first++as++caps)
  | .yld id=>(Z1n ρ c.args.toList).bind fun as=>some (.yld id,as)
  | _=>none
 | .invoke r m=>(ZU ρ r).bind fun
  | .iface t v=>(E.ty t).bind fun ti=>(Z7K m ti.meths).bind fun g=>(Z1n ρ c.args.toList).bind fun as=>some (.fn (.func g) [] [],v::as)
  | _=>none
 | _=>none
def Zhv:DV->Bool
 | .rv _ _ _ _ _=>true
 | _=>false
mutual
def Yv:DV->Option DV
 | .bool b=>some (.bool b)
 | .int k n=>some (.int k n)
 | .str s=>some (.str s)
 | .sl es=>some (.slen es.length)
 | .tup vs=>(Z5r vs).bind fun vs=>some (.tup vs)
 | _=>none
def Z5r:List DV->Option (List DV)
 | []=>some []
 | d::ds=>(Yv d).bind fun d=>(Z5r ds).bind fun ds=>some (d::ds)
end
def Z9s (E:Env) (h:Nat->Option Zb):DV->Option DV
 | .rv id v i n e=>(h id).bind fun
  | .row t es _ u=>bif Nat.beq u v&&Nat.beq (match E.ty t with|some ti=>ti.size|none=>0) e then some (.sl ((es.drop i).take n))else none
  | _=>none
 | d=>frz h d
def Z3S (E:Env) (h:Nat->Option Zb):List DV->Option (List DV)
 | []=>some []
 | d::ds=>(Z9s E h d).bind fun c=>(Z3S E h ds).bind fun cs=>some (c::cs)
def Z4Z (E:Env) (call:Nat->List DV->Option DV) (ρ:Nat->Option DV) (h:Nat->Option Zb) (c:Call):Option Out :=
 (target E ρ c).bind fun
 | (.fn (.func g) _ _,as)=>(Z3S E h as).bind fun fs=>(call g fs).bind fun r=>bif as.any Zhv then(Yv r).bind ret else some ⟨some r,Zo h (Zi as)⟩
 | _=>none
def Z38 (op:Op):Option Call:=match op with
 | .call c=>(match c.callee with | .value _=>some c | .invoke _ _=>some c|_=>none)
 | _=>none
def Z8k (E:Env) (call:Nat->List DV->Option DV) (nid:Nat) (ρ:Nat->Option DV) (h:Nat->Option Zb) (op:Op):Option Out :=
 match Z38 op with
 | some c=>Z4Z E call ρ h c
 | none=>Zx E nid ρ h op
def ZeS (E:Env):DV×List DV->Bool
 | (.fn (.func g) _ _,_)=>match E.fn g with
  | some F=>F.pur
  | none=>false
 | _=>false
def Z46 (E:Env) (call:Nat->List DV->Option DV) (nid:Nat) (ρ:Nat->Option DV) (h:Nat->Option Zb) (op:Op):Option (Option Out) :=
 match Z38 op with
 | none=>(Zx E nid ρ h op).bind fun r=>some (some r)
 | some c=>(target E ρ c).bind fun tgt=>bif ZeS E tgt then(Z4Z E call ρ h c).bind fun r=>some (some r)else some none
structure St where
 base:Tr DV
 objs:Tr Zb
 next:Nat
abbrev Loc:=List (Nat×Option DV)
def Loc.find (l:Loc) (t:Nat):Option (Option DV):=match l with
 | []=>none
 | (s,v)::l=>bif Nat.beq s t then some v else Loc.find l t
def ZS (V:Nat) (base:Tr DV) (loc:Loc) (t:Nat):Option DV :=
 bif Nat.testBit V t then base.get t else(match loc.find t with|some v=>v|none=>none)
def Y3 (o:Tr Zb):List (Nat×Option Zb)->Tr Zb
 | []=>o
 | (i,x)::us=>Y3 (o.set i x) us
def Z1u (ops:Array Oper) (ρ:Nat->Option DV) (o:Oper):Option Bool :=
 match o.guard with
 | none=>some true
 | some (j,want)=>match(ops[j]?).bind (·.dst)with
  | some t=>(match ρ t with|some (.bool b)=>some (b==want)|some _=>some false|none=>none)
  | none=>none
abbrev Yb:=Nat->List DV->Tr Zb->Nat->Option (DV×Tr Zb×Nat)
structure Mid where
 base:Tr DV
 loc:Loc
 objs:Tr Zb
 next:Nat
def Mid.put (V nt:Nat) (m:Mid) (dst:Option Tmp) (v:Option DV):Mid :=
 match dst with
 | none=>m
 | some d=>bif !Nat.blt d nt then m else bif Nat.testBit V d then { m with base:=m.base.set d v }else { m with loc:=(d,v)::m.loc }
structure YH where
 dst:Option Tmp
 anc:Nat
 touch:List Nat
 out:Out
 new:Option (Nat×Nat)
mutual
def Zs:DV->List Nat
 | .ptr i _ | .rptr i _ _ _ _ | .rs i _ | .rv i _ _ _ _ | .map i | .iter i | .yld i=>[i]
 | .agg cs=>ZC cs
 | .tup cs=>ZC cs
 | .fn _ a b=>ZC a++ZC b
 | .iface _ v=>Zs v
 | _=>[]
def ZC:List DV->List Nat
 | []=>[]
 | c::cs=>Zs c++ZC cs
end
def touch (ρ:Nat->Option DV) (op:Op):List Nat:=op.operands.toList.flatMap fun x=>match ZU ρ x with|some d=>Zs d|none=>[]
def seen (anc:Nat) (ρ:Nat->Option DV):List (Nat×YH)->Nat->Option DV
 | [],t=>ρ t
 | (j,d)::ds,t=>bif(match d.dst with|some s=>Nat.beq s t|none=>false)then(bif Nat.testBit anc j then d.out.val else none)else seen anc ρ ds t
def Zq (id:Nat):List (Nat×Option Zb)->Option (Option Zb)
 | []=>none
 | (i,x)::us=>match Zq id us with
  | some y=>some y
  | none=>bif Nat.beq i id then some x else none
def Z60 (anc:Nat) (h:Nat->Option Zb):List (Nat×YH)->Nat->Option Zb
 | [],id=>h id
 | (j,d)::ds,id=>match Zq id d.out.upd with
  | some x=>bif Nat.testBit anc j then x else none
  | none=>Z60 anc h ds id
def Z1N (ops:Array Oper) (ds:List (Nat×YH)) (o:Oper) (k:Nat):Nat :=
 o.after.toList.foldl (fun m e=>bif Region.binds .any e&&Nat.blt e.on k then m ||| (1 <<< e.on) ||| ((ds.find? (fun d=>Nat.beq d.1 e.on)).map (·.2.anc)).getD 0 else m) 0
def YR (V nt:Nat):List (Nat×YH)->Mid->Mid
 | [],m=>m
 | (_,d)::ds,m=>let m:=YR V nt ds m;{ m with objs:=Y3 m.objs d.out.upd }.put V nt d.dst d.out.val
mutual
def rid:DV->List Nat
 | .ptr i _ | .rptr i _ _ _ _ | .rs i _ | .rv i _ _ _ _ | .map i | .iter i | .yld i=>[i]
 | .agg cs=>Z1q cs
 | .tup cs=>Z1q cs
 | .fn _ a b=>Z1q a++Z1q b
 | _=>[]
def Z1q:List DV->List Nat
 | []=>[]
 | c::cs=>rid c++Z1q cs
end
def Tr.ents {α:Type}:Tr α->(a b:Nat)->List (Nat×α)
 | .leaf,_,_=>[]
 | .node l v r,a,b=>Tr.ents l (2*a) (a+b)++((match v with|some x=>[(b,x)]|none=>[])++Tr.ents r (2*a) (2*a+b))
def ZjD:Zb->List Nat
 | .cells _ cs=>Z1q cs
 | .loop _ b _ _ _ _ _=>(b.ents 1 0).flatMap fun p=>rid p.2
 | .mit m _ _=>[m]
 | _=>[]
def Z1g (h:Nat->Option Zb):Nat->List Nat->List Nat->List Nat
 | 0,_,acc=>acc
 | _+1,[],acc=>acc
 | n+1,i::todo,acc=>bif acc.any (Nat.beq i)then Z1g h n todo acc else match h i with
  | some o=>Z1g h n (ZjD o++todo) (i::acc)
  | none=>Z1g h n todo acc
def Z2w (h:Nat->Option Zb):List Nat->Tr Zb
 | []=>.leaf
 | i::is=>(Z2w h is).set i (h i)
def Z4X (o:Tr Zb) (R:List Nat) (nx:Nat):List (Nat×Option Zb):=(R++((o.ents 1 0).map (·.1)).filter (Nat.ble nx)).map fun i=>(i,o.get i)
def Z3D (run:Tr Zb->Option (DV×Tr Zb×Nat)) (h:Nat->Option Zb) (nx:Nat) (is R:List Nat):Option (Out×List Nat×Nat) :=
 (run (Z2w h R)).bind fun x=>bif Nat.ble nx x.2.2 then some (⟨some x.1,Z4X x.2.1 R nx⟩,is++R,x.2.2)else none
def Z6h (h:Nat->Option Zb):DV->DV
 | .rs id v=>(match h id with
  | some (.row _ es p u)=>bif Nat.beq p 1&&Nat.beq u v then .sl es else .rs id v
  | _=>.rs id v)
 | d=>d
def Z3s (h:Nat->Option Zb):DV->DV
 | .agg cs=>.agg (cs.map (Z6h h))
 | d=>Z6h h d
def YU (callH callY:Yb) (h:Nat->Option Zb) (nx:Nat):DV×List DV->Option (Out×List Nat×Nat)
 | (.fn (.func g) _ _,as)=>Z3D (fun o=>callH g (as.map (Z3s h)) o nx) h nx (Zi as) (Z1g h 4096 (Z1q (as.map (Z3s h))) [])
 | (.yld id,as)=>Z3D (fun o=>callY id (as.map (Z3s h)) o nx) h nx (Zi as) (Z1g h 4096 (id::Z1q (as.map (Z3s h))) [])
 | _=>none
mutual
def rn (f:Nat->Nat):DV->DV
 | .ptr i o=>.ptr (f i) o
 | .rptr i v j e o=>.rptr (f i) v j e o
 | .rs i v=>.rs (f i) v
 | .rv i v k n e=>.rv (f i) v k n e
 | .agg cs=>.agg (rns f cs)
 | .tup cs=>.tup (rns f cs)
 | .fn g a c=>.fn g (rns f a) (rns f c)
 | .map i=>.map (f i)
 | .iface t v=>.iface t (rn f v)
 | .iter i=>.iter (f i)
 | .yld i=>.yld (f i)
 | .bool b=>.bool b
 | .int k n=>.int k n
 | .str s=>.str s
 | .nilp=>.nilp
 | .pub cs=>.pub cs
 | .nils=>.nils
 | .sl es=>.sl es
 | .slen n=>.slen n
 | .nilfn=>.nilfn
 | .nilmap=>.nilmap
 | .nilif=>.nilif
def rns (f:Nat->Nat):List DV->List DV
 | []=>[]
 | c::cs=>rn f c::rns f cs
end
mutual
def okD (p:Nat->Bool):DV->Bool
 | .ptr i _ | .rptr i _ _ _ _ | .rs i _ | .rv i _ _ _ _ | .map i | .iter i | .yld i=>p i
 | .agg cs=>Z1h p cs
 | .tup cs=>Z1h p cs
 | .fn _ a b=>Z1h p a&&Z1h p b
 | .iface _ v=>okD p v
 | _=>true
def Z1h (p:Nat->Bool):List DV->Bool
 | []=>true
 | c::cs=>okD p c&&Z1h p cs
end
def Tr.allV {α:Type} (p:α->Bool):Tr α->Bool
 | .leaf=>true
 | .node l v r=>l.allV p&&((match v with|some x=>p x|none=>true)&&r.allV p)
def rnO (f:Nat->Nat):Zb->Zb
 | .cells t cs=>.cells t (rns f cs)
 | .loop fid b ps as bo bid ex=>.loop fid (b.mapv (rn f)) ps as bo bid ex
 | .row t es p u=>.row t es p u
 | .map es=>.map es
 | .siter s pos=>.siter s pos
 | .mit m n se=>.mit (f m) n se
 | .bag t es u=>.bag t es u
def okO (p:Nat->Bool):Zb->Bool
 | .cells _ cs=>Z1h p cs
 | .loop _ b _ _ _ _ _=>b.allV (okD p)
 | .mit m _ _=>p m
 | _=>true
def okH (p:Nat->Bool) (h:Nat->Option Zb):List Nat->Bool
 | []=>true
 | i::is=>(match h i with|some o=>okO p o|none=>true)&&okH p h is
def Z3H (i:Nat):List Nat->Bool
 | []=>false
 | j::js=>bif Nat.beq i j then true else Z3H i js
def Zaj:List Nat->Bool
 | []=>true
 | i::is => !Z3H i is&&Zaj is
def Z1Q (i:Nat):List Nat->Nat
 | []=>0
 | j::js=>bif Nat.beq i j then 0 else Z1Q i js+1
def Z6l (d:Nat):Nat->List Nat->Nat
 | _,[]=>d
 | 0,j::_=>j
 | n+1,_::js=>Z6l d n js
def Z2q:List Nat->Nat
 | []=>0
 | _::l=>Z2q l+1
def geN (k:Nat):List Nat->List Nat
 | []=>[]
 | i::is=>bif Nat.ble k i then i::geN k is else geN k is
def upN:Nat->Nat->List Nat
 | _,0=>[]
 | i,n+1=>i::upN (i+1) n
def Z3j (f:Nat->Nat) (h:Nat->Option Zb):List Nat->Tr Zb
 | []=>.leaf
 | i::is=>(Z3j f h is).set (f i) ((h i).map (rnO f))
def Z42 (f:Nat->Nat) (h:Nat->Option Zb):List Nat->List (Nat×Option Zb)
 | []=>[]
 | i::is=>(f i,(h i).map (rnO f))::Z42 f h is
def Z2p (k:Nat) (R:List Nat) (j:Nat):Nat:=bif Nat.blt j k then j else k+Z1Q j R
def Z8m (k:Nat) (x:DV×Tr Zb×Nat):Option (DV×Tr Zb×Nat) :=
 let R:=geN k (Z1g x.2.1.get 4096 (rid x.1++upN 0 k) [])
 let ok:=fun j=>Nat.blt j k||Z3H j R
 bif Zaj R&&(okD ok x.1&&okH ok x.2.1.get (upN 0 k++R))then some (rn (Z2p k R) x.1,Z3j (Z2p k R) x.2.1.get (upN 0 k++R),k+Z2q R)else none
def Z4K (R:List Nat) (i:Nat):Nat:=Z1Q i R
def ZF (k nx:Nat) (R:List Nat) (j:Nat):Nat:=bif Nat.blt j k then Z6l 0 j R else nx+(j-k)
def Z4e (E:Env) (callH:Yb):Yb:=fun g as o nx=>(E.fn g).bind fun F=>bif F.can then
  let fs:=as.map fun d=>(frz o.get d).getD d
  let o1:=Y3 o (Zo o.get (Zi as))
  let R:=Z1g o1.get 4096 (Z1q fs) []
  let k:=Z2q R
  bif Zaj R&&(Z1h (fun i=>Z3H i R) fs&&okH (fun i=>Z3H i R) o1.get R)then
   (callH g (rns (Z4K R) fs) (Z3j (Z4K R) o1.get R) k).bind fun x=>(Z8m k x).bind fun y =>
    some (rn (ZF k nx R) y.1,Y3 o1 (Z42 (ZF k nx R) y.2.1.get (upN 0 y.2.2)),nx+(y.2.2-k))
  else none
 else callH g as o nx
def Z5z (E:Env) (df:Bool) (ρ:Nat->Option DV):Op->Bool
 | .defer c=>df&&c.args.isEmpty&&(match c.callee with
  | .value f=>(match ZU ρ f with
   | some (.fn (.func g) [] _)=>E.dfr g
   | _=>false)
  | _=>false)
 | _=>false
def Z2I (E:Env) (df:Bool) (call:Nat->List DV->Option DV) (callH callY:Yb) (V nt:Nat) (ops:Array Oper) (b:Nat):Nat->List Oper->Mid->Option Mid
 | _,[],m=>some m
 | k,o::os,m =>
  (Z1u ops (ZS V m.base m.loc) o).bind fun want=>bif want then
   bif Z5z E df (ZS V m.base m.loc) o.op then Z2I E df call callH callY V nt ops b (k+1) os (m.put V nt o.dst (some (.tup [])))else
   (Z46 E call (b+k) (ZS V m.base m.loc) m.objs.get o.op).bind fun
   | some r=>Z2I E df call callH callY V nt ops b (k+1) os ({ m with objs:=Y3 m.objs r.upd }.put V nt o.dst r.val)
   | none=>(Z38 o.op).bind fun cl=>(target E (ZS V m.base m.loc) cl).bind fun tgt=>(YU callH callY m.objs.get m.next tgt).bind fun x =>
     Z2I E df call callH callY V nt ops b (k+1) os ({ m with objs:=Y3 m.objs x.1.upd,next:=x.2.2 }.put V nt o.dst x.1.val)
  else Z2I E df call callH callY V nt ops b (k+1) os (m.put V nt o.dst (some (.tup [])))
def Z15 (E:Env) (call:Nat->List DV->Option DV) (callH callY:Yb) (V nt:Nat) (ops:Array Oper) (b:Nat):Nat->List Oper->Mid->List (Nat×YH)->Option Mid
 | _,[],m,ds=>some (YR V nt ds m)
 | k,o::os,m,ds =>
  let anc:=Z1N ops ds o k
  let ρ:=seen anc (ZS V m.base m.loc) ds
  let h:=Z60 anc m.objs.get ds
  bif o.after.all (fun e => !Region.binds .any e||Nat.blt e.on k)&&(match o.dst with|none=>true|some t=>Nat.blt t nt)&&ds.all (fun d=>Nat.testBit anc d.1||(match o.dst with
    | none=>true
    | some t => !((ops.getD d.1 o).looksAt ops).contains t && !(match d.2.dst with|some s=>Nat.beq s t|none=>false)))then
   (Z1u ops ρ o).bind fun want=>bif want then
    (Z46 E call (b+k) ρ h o.op).bind fun
    | some r=>bif r.upd.all (fun u=>ds.all (fun d=>Nat.testBit anc d.1 || !d.2.touch.contains u.1&&(Zq u.1 d.2.out.upd).isNone))then
      Z15 E call callH callY V nt ops b (k+1) os m ((k,⟨o.dst,anc,touch ρ o.op,r,none⟩)::ds)
     else none
    | none=>(Z38 o.op).bind fun cl=>(target E ρ cl).bind fun tgt=>(YU callH callY h m.next tgt).bind fun x =>
      bif ds.all (fun d=>Nat.testBit anc d.1||d.2.new.isNone&&x.1.upd.all (fun u => !d.2.touch.contains u.1&&(Zq u.1 d.2.out.upd).isNone))then
       Z15 E call callH callY V nt ops b (k+1) os { m with next:=x.2.2 } ((k,⟨o.dst,anc,x.2.1,x.1,some (m.next,x.2.2)⟩)::ds)
      else none
   else Z15 E call callH callY V nt ops b (k+1) os m ((k,⟨o.dst,anc,[],⟨some (.tup []),[]⟩,none⟩)::ds)
  else none
def Z2o (E:Env) (df:Bool) (call:Nat->List DV->Option DV) (callH callY:Yb) (V nt:Nat) (ops:Array Oper) (draw:Bool) (s:St):Option St :=
  (bif draw then Z15 E call callH callY V nt ops s.next 0 ops.toList ⟨s.base,[],s.objs,s.next+ops.size⟩ []
   else Z2I E df call callH callY V nt ops s.next 0 ops.toList ⟨s.base,[],s.objs,s.next+ops.size⟩).bind fun m=>some ⟨m.base,m.objs,m.next⟩
def Z67 (o:Tr Zb) (b0:Tr DV):Acc->Option (Nat×Nat)
 | .slot t _=>(match b0.get t with
  | some (.rs id v)=>some (id,v)
  | _=>none)
 | .cell t off _=>(match b0.get t with
  | some (.ptr q 0)=>(match o.get q with
   | some (.cells _ cs)=>(match cs[off]? with
    | some (.rs id v)=>some (id,v)
    | _=>none)
   | _=>none)
  | _=>none)
def Z5P (id v:Nat):Nat->List (Option (Nat×Nat))->Option Nat
 | _,[]=>none
 | j,some (i,u)::l=>bif Nat.beq i id&&Nat.beq u v then some j else Z5P id v (j+1) l
 | j,none::l=>Z5P id v (j+1) l
def Z3c (id:Nat):List (Option (Nat×Nat))->Bool
 | []=>false
 | some (i,_)::l=>Nat.beq i id||Z3c id l
 | none::l=>Z3c id l
mutual
def ren (n0:Nat) (L:List (Option (Nat×Nat))):DV->Option DV
 | .rs id v=>match Z5P id v 0 L with
  | some j=>some (.rs (n0+j) 0)
  | none=>bif Nat.blt id n0 && !Z3c id L then some (.rs id v)else none
 | .agg cs=>(Z2v n0 L cs).bind fun cs=>some (.agg cs)
 | .tup cs=>(Z2v n0 L cs).bind fun cs=>some (.tup cs)
 | d=>bif bdd n0 d then some d else none
def Z2v (n0:Nat) (L:List (Option (Nat×Nat))):List DV->Option (List DV)
 | []=>some []
 | c::cs=>(ren n0 L c).bind fun c=>(Z2v n0 L cs).bind fun cs=>some (c::cs)
end
def Z2F (n0:Nat) (L:List (Option (Nat×Nat))):Zb->Option Zb
 | .cells t cs=>(Z2v n0 L cs).bind fun cs=>some (.cells t cs)
 | .loop fid b ps as bo bid ex=>(b.tm (fun _ d=>(ren n0 L d).bind fun d=>some (some d)) 1 0).bind fun b=>some (.loop fid b ps as bo bid ex)
 | .mit m n se=>bif Nat.blt m n0 then some (.mit m n se)else none
 | o=>some o
def Ze7:List (Option (Nat×Nat))->Bool
 | []=>true
 | none::l=>Ze7 l
 | some (i,_)::l=>l.all (fun|some (k,_) => !Nat.beq k i|none=>true)&&Ze7 l
def Z28 (o:Tr Zb) (n0:Nat):Nat->List (Option (Nat×Nat))->Tr Zb->Option (Tr Zb)
 | _,[],no=>some no
 | j,none::l,no=>Z28 o n0 (j+1) l no
 | j,some (id,v)::l,no=>(match o.get id with
  | some (.row e es p u)=>bif Nat.beq u v then Z28 o n0 (j+1) l (no.set (n0+j) (some (.row e es p 0)))else none
  | _=>none)
def Yi (E:Env) (n0:Nat):Nat->List Acc->Tr DV×Tr Zb->Option (Tr DV×Tr Zb)
 | _,[],r=>some r
 | j,.slot t e::as,(b,no)=>(match b.get t with
  | some .nils=>(E.ty e).bind fun ei=>bif Nat.blt 0 ei.size&&(no.get (n0+j)).isNone then Yi E n0 (j+1) as (b.set t (some (.rs (n0+j) 0)),no.set (n0+j) (some (.row e [] 0 0)))else none
  | _=>Yi E n0 (j+1) as (b,no))
 | j,.cell t off e::as,(b,no)=>(match b.get t with
  | some (.ptr q 0)=>(match no.get q with
   | some (.cells ct cs)=>(match cs[off]? with
    | some .nils=>(E.ty e).bind fun ei=>bif Nat.blt 0 ei.size&&(no.get (n0+j)).isNone then Yi E n0 (j+1) as (b,(no.set q (some (.cells ct (cs.set off (.rs (n0+j) 0))))).set (n0+j) (some (.row e [] 0 0)))else none
    | _=>Yi E n0 (j+1) as (b,no))
   | _=>Yi E n0 (j+1) as (b,no))
  | _=>Yi E n0 (j+1) as (b,no))
mutual
def YB:DV->List (Nat×Nat)
 | .rs id v=>[(id,v)]
 | .agg cs=>YM cs
 | .tup cs=>YM cs
 | .fn _ a b=>YM a++YM b
 | .iface _ v=>YB v
 | _=>[]
def YM:List DV->List (Nat×Nat)
 | []=>[]
 | c::cs=>YB c++YM cs
end
def ZhV:Zb->List (Nat×Nat)
 | .cells _ cs=>YM cs
 | .loop _ b _ _ _ _ _=>(b.ents 1 0).flatMap fun p=>YB p.2
 | _=>[]
def Zf4 (o:Nat->Option Zb) (p:Nat×Nat):Bool:=match o p.1 with
 | some (.row _ _ _ u)=>Nat.beq u p.2
 | _=>false
def Z8K (ok:Nat×Nat->Bool) (A:List (Option (Nat×Nat))):List (Nat×Nat)->List (Nat×Nat)->List (Nat×Nat)
 | [],acc=>acc
 | p::ps,acc=>bif ok p && !Z3c p.1 A && !Z3c p.1 (acc.map some)then Z8K ok A ps (acc++[p])else Z8K ok A ps acc
def ZbH (o:Tr Zb) (b:Tr DV) (n0 keep:Nat) (A:List (Option (Nat×Nat))):List (Nat×Nat) :=
 Z8K (Zf4 o.get) A (((o.ents 1 0).flatMap fun p=>bif Nat.blt p.1 n0 then ZhV p.2 else [])++((b.ents 1 0).flatMap fun p=>bif Nat.testBit keep p.1 then YB p.2 else [])) []
def Zds (E:Env) (hint:Z3K) (n0:Nat) (s:St):Option St :=
 let A:=hint.accs.map (Z67 s.objs s.base)
 let X:=ZbH s.objs s.base n0 hint.keep A
 let L:=X.map some++A
 bif Ze7 L then
  (s.base.tm (fun t d=>bif Nat.testBit hint.keep t then(ren n0 L d).bind fun d=>some (some d)else some none) 1 0).bind fun b =>
  (s.objs.tm (fun i x=>bif Nat.blt i n0 && !Z3c i L then(Z2F n0 L x).bind fun x=>some (some x)else some none) 1 0).bind fun o =>
  (Z28 s.objs n0 0 L o).bind fun o=>(Yi E n0 X.length (hint.accs) (b,o)).bind fun r=>some ⟨r.1,r.2,n0+X.length+hint.accs.length⟩
 else none
def Zdr (E:Env) (hint:Z3K) (n0:Nat) (s:St):Option St :=
 (Zds E hint n0 s).bind fun s=>some (bif hint.raw then s else { s with objs:=s.objs.mapv Z56 })
def St.keep (m:Nat) (s:St):St:={ s with base:=s.base.filt m 1 0 }
def St.keepX (F:FI) (id:Nat) (s:St):St:=match F.xm.find? fun p=>Nat.beq p.1 id with
 | some p=>s.keep p.2
 | none=>s
def iter (nrm:St->Option St) (step:St->Option (Ex×St)):Nat->St->Option (Ex×St)
 | 0,_=>none
 | n+1,s=>(nrm s).bind fun s=>(step s).bind fun r=>match r.1 with
  | .normal=>iter nrm step n r.2
  | _=>some r
def Z6S (rnd:Option Nat) (h:Nat->Option Zb):Bool:=match rnd with
 | none=>true
 | some l=>(match h l with|some (.loop ..)=>true|_=>false)
def ZfP (s:St) (t id:Nat):St:=match s.objs.get id with
 | some (.cells _ cs)=>bif Zc cs then { s with base:=s.base.set t (some (.pub cs)),objs:=s.objs.set id none }else s
 | _=>s
def pubSlot (s:St) (t:Nat):St:=match s.base.get t with
 | some (.ptr id o)=>bif Nat.beq o 0 then ZfP s t id else s
 | _=>s
def pubAll (rid:Nat):List (Nat×Nat)->St->St
 | [],s=>s
 | (r,t)::ps,s=>pubAll rid ps (bif Nat.beq r rid then pubSlot s t else s)
def Z8T (o:Oper):Option (Nat×Nat):=match o.guard,o.dst,o.op with
 | none,some d,.next (.tmp i) false=>some (d,i)
 | _,_,_=>none
def Z7X (o:Oper):Option (Nat×Nat):=match o.guard,o.dst,o.op with
 | none,some d,.extract (.tmp x) 0=>some (d,x)
 | _,_,_=>none
def Zca (o:Oper):Option (Nat×Nat):=match o.guard,o.dst,o.op with
 | none,some d,.entry (.tmp i)=>some (d,i)
 | _,_,_=>none
def Z5V (o:Oper):Option (Nat×Nat):=match o.guard,o.dst,o.op with
 | none,some d,.move (.tmp x)=>some (d,x)
 | none,some d,.assign (.tmp x)=>some (d,x)
 | _,_,_=>none
def ZfV (o:Oper):Option (Nat×TypeId×Nat):=match o.guard,o.dst,o.op with
 | none,some d,.buildSlice t 1 ps=>(match ps.toList with
  | [(0,.tmp x)]=>some (d,t,x)
  | _=>none)
 | _,_,_=>none
def Zc9 (o:Oper):Option (Nat×TypeId×Nat×Nat):=match o.guard,o.dst,o.op with
 | none,some d,.call c=>(match c.callee,c.args.toList,c.argTypes.toList with
  | .builtin .append,[.tmp s,.tmp x],[t,t']=>bif Nat.beq t t' then some (d,t,s,x)else none
  | _,_,_=>none)
 | _,_,_=>none
def Z9J:List Nat->Bool
 | []=>true
 | i::is => !(is.any (Nat.beq i))&&Z9J is
def ZhJ (nt it l:Nat):List Oper->List Oper->List Oper->Nat->Option (List Nat×TypeId)
 | [o1,o2],[o3,o4,o5],[o6,o7,o8,o9,o10],tc=>(Z8T o1).bind fun a=>(Z7X o2).bind fun b=>(Zca o3).bind fun c=>(Z7X o4).bind fun d=>(Z5V o5).bind fun e =>
   (Z5V o6).bind fun f=>(Z5V o7).bind fun g=>(ZfV o8).bind fun h=>(Zc9 o9).bind fun i=>(Z5V o10).bind fun j =>
   let ds:=[it,l,a.1,b.1,c.1,d.1,e.1,f.1,g.1,h.1,i.1]
   bif Nat.beq a.2 it&&Nat.beq b.2 a.1&&Nat.beq tc b.1&&Nat.beq c.2 it&&Nat.beq d.2 c.1&&Nat.beq e.2 d.1&&Nat.beq f.2 l&&Nat.beq g.2 e.1&&Nat.beq h.2.2 g.1&&Nat.beq i.2.1 h.2.1&&Nat.beq i.2.2.1 f.1&&Nat.beq i.2.2.2 h.1&&Nat.beq j.1 l&&Nat.beq j.2 i.1&&Z9J ds&&ds.all (fun s=>Nat.blt s nt)then some ([a.1,b.1,c.1,d.1,e.1,f.1,g.1,h.1,i.1],h.2.1)else none
 | _,_,_,_=>none
def ZbZ (nt it l:Nat):Code->Option (Nat×List Nat×TypeId)
 | .seq (.region _ r0 false) (.seq (.cond (.tmp tc) .skip (.exit x)) (.block _ (.seq (.region _ r1 false) (.region _ r2 false))))=>(ZhJ nt it l r0.toList r1.toList r2.toList tc).bind fun p=>some (x,p)
 | _=>none
def Z6W:List (DV×DV)->Option (List Int)
 | []=>some []
 | (.int .i64 n,_)::es=>(Z6W es).bind fun l=>some (n::l)
 | _=>none
def Z9a:List Nat->Tr DV->Tr DV
 | [],b=>b
 | t::ts,b=>Z9a ts (b.set t none)
def Z7L (E:Env) (F:FI) (bid:Nat) (p:Nat×Nat×TypeId×Nat) (c:Code) (s:St):Option (Ex×St):=match s.base.get p.1,s.base.get p.2.1 with
 | some (.iter k),some .nils=>(match s.objs.get k with
  | some (.mit m n [])=>(match s.objs.get m with
   | some (.map es)=>(ZbZ F.nt p.1 p.2.1 c).bind fun q=>(E.ty q.2.2).bind fun ti=>(match ti.k with
    | .slice e=>(E.ty e).bind fun ei=>(match ei.k with
     | .int .i64=>(Z6W es).bind fun l=>bif Nat.beq e p.2.2.1&&Nat.beq q.1 bid&&Nat.beq es.length n&&Nat.ble n 100000&&Nat.beq ei.size 1&&Nat.ble ei.bytes 1000&&Nat.testBit F.vmask p.2.1 then
       let b:=Z9a (p.2.1::q.2.1) s.base
       some (.exit bid,(bif Nat.beq n 0 then(⟨b.set p.2.1 (some .nils),s.objs.set k none,s.next+2⟩:St)
        else⟨b.set p.2.1 (some (.rs (s.next+1) 0)),(s.objs.set k none).set (s.next+1) (some (.bag e (l.map fun z=>[.int .i64 z]) 0)),s.next+2⟩).keepX F bid)
      else none
     | _=>none)
    | _=>none)
   | _=>none)
  | _=>none)
 | _,_=>none
def evC (E:Env) (rnd:Option Nat) (fid:Nat) (F:FI) (call:Nat->List DV->Option DV) (callH callY:Yb) (fuel:Nat):Nat->Code->St->Option (Ex×St)
 | _,.skip,s=>some (.normal,s)
 | _,.region rid ops draw,s=>(Z2o E rnd.isNone call callH callY F.vmask F.nt ops draw (pubAll rid F.pubs s)).bind fun s=>some (.normal,s)
 | bid,.seq x y,s=>(evC E rnd fid F call callH callY fuel bid x s).bind fun r=>match r.1 with
  | .normal=>evC E rnd fid F call callH callY fuel bid y r.2
  | _=>some r
 | bid,.cond c x y,s=>(match ZU s.base.get c with
  | some (.bool t)=>bif t then evC E rnd fid F call callH callY fuel bid x s else evC E rnd fid F call callH callY fuel bid y s
  | _=>none)
 | _,.block id c,s=>(evC E rnd fid F call callH callY fuel id c s).bind fun r=>match r.1 with
  | .exit i=>bif Nat.beq i id then some (.normal,r.2)else some r
  | _=>some r
 | bid,.loop c,s=>match(F.mrs.find? fun p=>Nat.beq p.1 bid:Option (Nat×Nat×Nat×TypeId×Nat))with
  | some p=>Z7L E F bid p.2 c s
  | none=>((F.hints.find? fun h=>Nat.beq h.bid bid):Option Z3K).bind fun hint =>
   iter (Zdr E hint s.next) (evC E rnd fid F call callH callY fuel bid c) fuel s
 | _,.exit id,s=>some (.exit id,s.keepX F id)
 | bid,.scope c,s=>evC E rnd fid F call callH callY fuel bid c s
 | _,.label _,s=>some (.normal,s)
 | _,.ret,s=>some (.ret,s.keep F.rm)
 | bid,.rangeFunc f ps assign body,s0=>bif Z6S rnd s0.objs.get then Option.bind (match(F.hints.find? fun h=>Nat.beq h.bid bid:Option Z3K)with
   | some hint=>(Yi E s0.next 0 hint.accs (s0.base,s0.objs)).bind fun r=>some (St.mk r.1 r.2 (s0.next+hint.accs.length))
   | none=>some s0) fun(s:St)=>(ZU s.base.get f).bind fun fv=>(match fv with
  | .fn (.func g) first caps =>
   (callH g (first++[.yld s.next]++caps) (s.objs.set s.next (some (.loop fid s.base ps.toList assign body bid .normal))) (s.next+1)).bind fun x =>
    (match x.2.1.get s.next with
    | some (.loop _ _ _ _ _ _ ex)=>(match ex with | .busy=>none|_=>some (ex,{ s with objs:=x.2.1.set s.next none,next:=x.2.2 }))
    | _=>none)
  | _=>none)else none
 | _,_,_=>none
def Z4w (E:Env) (base:Nat->Option DV) (h:Nat->Option Zb):List ResultVar->Option (List DV)
 | []=>some []
 | .tmp t::rs=>(base t).bind fun v=>(Z4w E base h rs).bind fun vs=>some (v::vs)
 | .cell a t::rs=>(E.ty t).bind fun ti=>(base a).bind fun a=>(Z3a ti h a).bind fun v=>(Z4w E base h rs).bind fun vs=>some (v::vs)
def Z72:List DV->DV
 | [v]=>v
 | vs=>.tup vs
def Z2a (V:Nat):Nat->List DV->Tr DV->Tr DV
 | _,[],b=>b
 | k,v::vs,b=>Z2a V (k+1) vs (bif Nat.testBit V k then b.set k (some v)else b)
def YS (V nt:Nat):List Nat->List DV->Tr DV->Option (Tr DV)
 | [],[],b=>some b
 | p::ps,v::vs,b=>bif Nat.blt p nt then YS V nt ps vs (bif Nat.testBit V p then b.set p (some v)else b)else none
 | _,_,_=>none
def Za1 (E:Env) (call:Nat->List DV->Option DV) (callH callY:Yb) (n:Nat):Yb:=fun f args objs next =>
 (E.fn f).bind fun F=>bif Nat.ble args.length F.nt then
  (evC E none f F call callH callY n 0 F.body ⟨Z2a F.vmask 0 args .leaf,objs,next⟩).bind fun r =>
   match r.1 with
   | .exit _ | .busy=>none
   | _=>(Z4w E r.2.base.get r.2.objs.get F.nres).bind fun vs=>some (Z72 vs,r.2.objs,r.2.next)
  else none
def ccD (t:TypeId):List DV->Tr Zb->Nat->Option (DV×Tr Zb×Nat)
 | [.ptr id 0],o,nx=>(match o.get id with
  | some (.cells t' [c0,c1])=>bif Nat.beq t' t&&(match c0 with | .nilp=>true | .ptr j 0=>Nat.beq j id|_=>false)then some (.tup [],o.set id (some (.cells t' [.ptr id 0,c1])),nx)else none
  | _=>none)
 | _,_,_=>none
def Zis (E:Env) (e:TypeId):List DV->Tr Zb->Nat->Option (DV×Tr Zb×Nat)
 | [x],o,nx=>(ZT o.get x).bind fun es=>(E.ty e).bind fun ei=>bif es.all (fun c=>Nat.beq c.length ei.size)&&Nat.ble (es.length*(ei.bytes+1)) 100000000000000&&Nat.blt 0 ei.size then some (.rs nx 0,o.set nx (some (.row e es 0 0)),nx+1)else none
 | _,_,_=>none
def Z9x:List (List DV)->Option (List Int)
 | []=>some []
 | [.int .i64 n]::es=>(Z9x es).bind fun l=>some (n::l)
 | _=>none
def Zey (n:Int):List Int->List Int
 | []=>[n]
 | m::l=>bif decide (n<=m)then n::m::l else m::Zey n l
def Z3n:List Int->List Int
 | []=>[]
 | n::l=>Zey n (Z3n l)
def ZgR (e:TypeId):List DV->Tr Zb->Nat->Option (DV×Tr Zb×Nat)
 | [.nils],o,nx=>some (.tup [],o,nx)
 | [.rs id v],o,nx=>(match o.get id with
  | some (.bag e' es u)=>bif Nat.beq e' e&&Nat.beq u v&&Nat.ble es.length 1000000 then(Z9x es).bind fun l=>some (.tup [],o.set id (some (.row e ((Z3n l).map fun n=>[.int .i64 n]) 0 u)),nx)else none
  | _=>none)
 | _,_,_=>none
def Z47 (E:Env) (f:Nat) (run:Yb):Yb:=fun g as o nx=>match E.leaf f with
 | some L=>bif Zc as then(L as).bind fun r=>bif Zf r then some (r,o,nx)else none else none
 | none=>match E.cc f with
  | some t=>ccD t as o nx
  | none=>match E.cln f with
   | some e=>Zis E e as o nx
   | none=>match E.srt f with
    | some e=>ZgR e as o nx
    | none=>run g as o nx
def Ze6 (E:Env) (f:Nat):Bool:=(E.leaf f).isSome||((E.cc f).isSome||((E.cln f).isSome||(E.srt f).isSome))
def evX (E:Env):Nat->Bool->Yb
 | 0,_,_,_,_,_=>none
 | n+1,false,f,args,objs,next=>Z47 E f (Z4e E (Za1 E (fun g as=>(evX E n false g as .leaf 0).bind fun x=>frz x.2.1.get x.1) (evX E n false) (evX E n true) n)) f args objs next
 | n+1,true,l,args,objs,next=>(match objs.get l with
  | some (.loop fid base ps assign body bid .normal)=>(E.fn fid).bind fun F=>(YS F.vmask F.nt ps args base).bind fun b =>
    let run:=evC E (some l) fid F (fun g as=>(evX E n false g as .leaf 0).bind fun x=>frz x.2.1.get x.1) (evX E n false) (evX E n true) n bid
    (run assign ⟨b,objs,next⟩).bind fun r=>(match r.1,r.2.objs.get l with
    | .normal,some (.loop fid2 base2 ps2 assign2 body2 bid2 .normal)=>(run body { r.2 with objs:=r.2.objs.set l (some (.loop fid2 base2 ps2 assign2 body2 bid2 .busy)) }).bind fun r=>(match r.1,r.2.objs.get l with
     | .busy,_=>none
     | ex,some (.loop fid3 base3 ps3 assign3 body3 bid3 .busy)=>some (.bool (match ex with | .normal=>true|_=>false),r.2.objs.set l (some (.loop fid3 base3 ps3 assign3 body3 bid3 ex)),r.2.next)
     | _,_=>none)
    | _,_=>none)
  | _=>none)
def evF (E:Env) (n f:Nat) (args:List DV):Option DV:=(evX E n false f args .leaf 0).bind fun x=>frz x.2.1.get x.1
end Go.Ab
namespace Go.Ab
open Go.RowKit
abbrev Gh:=Nat->Nat->Option Value
structure Bi where
 blk:Nat->Option Nat
 hdr:Nat->Nat->Option Value
mutual
def Rep (β:Bi) (G:Gh):DV->Value->Prop
 | .bool b,v=>v=.bool b
 | .int k n,v=>v=.int k n
 | .str s,v=>v=.string s
 | .nilp,v=>v=.pointer none
 | .ptr id off,v=>∃b,β.blk id=some b/\v=.pointer (some ⟨b,off,none⟩)
 | .rptr id w i e off,v=>∃b n c,β.hdr id w=some (.slice (some ⟨b,0,none⟩) n c)/\v=.pointer (some ⟨b,i*e+off,none⟩)
 | .pub cs,v=>Zc cs=true/\∃b o,v=.pointer (some ⟨b,o,none⟩)/\Pub β G b o cs
 | .nils,v=>v=.slice none 0 0
 | .sl es,v=>∃a c,(v=.slice a es.length c/\es.length<=c)/\(es=[]\/∃b o e,a=some ⟨b,o,none⟩/\Ym β G b e o es)
 | .rs id w,v=>β.hdr id w=some v/\∃a n c,v=.slice a n c
 | .rv id w i n e,v=>∃a m c a' c',β.hdr id w=some (.slice a m c)/\v=.slice a' n c'/\n<=c'/\i+n<=m/\(n=0\/∃b,a=some ⟨b,0,none⟩/\a'=some ⟨b,i*e,none⟩)
 | .slen n,v=>∃a c,v=.slice a n c/\n<=c
 | .agg cs,v=>∃vs,v=.agg vs.toArray/\Ze β G cs vs
 | .tup cs,v=>∃vs,v=.tuple vs.toArray/\Ze β G cs vs
 | .fn f a c,v=>∃as cs,v=.func f as.toArray cs.toArray/\Ze β G a as/\Ze β G c cs
 | .nilfn,v=>v=.nilFunc
 | .map id,v=>∃b,β.blk id=some b/\v=.map (some b)
 | .nilmap,v=>v=.map none
 | .iface t d,v=>∃u,v=.iface t u/\Rep β G d u
 | .nilif,v=>v=.nilIface
 | .iter id,v=>∃b,β.blk id=some b/\v=.pointer (some ⟨b,0,none⟩)
 | .yld id,v=>∃b,β.blk id=some b/\v=.func (.yield b) #[] #[]
def Ze (β:Bi) (G:Gh):List DV->List Value->Prop
 | [],vs=>vs=[]
 | d::ds,vs=>∃v vs',vs=v::vs'/\Rep β G d v/\Ze β G ds vs'
def Pub (β:Bi) (G:Gh) (b o:Nat):List DV->Prop
 | []=>True
 | d::ds=>(∃u,G b o=some u/\Rep β G d u)/\Pub β G b (o+1) ds
def Ym (β:Bi) (G:Gh) (b e o:Nat):List (List DV)->Prop
 | []=>True
 | c::cs=>c.length=e/\(Zc c=true/\c.all Zw=true)/\Pub β G b o c/\Ym β G b e (o+e) cs
end
structure Ext (β:Bi) (G:Gh) (β':Bi) (G':Gh):Prop where
 g:∀b o v,G b o=some v->G' b o=some v
 blk:∀id b,β.blk id=some b->β'.blk id=some b
 hdr:∀id u v,β.hdr id u=some v->β'.hdr id u=some v
theorem Ext.refl (β:Bi) (G:Gh):Ext β G β G:=⟨fun _ _ _ h=>h,fun _ _ h=>h,fun _ _ _ h=>h⟩
theorem Ext.trans {β β' β'':Bi} {G G' G'':Gh} (h:Ext β G β' G') (k:Ext β' G' β'' G''):Ext β G β'' G'' :=
 ⟨fun b o v x=>k.g b o v (h.g b o v x),fun id b x=>k.blk id b (h.blk id b x),fun id u v x=>k.hdr id u v (h.hdr id u v x)⟩
section mono
variable {β β':Bi} {G G':Gh}
mutual
theorem Rep.mono (i:Ext β G β' G'):∀(d:DV) (v:Value),Rep β G d v->Rep β' G' d v
 | .bool _,_,h=>by unfold Rep at h⊢;exact h
 | .int _ _,_,h=>by unfold Rep at h⊢;exact h
 | .str _,_,h=>by unfold Rep at h⊢;exact h
 | .nilp,_,h=>by unfold Rep at h⊢;exact h
 | .ptr _ _,_,h=>by unfold Rep at h⊢;obtain⟨b,g,f⟩:=h;exact⟨b,i.blk _ _ g,f⟩
 | .rptr _ _ _ _ _,_,h=>by unfold Rep at h⊢;obtain⟨b,n,c,g,f⟩:=h;exact⟨b,n,c,i.hdr _ _ _ g,f⟩
 | .pub cs,_,h=>by unfold Rep at h⊢;obtain⟨k,b,o,g,f⟩:=h;exact⟨k,b,o,g,Pub.mono i cs b o f⟩
 | .nils,_,h=>by unfold Rep at h⊢;exact h
 | .sl es,_,h=>by
  unfold Rep at h⊢;obtain⟨a,c,g,f⟩:=h;refine⟨a,c,g,?_⟩;rcases f with f|⟨b,o,e,f,j⟩
  ·exact .inl f
  ·exact .inr ⟨b,o,e,f,Ym.mono i es b e o j⟩
 | .rs _ _,_,h=>by unfold Rep at h⊢;exact⟨i.hdr _ _ _ h.1,h.2⟩
 | .rv _ _ _ _ _,_,h=>by unfold Rep at h⊢;obtain⟨a,m,c,a',c',g,f⟩:=h;exact⟨a,m,c,a',c',i.hdr _ _ _ g,f⟩
 | .slen _,_,h=>by unfold Rep at h⊢;exact h
 | .agg cs,_,h=>by unfold Rep at h⊢;obtain⟨vs,g,f⟩:=h;exact⟨vs,g,Ze.mono i cs vs f⟩
 | .tup cs,_,h=>by unfold Rep at h⊢;obtain⟨vs,g,f⟩:=h;exact⟨vs,g,Ze.mono i cs vs f⟩
 | .fn _ a c,_,h=>by unfold Rep at h⊢;obtain⟨as,cs,g,f,j⟩:=h;exact⟨as,cs,g,Ze.mono i a as f,Ze.mono i c cs j⟩
 | .nilfn,_,h=>by unfold Rep at h⊢;exact h
 | .map _,_,h=>by unfold Rep at h⊢;obtain⟨b,g,f⟩:=h;exact⟨b,i.blk _ _ g,f⟩
 | .nilmap,_,h=>by unfold Rep at h⊢;exact h
 | .iface _ d,_,h=>by unfold Rep at h⊢;obtain⟨u,g,f⟩:=h;exact⟨u,g,Rep.mono i d u f⟩
 | .nilif,_,h=>by unfold Rep at h⊢;exact h
 | .iter _,_,h=>by unfold Rep at h⊢;obtain⟨b,g,f⟩:=h;exact⟨b,i.blk _ _ g,f⟩
 | .yld _,_,h=>by unfold Rep at h⊢;obtain⟨b,g,f⟩:=h;exact⟨b,i.blk _ _ g,f⟩
theorem Ze.mono (a:Ext β G β' G'):∀(ds:List DV) (vs:List Value),Ze β G ds vs->Ze β' G' ds vs
 | [],_,h=>by unfold Ze at h⊢;exact h
 | d::ds,_,h=>by unfold Ze at h⊢;obtain⟨v,vs',b,e,c⟩:=h;exact⟨v,vs',b,Rep.mono a d v e,Ze.mono a ds vs' c⟩
theorem Pub.mono (a:Ext β G β' G'):∀(ds:List DV) (b o:Nat),Pub β G b o ds->Pub β' G' b o ds
 | [],_,_,_=>by unfold Pub;trivial
 | d::ds,b,o,h=>by unfold Pub at h⊢;obtain⟨⟨u,c,f⟩,e⟩:=h;exact⟨⟨u,a.g _ _ _ c,Rep.mono a d u f⟩,Pub.mono a ds b (o+1) e⟩
theorem Ym.mono (a:Ext β G β' G'):∀(es:List (List DV)) (b e o:Nat),Ym β G b e o es->Ym β' G' b e o es
 | [],_,_,_,_=>by unfold Ym;trivial
 | c::cs,b,e,o,h=>by unfold Ym at h⊢;obtain⟨g,d,i,f⟩:=h;exact⟨g,d,Pub.mono a c b o i,Ym.mono a cs b e (o+e) f⟩
end
end mono
section free
variable {β β':Bi} {G:Gh}
mutual
theorem Rep.free:∀(d:DV) (v:Value),Zf d=true->Rep β G d v->Rep β' G d v
 | .bool _,_,_,h=>by unfold Rep at h⊢;exact h
 | .int _ _,_,_,h=>by unfold Rep at h⊢;exact h
 | .str _,_,_,h=>by unfold Rep at h⊢;exact h
 | .nilp,_,_,h=>by unfold Rep at h⊢;exact h
 | .ptr _ _,_,hf,_=>by simp[Zf]at hf
 | .rptr _ _ _ _ _,_,hf,_=>by simp[Zf]at hf
 | .pub _,_,hf,_=>by simp[Zf]at hf
 | .nils,_,_,h=>by unfold Rep at h⊢;exact h
 | .sl es,_,_,h=>by
  unfold Rep at h⊢;obtain⟨a,c,g,f⟩:=h;refine⟨a,c,g,?_⟩;rcases f with f|⟨b,o,e,f,j⟩
  ·exact .inl f
  ·exact .inr ⟨b,o,e,f,Ym.free es b e o j⟩
 | .rs _ _,_,hf,_=>by simp[Zf]at hf
 | .rv _ _ _ _ _,_,hf,_=>by simp[Zf]at hf
 | .slen _,_,hf,_=>by simp[Zf]at hf
 | .agg cs,_,hf,h=>by unfold Rep at h⊢;obtain⟨vs,g,f⟩:=h;exact⟨vs,g,Ze.free cs vs (by simpa[Zf]using hf) f⟩
 | .tup cs,_,hf,h=>by unfold Rep at h⊢;obtain⟨vs,g,f⟩:=h;exact⟨vs,g,Ze.free cs vs (by simpa[Zf]using hf) f⟩
 | .fn _ a c,_,hf,h=>by
  unfold Rep at h⊢;obtain⟨as,cs,g,f,j⟩:=h;have i:Zc a=true/\Zc c=true:=by simpa[Zf]using hf
  exact⟨as,cs,g,Ze.free a as i.1 f,Ze.free c cs i.2 j⟩
 | .nilfn,_,_,h=>by unfold Rep at h⊢;exact h
 | .map _,_,hf,_=>by simp[Zf]at hf
 | .nilmap,_,_,h=>by unfold Rep at h⊢;exact h
 | .iface _ d,_,hf,h=>by unfold Rep at h⊢;obtain⟨u,g,f⟩:=h;exact⟨u,g,Rep.free d u (by simpa[Zf]using hf) f⟩
 | .nilif,_,_,h=>by unfold Rep at h⊢;exact h
 | .iter _,_,hf,_=>by simp[Zf]at hf
 | .yld _,_,hf,_=>by simp[Zf]at hf
theorem Ze.free:∀(ds:List DV) (vs:List Value),Zc ds=true->Ze β G ds vs->Ze β' G ds vs
 | [],_,_,h=>by unfold Ze at h⊢;exact h
 | d::ds,_,hf,h=>by
  unfold Ze at h⊢;have a:Zf d=true/\Zc ds=true:=by simpa[Zc]using hf
  obtain⟨v,vs',b,e,c⟩:=h;exact⟨v,vs',b,Rep.free d v a.1 e,Ze.free ds vs' a.2 c⟩
theorem Pub.free:∀(ds:List DV) (b o:Nat),Zc ds=true->Pub β G b o ds->Pub β' G b o ds
 | [],_,_,_,_=>by unfold Pub;trivial
 | d::ds,b,o,hf,h=>by
  unfold Pub at h⊢;have a:Zf d=true/\Zc ds=true:=by simpa[Zc]using hf
  obtain⟨⟨u,c,f⟩,e⟩:=h;exact⟨⟨u,c,Rep.free d u a.1 f⟩,Pub.free ds b (o+1) a.2 e⟩
theorem Ym.free:∀(es:List (List DV)) (b e o:Nat),Ym β G b e o es->Ym β' G b e o es
 | [],_,_,_,_=>by unfold Ym;trivial
 | c::cs,b,e,o,h=>by unfold Ym at h⊢;obtain⟨d,a,f,g⟩:=h;exact⟨d,a,Pub.free c b o a.1 f,Ym.free cs b e (o+e) g⟩
end
end free
section lists
variable {β:Bi} {G:Gh}
theorem Zg {vs:List Value}:Ze β G [] vs↔vs=[]:=by unfold Ze;exact Iff.rfl
theorem Za {d:DV} {ds:List DV} {vs:List Value}:Ze β G (d::ds) vs↔∃v vs',vs=v::vs'/\Rep β G d v/\Ze β G ds vs':=by
 conv=>lhs;unfold Ze
theorem ZJ:∀{ds:List DV} {vs:List Value},Ze β G ds vs->vs.length=ds.length
 | [],_,h=>by rw[Zg]at h;simp[h]
 | d::ds,_,h=>by
  obtain⟨v,vs',rfl,_,h⟩:=Za.1 h;simp[ZJ h]
theorem Z3X:∀{ds:List DV} {vs:List Value},Ze β G ds vs->∀{i:Nat} {d:DV},ds[i]? = some d->∃v,vs[i]? = some v/\Rep β G d v
 | [],_,_,i,d,hi=>by simp at hi
 | x::ds,_,h,i,d,hi=>by
  obtain⟨v,vs',rfl,a,h⟩:=Za.1 h;cases i with
  | zero=>simp at hi;subst hi;exact⟨v,rfl,a⟩
  | succ i=>simpa using Z3X h (i:=i) (d:=d) (by simpa using hi)
theorem Y2:∀{ds es:List DV} {vs:List Value},Ze β G (ds++es) vs↔∃as bs,vs=as++bs/\Ze β G ds as/\Ze β G es bs
 | [],es,vs=>by
  constructor
  ·intro h;exact⟨[],vs,rfl,Zg.2 rfl,h⟩
  ·rintro⟨as,bs,rfl,a,b⟩;rw[Zg]at a;subst a;exact b
 | d::ds,es,vs=>by
  constructor
  ·intro h;obtain⟨v,vs',rfl,a,b⟩:=Za.1 h;obtain⟨as,bs,rfl,c,e⟩:=Y2.1 b;exact⟨v::as,bs,rfl,Za.2 ⟨v,as,rfl,a,c⟩,e⟩
  ·rintro⟨as,bs,rfl,a,b⟩;obtain⟨v,as',rfl,c,e⟩:=Za.1 a;exact Za.2 ⟨v,as'++bs,rfl,c,Y2.2 ⟨as',bs,rfl,e,b⟩⟩
theorem Yx:∀{ds:List DV} {vs:List Value} (n:Nat),Ze β G ds vs->Ze β G (ds.drop n) (vs.drop n)
 | [],_,n,h=>by rw[Zg]at h;subst h;simp[Zg]
 | d::ds,_,0,h=>by simpa using h
 | d::ds,_,n+1,h=>by
  obtain⟨v,vs',rfl,b,a⟩:=Za.1 h;simpa using Yx n a
theorem Yy:∀{ds:List DV} {vs:List Value} (n:Nat),Ze β G ds vs->Ze β G (ds.take n) (vs.take n)
 | [],_,n,h=>by rw[Zg]at h;subst h;simp[Zg]
 | d::ds,_,0,h=>by simp[Zg]
 | d::ds,_,n+1,h=>by
  obtain⟨v,vs',rfl,a,b⟩:=Za.1 h;simpa using Za.2 ⟨v,_,rfl,a,Yy n b⟩
theorem ZhZ {d:DV} {v:Value} (hc:Zw d=true) (h:Rep β G d v):v.oneCell'=true:=by
 cases d<;>simp[Zw]at hc<;>unfold Rep at h
 all_goals first
  | (subst h;rfl)
  | (obtain⟨b,_,rfl⟩:=h;rfl)
  | (obtain⟨b,n,c,_,rfl⟩:=h;rfl)
  | (obtain⟨_,b,o,rfl,_⟩:=h;rfl)
  | (obtain⟨a,c,⟨rfl,_⟩,_⟩:=h;rfl)
  | (obtain⟨_,a,n,c,rfl⟩:=h;rfl)
  | (obtain⟨_,_,rfl,_,_⟩:=h;rfl)
  | (obtain⟨_,_,_,_,_,_,rfl,_⟩:=h;rfl)
  | (obtain⟨_,_,rfl,_⟩:=h;rfl)
  | (obtain⟨_,rfl,_⟩:=h;rfl)
theorem Z3Z {d:DV} {v:Value} (h:Rep β G d v):Ze β G (cellsOf d) v.cells.toList:=by
 have single:∀{d:DV} {v:Value},Rep β G d v->v.cells = #[v]->Ze β G [d] v.cells.toList:=fun h e=>by
  rw[e];exact Za.2 ⟨_,[],rfl,h,Zg.2 rfl⟩
 cases d with
 | agg cs=>unfold Rep at h;obtain⟨vs,rfl,h⟩:=h;simpa[cellsOf,Value.cells]using h
 | _ =>
  refine single h ?_;unfold Rep at h
  first
  | (subst h;rfl)
  | (obtain⟨b,_,rfl⟩:=h;rfl)
  | (obtain⟨b,n,c,_,rfl⟩:=h;rfl)
  | (obtain⟨_,b,o,rfl,_⟩:=h;rfl)
  | (obtain⟨a,c,⟨rfl,_⟩,_⟩:=h;rfl)
  | (obtain⟨_,a,n,c,rfl⟩:=h;rfl)
  | (obtain⟨_,_,rfl,_,_⟩:=h;rfl)
  | (obtain⟨_,_,_,_,_,_,rfl,_⟩:=h;rfl)
  | (obtain⟨_,_,rfl,_⟩:=h;rfl)
  | (obtain⟨_,rfl,_⟩:=h;rfl)
theorem Z4v:∀{ds:List DV} {vs:List Value},ds.all Zw=true->Ze β G ds vs->∀v∈vs,v.oneCell'=true
 | [],_,_,h,v,hv=>by rw[Zg]at h;subst h;cases hv
 | d::ds,_,hc,h,v,hv=>by
  obtain⟨u,vs',rfl,a,b⟩:=Za.1 h;simp only[jt,jn]at hc;cases hv with
  | head=>exact ZhZ hc.1 a
  | tail _ hv=>exact Z4v hc.2 b v hv
end lists
end Go.Ab
namespace Go.Ab
open Go.RowKit
structure ZL (P:Program) (t:TypeId) (ti:TI):Prop where
 info:∃i z,P.info? t=some i/\i.size=ti.size/\i.bytes=ti.bytes/\i.zero=some z/\z.cells.size=ti.size/\∀β G,Ze β G ti.zero z.cells.toList
 zc:ti.zero.all Zw=true
 eqr:ti.eqOk=true->(∀(xs ys:List DV) (r:Bool),Zl xs ys=some r->Zd ti.zero xs=true->Zd ti.zero ys=true->∀(β:Bi) (G:Gh) (vx vy:List Value) (w:World),Ze β G xs vx->Ze β G ys vy →
  (Op.equal t (.agg vx.toArray) (.agg vy.toArray)).run P w=.ok r w)/\P.eqGuardType P.depth t=false
 zf:Zc ti.zero=true
 zr:ti.isAgg=false->∀d,ti.zero=[d]->∀i z,P.info? t=some i->i.zero=some z->∀β G,Rep β G d z
 zn:ti.isAgg=false->ti.zero.length=1
 za:ti.isAgg=true->∀i z,P.info? t=some i->i.zero=some z->∃cs,z=.agg cs
 meth:∀m g,Z7K m ti.meths=some g->∀(v:Value) (args:Array Value) (w:World),(callMethod (.iface t v) m args).run P w=(callFunc g (#[v]++args)).run P w
 key:ti.keyOk=true->∀(xs:List DV),Zd ti.zero xs=true->∀(b:Bool) (β:Bi) (G:Gh) (vx:List Value) (w:World),Ze β G xs vx->(Instr.checkKey b 10000 t (.agg vx.toArray)).run P w=.ok () w
 desc:match ti.k with
  | .bool=>P.underlying t=some .bool
  | .int k=>P.underlying t=some (.int k)
  | .string=>P.underlying t=some .string
  | .struct fs=>∃fields,P.underlying t=some (.struct fields)/\fields.toList.map (fun f=>(f.type,f.offset))=fs ∧
    ∃places,fields.toList.mapM (fun f=>(P.info? f.type).map fun i=>(f.offset,i.size))=some places
  | .array n e=>P.underlying t=some (.array n e)
  | .slice e=>P.underlying t=some (.slice e)
  | .map k e=>P.underlying t=some (.map k e)
  | .ptr e=>P.underlying t=some (.pointer e)
  | .func=>∃a b c,P.underlying t=some (.func a b c)
  | .iface=>∃ms,P.underlying t=some (.interface ms)
  | .other=>False
def Yn (E:Env) (t:TypeId):Nat:=match E.ty t with|some ti=>ti.size|none=>0
def Yf (β:Bi) (id:Nat) (o:Zb) (b:Nat):Prop :=
 match o with
 | .row _ _ _ u=>∃n c,β.hdr id u=some (.slice (some ⟨b,0,none⟩) n c)
 | .bag _ _ u=>∃n c,β.hdr id u=some (.slice (some ⟨b,0,none⟩) n c)
 | _=>β.blk id=some b
def Z64 (β:Bi) (G:Gh):List (DV×DV)->List MapEntry->Prop
 | [],ms=>ms=[]
 | (k,v)::es,ms=>∃m ms',ms=m::ms'/\Rep β G k m.key/\Rep β G v m.val/\keyOk k=true/\Zf v=true/\Z64 β G es ms'
def YQ:Ex->Option Code
 | .normal | .busy=>none
 | .exit id=>some (.exit id)
 | .ret=>some .ret
def FrM (β:Bi) (G:Gh) (ρ:Nat->Option DV) (tmps:Array Value):Prop:=∀t d,ρ t=some d->∃v,tmps[t]? = some v/\Rep β G d v
theorem Z9Q (p n:Nat):pn p n<=n:=by unfold pn;split<;>omega
theorem ZiZ (p:Nat) {n m:Nat} (h:n<=m):pn p n<=pn p m:=by unfold pn;split<;>omega
abbrev ZjP (E:Env) (base:Nat) (w:World) (β:Bi) (G:Gh) (id:Nat) (t:TypeId) (es:List (List DV)) (p u:Nat):Prop :=
 ∃hdr vals,β.hdr id u=some hdr/\w.ownsRow base t (Yn E t) hdr es.length vals/\Ze β G es.flatten vals ∧
   (∀c∈es,c.length=Yn E t/\Zc c=true/\c.all Zw=true)/\(0<Yn E t/\pn p es.length<=es.length) ∧
   (∀b,hdr.ownBlock=some b->∀o,pn p es.length*Yn E t<=o->G b o=none)/\∀u',u<u'->β.hdr id u'=none
abbrev Zh2 (ms:Array MapEntry) (clock:Nat):Prop:=ms.toList.map (·.born)=List.range ms.size/\clock=ms.size
def Z1M (E:Env) (base:Nat) (w:World) (β:Bi) (G:Gh) (id:Nat):Zb->Prop
 | .cells t cs=>∃b vs,β.blk id=some b/\w.heap[b]? = some (.cells vs t (0,0))/\Ze β G cs vs.toList/\cs.all Zw=true/\∀o,G b o=none
 | .row t es p u=>ZjP E base w β G id t es p u
 | .bag t es u=>∃fs,fs.Perm es/\ZjP E base w β G id t fs 0 u
 | .map es=>∃b ms clock,β.blk id=some b/\w.heap[b]? = some (.map ms clock)/\Z64 β G es ms.toList/\Zh2 ms clock
 | .mit m n se=>∃b bm c0,β.blk id=some b/\β.blk m=some bm/\w.heap[b]? = some (.mapIter (some bm) n se.toArray c0)/\n<=c0
 | .siter s pos=>∃b,β.blk id=some b/\w.heap[b]? = some (.stringIter s pos)
 | .loop fid bs ps assign body _ ex=>∃b tmps df fn F,β.blk id=some b ∧
   w.heap[b]? = some (.loop { state:=(match ex with | .normal=>.ready | .busy=>.busy|_=>.done),pending:=YQ ex,fn:=fn,tmps:=tmps,params:=ps.toArray,assign:=assign,body:=body,defers:=df }) ∧
   FrM β G bs.get tmps/\E.fn fid=some F/\tmps.size=F.nt/\∀t d,bs.get t=some d->Nat.testBit F.vmask t=true
abbrev DD:=Nat->Option (Obj×(Nat->Option Value))
def mkD:Obj×(Nat->Option Value):=(.deferred (some []),fun _=>none)
def Yu (own:List Nat) (D:DD):DD:=fun b=>if b∈own then some mkD else D b
def Z8Y (own:List Nat) (D:DD):Prop:=own.Nodup/\∀b∈own,D b=none
theorem Z4s {own:List Nat} {D:DD} {b:Nat} (h:Yu own D b=none):b∉own/\D b=none:=by
 unfold Yu at h
 by_cases e:b∈own
 ·rw[if_pos e]at h;cases h
 ·rw[if_neg e]at h;exact⟨e,h⟩
theorem Z7T (D:DD):Yu [] D=D:=by funext b;simp[Yu]
theorem Z5U (d:Nat) (own:List Nat) (D:DD):Yu (d::own) D=Yu [d] (Yu own D):=by
 funext b;unfold Yu
 by_cases e:b=d
 ·simp[e]
 ·simp[e]
theorem ZeU {d:Nat} {own:List Nat} {D:DD}:Yu (d::own) D d=some mkD:=by simp[Yu]
structure HR (E:Env) (w0:World) (G0:Gh) (D:DD) (w:World) (β:Bi) (G:Gh) (h:Nat->Option Zb):Prop where
 below:Below w0.heap.size w0 w
 g0:∀b,b<w0.heap.size->G b=G0 b
 agree:∀b o v,G b o=some v->w.cell? ⟨b,o,none⟩=some v
 obj:∀id o,h id=some o->Z1M E w0.heap.size w β G id o
 own:∀id o b,h id=some o->Yf β id o b->w0.heap.size<=b/\b<w.heap.size/\D b=none
 inj:∀id id' o o' b,h id=some o->h id'=some o'->Yf β id o b->Yf β id' o' b->id=id'
 marks:∀d x,D d=some x->w0.heap.size<=d/\w.heap[d]? = some x.1/\∀o,G d o=x.2 o
 inv0:E.inv w0
structure ZE (β:Bi) (h:Nat->Option Zb) (id:Nat):Prop where
 blk:β.blk id=none
 hdr:∀u,β.hdr id u=none
 h:h id=none
def Zy (h:Nat->Option Zb) (u:List (Nat×Option Zb)) (id:Nat):Option Zb :=
 match Zq id u with
 | some x=>x
 | none=>h id
theorem glt {E:Env} {w0:World} {G0:Gh} {D:DD} {w:World} {β:Bi} {G:Gh} {h:Nat->Option Zb} (hh:HR E w0 G0 D w β G h) {b:Nat} (c:w.heap.size<=b) (o:Nat):G b o=none:=by
 cases hg:G b o with
 | none=>rfl
 | some v =>
  have:=hh.agree b o v hg;have a:=block_lt_of_cell this;simp at a;omega
theorem HR.inv {E:Env} {w0:World} {G0:Gh} {D:DD} {w:World} {β:Bi} {G:Gh} {h:Nat->Option Zb} (hh:HR E w0 G0 D w β G h):E.inv w:=E.stays w0 w hh.inv0 hh.below
theorem HR.dfree {E:Env} {w0:World} {G0:Gh} {D:DD} {w:World} {β:Bi} {G:Gh} {h:Nat->Option Zb} (hh:HR E w0 G0 D w β G h) {b:Nat} (a:w.heap.size<=b):D b=none:=by
 cases hd:D b with
 | none=>rfl
 | some x =>
  have:=(ja.1 (hh.marks _ x hd).2.1).1;omega
theorem Z97 {w:World} {β:Bi} {G:Gh} (c:∀b o v,G b o=some v->w.cell? ⟨b,o,none⟩=some v) {b:Nat} :
  ∀(ds:List DV) (o:Nat),Pub β G b o ds->∃vs,Ze β G ds vs/\∀j v,vs[j]? = some v->w.cell? ⟨b,o+j,none⟩=some v
 | [],_,_=>⟨[],Zg.2 rfl,by simp⟩
 | d::ds,o,h=>by
  unfold Pub at h;obtain⟨⟨u,g,e⟩,k⟩:=h;obtain⟨vs,f,i⟩:=Z97 c ds (o+1) k;refine⟨u::vs,Za.2 ⟨u,vs,rfl,e,f⟩,fun j v a=>?_⟩;cases j with
  | zero=>simp at a;subst a;exact c _ _ _ g
  | succ j =>
   have:=i j v (by simpa using a)
   rwa [show o+1+j=o+(j+1) by omega]at this
theorem Yc (b o j:Nat):(⟨b,o,none⟩:Addr).add j=⟨b,o+j,none⟩:=by
 unfold Addr.add;split<;>simp_all
section tyfacts
variable {P:Program} {t:TypeId} {ti:TI} (ht:ZL P t ti)
include ht
theorem ZL.size:(P.info? t).map (·.size)=some ti.size:=by
 obtain⟨i,z,a,b,_⟩:=ht.info;simp[a,b]
theorem ZL.run_sizeOf (w:World):(sizeOf t).run P w=.ok ti.size w:=by
 obtain⟨i,z,a,b,_⟩:=ht.info;simp[sizeOf,typeInfo,a,b]
theorem ZL.run_zero (w:World):∃z,(zeroValue t).run P w=.ok z w/\z.cells.size=ti.size/\∀β G,Ze β G ti.zero z.cells.toList:=by
 obtain⟨i,z,c,e,_,b,d,a⟩:=ht.info;exact⟨z,by simp[zeroValue,typeInfo,c,b],d,a⟩
theorem ZL.ko:ti.k≠.other:=fun h=>by have:=ht.desc;rw[h]at this;exact this
theorem ZL.run_isAgg (e:ti.k≠.other) (w:World):(isAgg t).run P w=.ok ti.isAgg w:=by
 have d:=ht.desc;unfold isAgg TI.isAgg;cases hkk:ti.k<;>rw[hkk]at d<;>simp only at d
 all_goals first
  | (exact absurd hkk e)
  | (rw[jz,ji d w];rfl)
  | (obtain⟨f,d,_⟩:=d;rw[jz,ji d w];rfl)
  | (obtain⟨a,b,c,d⟩:=d;rw[jz,ji d w];rfl)
  | (obtain⟨a,d⟩:=d;rw[jz,ji d w];rfl)
end tyfacts
theorem Zm {β:Bi} {G:Gh} {ρ:Nat->Option DV} {a:Act} (b:FrM β G ρ a.tmps) {x:Operand} {d:DV} (h:ZU ρ x=some d):Rep β G d (a.eval x):=by
 cases x with
 | tmp t =>
  obtain⟨v,hv,hr⟩:=b t d h;simpa[Act.eval,hv]using hr
 | const v =>
  simp only[ZU]at h;simp only[Act.eval];unfold ZfN at h;split at h<;>first|(cases h;unfold Rep;rfl)|cases h
 | func f=>simp only[ZU,jh]at h;subst h;unfold Rep;exact⟨[],[],rfl,Zg.2 rfl,Zg.2 rfl⟩
 | global g=>cases h
theorem Z1C {β:Bi} {G:Gh} {ρ:Nat->Option DV} {a:Act} (b:FrM β G ρ a.tmps):∀{xs:List Operand} {ds:List DV},Z1n ρ xs=some ds->Ze β G ds (xs.map a.eval)
 | [],ds,h=>by simp[Z1n]at h;subst h;exact Zg.2 rfl
 | x::xs,ds,h=>by
  simp only[Z1n,Option.bind_eq_some_iff]at h;obtain⟨d,e,ds',c,f⟩:=h;cases f;exact Za.2 ⟨_,_,rfl,Zm b e,Z1C b c⟩
theorem FrM.mono {β β':Bi} {G G':Gh} (c:Ext β G β' G') {ρ:Nat->Option DV} {tm:Array Value} (h:FrM β G ρ tm):FrM β' G' ρ tm:=fun t d ht=>by
 obtain⟨v,b,a⟩:=h t d ht;exact⟨v,b,Rep.mono c d v a⟩
end Go.Ab
namespace Go.Ab
open Go.RowKit
theorem Z1e {β β':Bi} {id:Nat} (a:β'.blk id=β.blk id) (hh:∀u,β'.hdr id u=β.hdr id u) (o:Zb) (b:Nat):Yf β' id o b↔Yf β id o b:=by
 cases o<;>simp only[Yf,a,hh]
theorem Z3T {w w':World} {base:Nat} {e:TypeId} {size:Nat} {v:Value} {n:Nat} {xs:List Value} (h:w.ownsRow base e size v n xs)
  (b:∀g,v.ownBlock=some g->w'.heap[g]? = w.heap[g]?):w'.ownsRow base e size v n xs:=by
 obtain⟨d,a⟩:=h;refine⟨d,?_⟩;rcases a with a|⟨g,cap,cur,hv,c,hh,r⟩
 ·exact Or.inl a
 ·exact Or.inr ⟨g,cap,cur,hv,c,by rw[b g (by rw[hv];rfl)];exact hh,r⟩
theorem Z3I {w:World} {base:Nat} {e:TypeId} {size:Nat} {v:Value} {n:Nat} {xs:List Value} (h:w.ownsRow base e size v n xs) {g:Nat} (a:v.ownBlock=some g) :
  ∃c,v=.slice (some ⟨g,0,none⟩) n c:=by
 rcases h.2 with⟨rfl,_⟩|⟨g',cap,cur,rfl,_⟩
 ·cases a
 ·simp[Value.ownBlock]at a;subst a;exact⟨cap,rfl⟩
theorem ZaV {β β':Bi} {G G':Gh} (a:Ext β G β' G'):∀{es:List (DV×DV)} {ms:List MapEntry},Z64 β G es ms->Z64 β' G' es ms
 | [],_,h=>h
 | _::_,_,⟨m,ms',h1,h2,h3,h4,h5,h6⟩=>⟨m,ms',h1,Rep.mono a _ _ h2,Rep.mono a _ _ h3,h4,h5,ZaV a h6⟩
theorem Z1M.keep {E:Env} {base:Nat} {w w':World} {β β':Bi} {G G':Gh} {id:Nat} {o:Zb} (e:Ext β G β' G') (q:∀u,β'.hdr id u=β.hdr id u)
  (k:∀b,Yf β id o b->w'.heap[b]? = w.heap[b]? /\ ∀off,G' b off=G b off) (h:Z1M E base w β G id o):Z1M E base w' β' G' id o:=by
 cases o with
 | cells t cs =>
  obtain⟨b,vs,a,d,f,l,v⟩:=h;obtain⟨k1,k2⟩:=k b a;exact⟨b,vs,e.blk _ _ a,k1.trans d,Ze.mono e _ _ f,l,fun o=>(k2 o).trans (v o)⟩
 | row t es p u =>
  obtain⟨hdr,vals,a,d,f,l,v,h6,x⟩:=h;have i:∀g,hdr.ownBlock=some g->Yf β id (.row t es p u) g:=fun g r=>by
   obtain⟨c,hc⟩:=Z3I d r;exact⟨es.length,c,by rw[a,hc]⟩
  refine⟨hdr,vals,e.hdr _ _ _ a,Z3T d (fun g r=>(k g (i g r)).1),Ze.mono e _ _ f,l,v,fun b j o y=>?_,fun u' z=>(q u').trans (x u' z)⟩;exact((k b (i b j)).2 o).trans (h6 b j o y)
 | bag t es u =>
  obtain⟨fs,hp,hdr,vals,a,d,f,l,v,h6,x⟩:=h;have i:∀g,hdr.ownBlock=some g->Yf β id (.bag t es u) g:=fun g r=>by
   obtain⟨c,hc⟩:=Z3I d r;exact⟨fs.length,c,by rw[a,hc]⟩
  refine⟨fs,hp,hdr,vals,e.hdr _ _ _ a,Z3T d (fun g r=>(k g (i g r)).1),Ze.mono e _ _ f,l,v,fun b j o y=>?_,fun u' z=>(q u').trans (x u' z)⟩;exact((k b (i b j)).2 o).trans (h6 b j o y)
 | mit m n se =>
  obtain⟨b,bm,c0,a,d,f⟩:=h;exact⟨b,bm,c0,e.blk _ _ a,e.blk _ _ d,((k b a).1).trans f.1,f.2⟩
 | map es =>
  obtain⟨b,ms,clock,a,d,f,l⟩:=h;obtain⟨k1,_⟩:=k b a;exact⟨b,ms,clock,e.blk _ _ a,k1.trans d,ZaV e f,l⟩
 | siter s pos =>
  obtain⟨b,a,d⟩:=h;exact⟨b,e.blk _ _ a,((k b a).1).trans d⟩
 | loop fid bs ps assign body bid ex =>
  obtain⟨b,tmps,df,fn,F,a,d,f,l⟩:=h;exact⟨b,tmps,df,fn,F,e.blk _ _ a,((k b a).1).trans d,FrM.mono e f,l⟩
theorem Zz (h:Nat->Option Zb) (id:Nat) (x:Option Zb) (i:Nat):Zy h [(id,x)] i=if i=id then x else h i:=by
 unfold Zy
 by_cases e:i=id
 ·subst e;simp[Zq]
 ·have:Nat.beq id i=false:=by
   cases hq:Nat.beq id i with
   | false=>rfl
   | true=>exact absurd (je hq).symm e
  simp[Zq,this,e]
theorem HR.move {E:Env} {w0:World} {G0:Gh} {D:DD} {w w':World} {β β':Bi} {G G':Gh} {h:Nat->Option Zb} (hh:HR E w0 G0 D w β G h)
  (T:Nat->Prop) (id:Nat) (o':Zb) (hx:Ext β G β' G') (hbe:Below w0.heap.size w0 w')
  (hw:∀b,¬T b->b<w.heap.size->w'.heap[b]? = w.heap[b]?) (hG:∀b,¬T b->G' b=G b) (hsz:w.heap.size<=w'.heap.size)
  (hT:∀b,T b->w0.heap.size<=b/\D b=none) (hTo:∀b id' o,T b->h id'=some o->Yf β id' o b->id'=id)
  (hag:∀b,T b->∀o v,G' b o=some v->w'.cell? ⟨b,o,none⟩=some v)
  (hob:Z1M E w0.heap.size w' β' G' id o') (r:∀b,Yf β' id o' b->T b\/∃o,h id=some o/\Yf β id o b) (l:∀b,Yf β' id o' b->b<w'.heap.size)
  (hβ:∀i,i≠id->β'.blk i=β.blk i/\∀u,β'.hdr i u=β.hdr i u):HR E w0 G0 D w' β' G' (Zy h [(id,some o')]):=by
 have s:∀i o b,i≠id->h i=some o->Yf β i o b->¬T b:=fun i o b hi y f ht=>hi (hTo b i o ht y f);have k:∀i o,Zy h [(id,some o')] i=some o->(i=id/\o=o')\/(i≠id/\h i=some o):=fun i o hi=>by
  rw[Zz]at hi
  by_cases e:i=id
  ·rw[if_pos e]at hi;cases hi;exact .inl ⟨e,rfl⟩
  ·rw[if_neg e]at hi;exact .inr ⟨e,hi⟩
 have n:∀b,Yf β' id o' b->w0.heap.size<=b/\D b=none:=fun b f=>by
  rcases r b f with ht|⟨o,y,q⟩
  ·exact hT b ht
  ·obtain⟨k1,_,k3⟩:=hh.own id o b y q;exact⟨k1,k3⟩
 have t:∀i o b,i≠id->h i=some o->Yf β i o b->Yf β' id o' b->False:=fun i o b hi y f q=>by
  rcases r b q with ht|⟨o2,ho2,hb2⟩
  ·exact s i o b hi y f ht
  ·exact hi (hh.inj i id o o2 b y ho2 f hb2)
 constructor
 ·exact hbe
 ·intro b f;rw[<-hh.g0 b f];refine hG b fun ht=>?_;have:=(hT b ht).1;omega
 ·intro b o v hg
  by_cases ht:T b
  ·exact hag b ht o v hg
  ·rw[hG b ht]at hg;have hc:=hh.agree b o v hg;have l:=block_lt_of_cell hc;exact(World.cell?_of_block (w:=w) (w':=w') (a:=⟨b,o,none⟩) (hw b ht l)).trans hc
 ·intro i o hi;rcases k i o hi with⟨rfl,rfl⟩|⟨c,hi⟩
  ·exact hob
  ·refine Z1M.keep hx (hβ i c).2 (fun b f=>?_) (hh.obj i o hi);have m:=s i o b c hi f;exact⟨hw b m (hh.own i o b hi f).2.1,fun off=>by rw[hG b m]⟩
 ·intro i o b hi f;rcases k i o hi with⟨rfl,rfl⟩|⟨c,hi⟩
  ·exact⟨(n b f).1,l b f,(n b f).2⟩
  ·have q:=(Z1e (hβ i c).1 (hβ i c).2 o b).1 f;obtain⟨k1,k2,k3⟩:=hh.own i o b hi q;exact⟨k1,by omega,k3⟩
 ·intro i j o p b hi hj f hc;rcases k i o hi with⟨e1,e2⟩|⟨c,z⟩<;>rcases k j p hj with⟨e3,e4⟩|⟨g,a0⟩
  ·exact e1.trans e3.symm
  ·subst e1 e2;exact(t j p b g a0 ((Z1e (hβ j g).1 (hβ j g).2 p b).1 hc) f).elim
  ·subst e3 e4;exact(t i o b c z ((Z1e (hβ i c).1 (hβ i c).2 o b).1 f) hc).elim
  ·exact hh.inj i j o p b z a0 ((Z1e (hβ i c).1 (hβ i c).2 o b).1 f) ((Z1e (hβ j g).1 (hβ j g).2 p b).1 hc)
 ·intro d x hd;obtain⟨k1,k2,k3⟩:=hh.marks d x hd;have l:d<w.heap.size:=(ja.1 k2).1;have m:¬T d:=fun ht=>by rw[(hT d ht).2]at hd;cases hd
  exact⟨k1,(hw d m l).trans k2,fun o=>by rw[hG d m];exact k3 o⟩
 ·exact hh.inv0
theorem HR.less {E:Env} {w0:World} {G0:Gh} {D:DD} {w:World} {β:Bi} {G:Gh} {h h':Nat->Option Zb} (hh:HR E w0 G0 D w β G h) (a:∀i o,h' i=some o->h i=some o) :
  HR E w0 G0 D w β G h' :=
 ⟨hh.below,hh.g0,hh.agree,fun i o hi=>hh.obj i o (a i o hi),fun i o b hi=>hh.own i o b (a i o hi),fun i j o p b hi c=>hh.inj i j o p b (a i o hi) (a j p c),hh.marks,hh.inv0⟩
theorem HR.eq {E:Env} {w0:World} {G0:Gh} {D:DD} {w:World} {β:Bi} {G:Gh} {h h':Nat->Option Zb} (hh:HR E w0 G0 D w β G h) (a:∀i,h' i=h i):HR E w0 G0 D w β G h' :=
 hh.less fun i o hi=>by rw[<-a i];exact hi
theorem HR.drew {E:Env} {w0:World} {G0:Gh} {D:DD} {w:World} {β:Bi} {G:Gh} {h:Nat->Option Zb} (hh:HR E w0 G0 D w β G h) (n:Nat) :
  HR E w0 G0 D { w with drawn:=n } β G h :=
 ⟨⟨hh.below.os,hh.below.tape,hh.below.output,hh.below.size,hh.below.block⟩,hh.g0,hh.agree,fun i o hi=>by
  have:=hh.obj i o hi;cases o<;>exact this,hh.own,hh.inj,hh.marks,hh.inv0⟩
def YN (β β':Bi) (h h':Nat->Option Zb) (id:Nat):Prop:=h id=none->h' id=none/\β'.blk id=β.blk id/\∀u,β'.hdr id u=β.hdr id u
theorem YN.refl (β:Bi) (h:Nat->Option Zb) (id:Nat):YN β β h h id:=fun h=>⟨h,rfl,fun _=>rfl⟩
theorem YN.trans {β β' β'':Bi} {h h' d:Nat->Option Zb} {id:Nat} (x:YN β β' h h' id) (y:YN β' β'' h' d id):YN β β'' h d id:=fun e=>by
 obtain⟨a,b,c⟩:=x e;obtain⟨a',b',c'⟩:=y a;exact⟨a',b'.trans b,fun u=>(c' u).trans (c u)⟩
theorem YN.fresh {β β':Bi} {h h':Nat->Option Zb} {id:Nat} (x:YN β β' h h' id) (d:ZE β h id):ZE β' h' id:=by
 obtain⟨a,b,c⟩:=x d.h;exact⟨b.trans d.blk,fun u=>(c u).trans (d.hdr u),a⟩
def Z2l (β β':Bi) (h h':Nat->Option Zb) (nid:Nat):Prop:=∀id,id≠nid->YN β β' h h' id
theorem Z2l.refl (β:Bi) (h:Nat->Option Zb) (nid:Nat):Z2l β β h h nid:=fun id _=>YN.refl β h id
def Zk1:Zb->Bool
 | .row _ _ _ _=>false
 | .bag _ _ _=>false
 | _=>true
theorem HR.lay {E:Env} {w0:World} {G0:Gh} {D:DD} {w:World} {β:Bi} {G:Gh} {h:Nat->Option Zb} (hh:HR E w0 G0 D w β G h) {nid:Nat} (l:ZE β h nid) (ob:Obj) (o':Zb)
  (d:Zk1 o'=true)
  (j:∀β',Ext β G β' G->β'.blk nid=some w.heap.size->Z1M E w0.heap.size (w.alloc ob) β' G nid o') :
  ∃β',Ext β G β' G/\β'.blk nid=some w.heap.size/\HR E w0 G0 D (w.alloc ob) β' G (Zy h [(nid,some o')])/\Z2l β β' h (Zy h [(nid,some o')]) nid:=by
 refine⟨{ β with blk:=fun i=>if i=nid then some w.heap.size else β.blk i },?_,?_,?_,?_⟩
 ·exact⟨fun _ _ _ h=>h,fun i b a=>by
   by_cases e:i=nid
   ·subst e;rw[l.blk]at a;cases a
   ·simp[e,a],fun _ _ _ h=>h⟩
 ·simp
 ·have m:Ext β G { β with blk:=fun i=>if i=nid then some w.heap.size else β.blk i } G:=⟨fun _ _ _ h=>h,fun i b a=>by
   by_cases e:i=nid
   ·subst e;rw[l.blk]at a;cases a
   ·simp[e,a],fun _ _ _ h=>h⟩
  have c:∀b,Yf { β with blk:=fun i=>if i=nid then some w.heap.size else β.blk i } nid o' b->b=w.heap.size:=fun b a=>by
   cases o' with
   | row t es p u=>cases d
   | bag t es u=>cases d
   | _=>simp[Yf]at a;exact a.symm
  refine hh.move (fun b=>b=w.heap.size) nid o' m (hh.below.alloc hh.below.size ob) (fun b _ g=>Below.heap_alloc w ob b g) (fun _ _=>rfl) (by simp) ?_ ?_ ?_ (j _ m (by simp)) (fun b a=>.inl (c b a)) ?_ ?_
  ·rintro b rfl;refine⟨hh.below.size,?_⟩;cases n:D w.heap.size with
   | none=>rfl
   | some x =>
    have:=(ja.1 (hh.marks _ x n).2.1).1;omega
  ·rintro b id' o rfl q a;have:=(hh.own id' o _ q a).2.1;omega
  ·rintro b rfl o v k;rw[glt hh (Nat.le_refl _)]at k;cases k
  ·intro b a;rw[c b a];simp
  ·intro i hi;exact⟨by simp[hi],fun _=>rfl⟩
 ·intro id f r;exact⟨by rw[Zz,if_neg f];exact r,by simp[f],fun _=>rfl⟩
end Go.Ab
namespace Go.Ab
open Go.RowKit
def Y0 (P:Program) (E:Env) (w0:World) (G0:Gh) (D:DD) (o:Oper) (a:Act) (w:World) (β:Bi) (G:Gh) (h:Nat->Option Zb) (nid:Nat) (r:Out):Prop :=
 ∃nx v w' β' G',(execOp a.eval o).run P w=.ok nx w'/\(nx=.value v\/nx=.skip/\v=undef)/\(∀d,r.val=some d->Rep β' G' d v) ∧
  Ext β G β' G'/\HR E w0 G0 D w' β' G' (Zy h r.upd)/\Z2l β β' h (Zy h r.upd) nid
section
variable {P:Program} {E:Env} {w0:World} {G0:Gh} {D:DD} {o:Oper} {a:Act} {w:World} {β:Bi} {G:Gh} {h:Nat->Option Zb} {nid:Nat}
theorem Ze8 (h:Nat->Option Zb):Zy h []=h:=rfl
theorem Y0.pure (hh:HR E w0 G0 D w β G h) {d:DV} {v:Value} (hr:(execOp a.eval o).run P w=.ok (.value v) w) (hv:Rep β G d v):Y0 P E w0 G0 D o a w β G h nid ⟨some d,[]⟩ :=
 ⟨.value v,v,w,β,G,hr,.inl rfl,fun d' b=>by cases b;exact hv,Ext.refl β G,by rw[Ze8];exact hh,Z2l.refl β h nid⟩
theorem Z1p {d:DV} {r:Out} (h:ret d=some r):r=⟨some d,[]⟩:=by cases h;rfl
theorem Z0 {α γ:Type} {x:Option α} {f:α->Option γ} {r:γ} (h:x.bind f=some r):∃y,x=some y/\f y=some r:=Option.bind_eq_some_iff.1 h
theorem Z3 {α:Type} {c:Bool} {x:Option α} {r:α} (h:(bif c then x else none)=some r):c=true/\x=some r:=by
 cases c
 ·cases h
 ·exact⟨rfl,h⟩
theorem Zu {k:IntKind} {n:Int} {v:Value}:Rep β G (.int k n) v↔v=.int k n:=by conv=>lhs;unfold Rep
theorem ZH {b:Bool} {v:Value}:Rep β G (.bool b) v↔v=.bool b:=by conv=>lhs;unfold Rep
theorem Yg {s:ByteArray} {v:Value}:Rep β G (.str s) v↔v=.string s:=by conv=>lhs;unfold Rep
theorem YK {cs:List DV} {v:Value}:Rep β G (.agg cs) v↔∃vs,v=.agg vs.toArray/\Ze β G cs vs:=by conv=>lhs;unfold Rep
theorem Ys {cs:List DV} {v:Value}:Rep β G (.tup cs) v↔∃vs,v=.tuple vs.toArray/\Ze β G cs vs:=by conv=>lhs;unfold Rep
theorem Z1f {i n:Nat} {v:Value}:Rep β G (.ptr i n) v↔∃b,β.blk i=some b/\v=.pointer (some ⟨b,n,none⟩):=by conv=>lhs;unfold Rep
theorem Z3A {cs:List DV} {v:Value}:Rep β G (.pub cs) v↔Zc cs=true/\∃b o,v=.pointer (some ⟨b,o,none⟩)/\Pub β G b o cs:=by conv=>lhs;unfold Rep
theorem Z1T {i w j e n:Nat} {v:Value}:Rep β G (.rptr i w j e n) v↔∃b m c,β.hdr i w=some (.slice (some ⟨b,0,none⟩) m c)/\v=.pointer (some ⟨b,j*e+n,none⟩):=by conv=>lhs;unfold Rep
theorem Zcg {i w k n e:Nat} {v:Value}:Rep β G (.rv i w k n e) v↔∃a m c a' c',β.hdr i w=some (.slice a m c)/\v=.slice a' n c'/\n<=c'/\k+n<=m/\(n=0\/∃b,a=some ⟨b,0,none⟩/\a'=some ⟨b,k*e,none⟩):=by conv=>lhs;unfold Rep
theorem ZdH {n:Nat} {v:Value}:Rep β G (.slen n) v↔∃a c,v=.slice a n c/\n<=c:=by conv=>lhs;unfold Rep
theorem Z1i {i w:Nat} {v:Value}:Rep β G (.rs i w) v↔β.hdr i w=some v/\∃a n c,v=.slice a n c:=by conv=>lhs;unfold Rep
theorem Z3i {es:List (List DV)} {v:Value}:Rep β G (.sl es) v↔∃a c,(v=.slice a es.length c/\es.length<=c)/\(es=[]\/∃b o e,a=some ⟨b,o,none⟩/\Ym β G b e o es):=by conv=>lhs;unfold Rep
theorem Z1o {v:Value}:Rep β G .nils v↔v=.slice none 0 0:=by conv=>lhs;unfold Rep
theorem Zcf {f:Fn} {x c:List DV} {v:Value}:Rep β G (.fn f x c) v↔∃as cs,v=.func f as.toArray cs.toArray/\Ze β G x as/\Ze β G c cs:=by conv=>lhs;unfold Rep
theorem Z7a {i:Nat} {v:Value}:Rep β G (.map i) v↔∃b,β.blk i=some b/\v=.map (some b):=by conv=>lhs;unfold Rep
theorem Z79 {i:Nat} {v:Value}:Rep β G (.iter i) v↔∃b,β.blk i=some b/\v=.pointer (some ⟨b,0,none⟩):=by conv=>lhs;unfold Rep
theorem ZfY {i:Nat} {v:Value}:Rep β G (.yld i) v↔∃b,β.blk i=some b/\v=.func (.yield b) #[] #[]:=by conv=>lhs;unfold Rep
theorem Z6t {v:Value}:Rep β G .nilmap v↔v=.map none:=by conv=>lhs;unfold Rep
theorem Z7b {v:Value}:Rep β G .nilp v↔v=.pointer none:=by conv=>lhs;unfold Rep
theorem Zep {op:BinOp} {x y:Int} {d:DV} (a:Ziu op x y=some d):∃v,(Op.intCmp op x y).run P w=.ok v w/\Rep β G d v:=by
 unfold Ziu at a;split at a<;>cases a<;>exact⟨_,rfl,ZH.2 rfl⟩
theorem ZcJ {op:BinOp} {k:IntKind} {x y:Int} {d:DV} (a:Zfr op k x y=some d):∃v,(Op.intBits op k x y).run P w=.ok v w/\Rep β G d v:=by
 unfold Zfr at a;simp only at a;split at a<;>cases a<;>exact⟨_,rfl,Zu.2 rfl⟩
theorem Zct {op:BinOp} {k k':IntKind} {x y:Int} {d:DV} (a:Zcs op k x y=some d):∃v,(Op.shift op k x k' y).run P w=.ok v w/\Rep β G d v:=by
 unfold Zcs at a;cases hy:decide (y<0)with
 | true=>rw[hy]at a;cases a
 | false =>
  rw[hy]at a;have b:¬y<0:=by simpa using hy
  simp only[jA]at a;split at a
  ·cases a;exact⟨_,by simp only[Op.shift,if_neg b];rfl,Zu.2 rfl⟩
  ·cases a;exact⟨_,by simp only[Op.shift,if_neg b];rfl,Zu.2 rfl⟩
  ·cases a
theorem Zez {op:BinOp} {k:IntKind} {x y:Int} {t:TypeId} {d:DV} (f:Z5A op=false) (a:ZiJ op k x y=some d) :
  ∃v,(binOp op t (.int k x) (.int k y)).run P w=.ok v w/\Rep β G d v:=by
 cases op<;>simp only[Z5A,Bool.true_eq_false]at f<;>simp only[ZiJ]at a
 case add=>cases a;exact⟨_,by simp[binOp,Op.intArith],Zu.2 rfl⟩
 case sub=>cases a;exact⟨_,by simp[binOp,Op.intArith],Zu.2 rfl⟩
 case mul=>cases a;exact⟨_,by simp[binOp,Op.intArith],Zu.2 rfl⟩
 case quo =>
  cases hy:y==0 with
  | true=>rw[hy]at a;cases a
  | false =>
   rw[hy]at a;have e:¬y=0:=by simpa using hy
   cases a;exact⟨_,by simp only[binOp,Op.intDiv,if_neg e];simp,Zu.2 rfl⟩
 case rem =>
  cases hy:y==0 with
  | true=>rw[hy]at a;cases a
  | false =>
   rw[hy]at a;have e:¬y=0:=by simpa using hy
   cases a;exact⟨_,by simp only[binOp,Op.intDiv,if_neg e];simp,Zu.2 rfl⟩
 all_goals first
  | (obtain⟨v,c,b⟩:=ZcJ (P:=P) (w:=w) (β:=β) (G:=G) a;exact⟨v,by simpa[binOp]using c,b⟩)
  | (obtain⟨v,c,b⟩:=Zep (P:=P) (w:=w) (β:=β) (G:=G) a;exact⟨v,by simpa[binOp]using c,b⟩)
theorem Zfd {op:BinOp} {x y:ByteArray} {t:TypeId} {d:DV} (a:Zj8 op x y=some d):∃v,(binOp op t (.string x) (.string y)).run P w=.ok v w/\Rep β G d v:=by
 cases op<;>simp only[Zj8,reduceCtorEq]at a
 case add =>
  obtain⟨e,b⟩:=Z3 a;cases b;have c:x.size+y.size<=1099511627776:=jf e;refine⟨_,?_,Yg.2 rfl⟩;have f:¬(((x.size+y.size:Nat):Int)>IntKind.i64.max):=by
   have:IntKind.i64.max=9223372036854775807:=by decide
   omega
  simp only[binOp,Op.stringOp,if_neg f];rfl
 all_goals (cases a;exact⟨_,by simp only[binOp,Op.stringOp];rfl,ZH.2 rfl⟩)
theorem Z2n {op:BinOp} {t:TypeId} {x y:Operand} {u v:Value} (a:u≠.nilIface) (b:∀cs,u≠.agg cs):(eqGuard op t x y u v).run P w=.ok () w:=by
 unfold eqGuard;cases u<;>first|exact absurd rfl a|exact absurd rfl (b _)|(cases op<;>rfl)
theorem ZcU {op:BinOp} {t:TypeId} {x y:Operand} {u v:Array Value} (a:P.eqGuardType P.depth t=false):(eqGuard op t x y (.agg u) (.agg v)).run P w=.ok () w:=by
 unfold eqGuard;cases op<;>first|rfl|(simp[a,jz])
theorem Z80 {t:TypeId} (a:P.underlying t=some .bool) (d:Nat) (x y:Bool):(Op.equalIn (d+1) t (.bool x) (.bool y)).run P w=.ok (x==y) w:=by
 simp[Op.equalIn,ji a]
theorem Z82 {t e:TypeId} (a:P.underlying t=some (.slice e)) (d:Nat) (A:Addr) (n c:Nat):(Op.equalIn (d+1) t (.slice (some A) n c) (.slice none 0 0)).run P w=.ok false w:=by
 simp[Op.equalIn,ji a]
theorem Z5n {t e:TypeId} (a:P.underlying t=some (.slice e)) (A:Addr) (n c:Nat):(Op.equal t (.slice (some A) n c) (.slice none 0 0)).run P w=.ok false w :=
 Z82 a 9999 A n c
theorem Z81 {t:TypeId} {ms:_} (c:P.underlying t=some (.interface ms)) (d:Nat) (a:TypeId) (b:Value):(Op.equalIn (d+1) t (.iface a b) .nilIface).run P w=.ok false w:=by
 simp[Op.equalIn,ji c]
theorem Z5m {t:TypeId} {ms:_} (c:P.underlying t=some (.interface ms)) (a:TypeId) (b:Value):(Op.equal t (.iface a b) .nilIface).run P w=.ok false w:=Z81 c 9999 a b
theorem Za3 {t:TypeId} {ms:_} (a:P.underlying t=some (.interface ms)) (d:Nat):(Op.equalIn (d+1) t .nilIface .nilIface).run P w=.ok true w:=by
 simp[Op.equalIn,ji a]
theorem Z4y {t:TypeId} {ms:_} (a:P.underlying t=some (.interface ms)):(Op.equal t .nilIface .nilIface).run P w=.ok true w:=Za3 a 9999
theorem ZeH (hE:∀t ti,E.ty t=some ti->ZL P t ti) {op:BinOp} {t:TypeId} {x y:Operand} (hc:(Zdf x||Zdf y)=true) {d:DV} (b:Zjw E op t=some d) :
  ∃r,(do eqGuard op t x y .nilIface .nilIface;binOp op t .nilIface .nilIface:Sem Value).run P w=.ok r w/\Rep β G d r:=by
 unfold Zjw at b;obtain⟨ti,ht,b⟩:=Z0 b;have a:=(hE t ti ht).desc;have e:(eqGuard op t x y .nilIface .nilIface).run P w=.ok () w:=by
  unfold eqGuard;cases op<;>first|rfl|(cases x<;>cases y<;>first|rfl|simp[Zdf]at hc)
 split at b
 ·rename_i c _;rw[c]at a;obtain⟨ms,a⟩:=a;cases b;exact⟨_,by rw[jz,e];simp[Result.andThen,binOp,Z4y a],ZH.2 rfl⟩
 ·rename_i c _;rw[c]at a;obtain⟨ms,a⟩:=a;cases b;exact⟨_,by rw[jz,e];simp[Result.andThen,binOp,Z4y a],ZH.2 rfl⟩
 ·cases b
theorem Z5l {t:TypeId} (a:P.underlying t=some .bool) (x y:Bool):(Op.equal t (.bool x) (.bool y)).run P w=.ok (x==y) w :=
 Z80 a 9999 x y
theorem Zem (hE:∀t ti,E.ty t=some ti->ZL P t ti) {op:BinOp} {t:TypeId} {x y:Operand} {dx dy d:DV} {u v:Value} (f:Zbw E op t dx dy=some d)
  (j:Rep β G dx u) (hy:Rep β G dy v):∃r,(do eqGuard op t x y u v;binOp op t u v:Sem Value).run P w=.ok r w/\Rep β G d r:=by
 unfold Zbw at f;split at f
 ·rename_i k n k' m;rw[Zu]at j hy;subst j hy;have l:(eqGuard op t x y (.int k n) (.int k' m)).run P w=.ok () w:=Z2n (by simp) (by simp)
  cases hs:Z5A op with
  | true =>
   rw[hs]at f;obtain⟨r,z,p⟩:=Zct (P:=P) (w:=w) (β:=β) (G:=G) (k':=k') f;refine⟨r,?_,p⟩;rw[jz,l];cases op<;>simp[Z5A]at hs<;>simpa[binOp,Result.andThen]using z
  | false =>
   rw[hs]at f;simp only[jA]at f;obtain⟨i,a4⟩:=Z3 f;clear f;have i:k=k':=by simpa using i
   subst i;obtain⟨r,z,p⟩:=Zez (P:=P) (w:=w) (β:=β) (G:=G) (t:=t) hs a4;refine⟨r,?_,p⟩;rw[jz,l];simpa[Result.andThen]using z
 ·rename_i s s';rw[Yg]at j hy;subst j hy;obtain⟨r,z,p⟩:=Zfd (P:=P) (w:=w) (β:=β) (G:=G) (t:=t) f;refine⟨r,?_,p⟩;rw[jz,Z2n (by simp) (by simp)]
  simpa[Result.andThen]using z
 ·rename_i b b';obtain⟨ti,ht,f⟩:=Z0 f;have g:=(hE t ti ht).desc;rw[ZH]at j hy;subst j hy;have l:(eqGuard op t x y (.bool b) (.bool b')).run P w=.ok () w:=Z2n (by simp) (by simp)
  split at f
  ·rename_i i _;rw[i]at g;cases f;exact⟨_,by rw[jz,l];simp[Result.andThen,binOp,Z5l g],ZH.2 rfl⟩
  ·rename_i i _;rw[i]at g;cases f;exact⟨_,by rw[jz,l];simp[Result.andThen,binOp,Z5l g],ZH.2 rfl⟩
  ·cases f
 ·rename_i cs cs';obtain⟨ti,ht,f⟩:=Z0 f;obtain⟨hc,f⟩:=Z3 f;simp only[jn]at hc;obtain⟨⟨a5,a3⟩,a1⟩:=hc;obtain⟨a0,l⟩:=(hE t ti ht).eqr a5;rw[YK]at j hy;obtain⟨vx,rfl,j⟩:=j;obtain⟨vy,rfl,hy⟩:=hy;have a2:(eqGuard op t x y (.agg vx.toArray) (.agg vy.toArray)).run P w=.ok () w:=ZcU l;split at f
  ·obtain⟨r,z,p⟩:=Z0 f;cases p;have:=a0 cs cs' r z a3 a1 β G vx vy w j hy;exact⟨_,by rw[jz,a2];simp[Result.andThen,binOp,this],ZH.2 rfl⟩
  ·obtain⟨r,z,p⟩:=Z0 f;cases p;have:=a0 cs cs' r z a3 a1 β G vx vy w j hy;exact⟨_,by rw[jz,a2];simp[Result.andThen,binOp,this],ZH.2 rfl⟩
  ·cases f
 ·rename_i c cs;obtain⟨ti,ht,f⟩:=Z0 f;have g:=(hE t ti ht).desc;unfold Rep at j;obtain⟨a,cp,⟨rfl,_⟩,h|⟨b,o,e,rfl,_⟩⟩:=j
  ·cases h
  rw[Z1o]at hy;subst hy;have l:(eqGuard op t x y (.slice (some ⟨b,o,none⟩) (c::cs).length cp) (.slice none 0 0)).run P w=.ok () w:=Z2n (by simp) (by simp)
  split at f
  ·rename_i i _;rw[i]at g;cases f;exact⟨_,by rw[jz,l];simp[Result.andThen,binOp,Z5n g],ZH.2 rfl⟩
  ·rename_i i _;rw[i]at g;cases f;exact⟨_,by rw[jz,l];simp[Result.andThen,binOp,Z5n g],ZH.2 rfl⟩
  ·cases f
 ·rename_i t' d';obtain⟨ti,ht,f⟩:=Z0 f;have g:=(hE t ti ht).desc;unfold Rep at j hy;obtain⟨q,rfl,_⟩:=j;subst hy;have l:(eqGuard op t x y (.iface t' q) .nilIface).run P w=.ok () w:=Z2n (by simp) (by simp)
  split at f
  ·rename_i i _;rw[i]at g;obtain⟨ms,g⟩:=g;cases f;exact⟨_,by rw[jz,l];simp[Result.andThen,binOp,Z5m g],ZH.2 rfl⟩
  ·rename_i i _;rw[i]at g;obtain⟨ms,g⟩:=g;cases f;exact⟨_,by rw[jz,l];simp[Result.andThen,binOp,Z5m g],ZH.2 rfl⟩
  ·cases f
 ·cases f
end
end Go.Ab
namespace Go.Ab
open Go.RowKit
section
variable {P:Program} {E:Env} {w0:World} {G0:Gh} {D:DD} {o:Oper} {a:Act} {w:World} {β:Bi} {G:Gh} {h:Nat->Option Zb} {nid:Nat} {ρ:Nat->Option DV}
theorem ZgV {op:UnOp} {dx d:DV} {u:Value} (a:unD op dx=some d) (b:Rep β G dx u):∃r,(Op.unary op u).run P w=.ok r w/\Rep β G d r:=by
 unfold unD at a;split at a
 ·rw[Zu]at b;subst b;split at a
  ·cases a;exact⟨_,by simp[Op.unary,Op.intArith],Zu.2 rfl⟩
  ·cases a
 ·rw[ZH]at b;subst b;split at a
  ·cases a;exact⟨_,by simp[Op.unary],ZH.2 rfl⟩
  ·cases a
 ·cases a
theorem ZeG {x y d:DV} {u v:Value} (a:Zdo x y=some d) (b:Rep β G x u) (hy:Rep β G y v):∃r,(Builtin.min2 u v).run P w=.ok r w/\Rep β G d r:=by
 unfold Zdo at a;split at a
 ·rw[Zu]at b hy;subst b hy;cases a;refine⟨_,rfl,Zu.2 ?_⟩;rename_i k x _ y
  by_cases hl:y<x<;>simp[hl]
 ·cases a
theorem ZeF {x y d:DV} {u v:Value} (a:Zdn x y=some d) (b:Rep β G x u) (hy:Rep β G y v):∃r,(Builtin.max2 u v).run P w=.ok r w/\Rep β G d r:=by
 unfold Zdn at a;split at a
 ·rw[Zu]at b hy;subst b hy;cases a;refine⟨_,rfl,Zu.2 ?_⟩;rename_i k x _ y
  by_cases hl:y>x<;>simp[hl]
 ·cases a
theorem Z50 {f:DV->DV->Option DV} {g:Value->Value->Sem Value}
  (b:∀{x y d:DV} {u v:Value},f x y=some d->Rep β G x u->Rep β G y v->∃r,(g u v).run P w=.ok r w/\Rep β G d r) :
  ∀{ds:List DV} {vs:List Value} {x d:DV} {u:Value},Z6O f x ds=some d->Rep β G x u->Ze β G ds vs->∃r,(vs.foldlM g u).run P w=.ok r w/\Rep β G d r
 | [],vs,x,d,u,hd,hx,a=>by
  rw[Zg]at a;subst a;simp only[Z6O,jh]at hd;subst hd;exact⟨u,rfl,hx⟩
 | y::ds,vs,x,d,u,hd,hx,a=>by
  obtain⟨v,vs',rfl,hy,a⟩:=Za.1 a;simp only[Z6O]at hd;obtain⟨z,j,c⟩:=Z0 hd;obtain⟨r,e,i⟩:=b j hx hy;obtain⟨r',k,h⟩:=Z50 b c i a;exact⟨r',by simp[List.foldlM_cons,jz,e,k],h⟩
theorem Z9O {t:TypeId} {ti:TI} (ht:ZL P t ti) (b:ti.k≠.other) {cs:List DV} {vs:List Value} {off:Nat} {d:DV} (hc:Ze β G cs vs) (a:YL ti cs off=some d) :
  ∃r,(part t vs.toArray off).run P w=.ok r w/\Rep β G d r:=by
 unfold YL at a;unfold part;rw[jz,ht.run_isAgg b];cases ha:ti.isAgg with
 | true =>
  rw[ha]at a;simp only[jB]at a;obtain⟨_,a⟩:=Z3 a;cases a;refine⟨.agg (((vs.drop off).take ti.size)).toArray,?_,YK.2 ⟨_,rfl,Yy _ (Yx _ hc)⟩⟩;simp[Result.andThen,ht.run_sizeOf]
 | false =>
  rw[ha]at a;simp only[jA]at a;obtain⟨v,e,c⟩:=Z3X hc a;exact⟨v,by simp[Result.andThen,e],c⟩
theorem Z3G {t:TypeId} {ti:TI} (ht:ZL P t ti) (m:ti.k≠.other) {cs:List DV} {vs:List Value} {b o:Nat} {n:Nat} {d:DV} (hc:Ze β G cs vs)
  (a:∀j v,vs[j]? = some v->w.cell? ⟨b,o+j,none⟩=some v) (c:YL ti cs n=some d):∃r,(loadVar t ⟨b,o+n,none⟩).run P w=.ok r w/\Rep β G d r:=by
 unfold YL at c;unfold loadVar;rw[jz,ht.run_isAgg m];cases ha:ti.isAgg with
 | true =>
  rw[ha]at c;simp only[jB]at c;obtain⟨f,c⟩:=Z3 c;cases c;have f:n+ti.size<=cs.length:=jf f;have q:=ZJ hc;have e:=run_loadCells_list (P:=P) w ⟨b,o+n,none⟩ ((vs.drop n).take ti.size) (fun j v h=>by
   rw[Yc];have i:vs[n+j]? = some v:=by
    rw[List.getElem?_take]at h;split at h
    ·simpa using h
    ·cases h
   rw[show o+n+j=o+(n+j) by omega]
   exact a _ _ i)
  have g:((vs.drop n).take ti.size).length=ti.size:=by simp;omega
  rw[g]at e;exact⟨_,by simp[Result.andThen,jz,ht.run_sizeOf,e],YK.2 ⟨_,rfl,Yy _ (Yx _ hc)⟩⟩
 | false =>
  rw[ha]at c;simp only[jA]at c;obtain⟨v,p,l⟩:=Z3X hc c;exact⟨v,by simp[Result.andThen,load,Sem.run,a _ _ p],l⟩
theorem ZcX:∀{es:List (List DV)} {i e:Nat} {c:List DV},(∀x∈es,x.length=e)->es[i]? = some c->(es.flatten.drop (i*e)).take e=c
 | [],i,e,c,_,h=>by simp at h
 | x::es,0,e,c,he,h=>by
  simp at h;subst h;have:=he x (by simp)
  simp[this]
 | x::es,i+1,e,c,he,h=>by
  have a:=he x (by simp)
  have:=ZcX (es:=es) (i:=i) (e:=e) (c:=c) (fun y hy=>he y (by simp[hy])) (by simpa using h)
  rw[<-this,List.flatten_cons,Nat.add_mul,Nat.one_mul];rw[show i*e+e=x.length+i*e by omega,List.drop_append,jd (as:=x) (by omega)]
  simp
theorem Z9G (hE:∀t ti,E.ty t=some ti->ZL P t ti) (hh:HR E w0 G0 D w β G h) {t:TypeId} {ti:TI} (ht:ZL P t ti) (hk:ti.k≠.other) {da d:DV} {u:Value} (hx:Rep β G da u) (a:Z3a ti h da=some d) :
  ∃r,(Instr.loadAt t u).run P w=.ok r w/\Rep β G d r:=by
 unfold Z3a at a;split at a
 ·rename_i id off;obtain⟨b,hb,rfl⟩:=Z1f.1 hx;obtain⟨ob,ho,a⟩:=Z0 a;split at a
  ·rename_i t' cs;obtain⟨b',vs,q,y,h3,z,h5⟩:=hh.obj id _ ho;rw[hb]at q;cases q;obtain⟨r,h6,h7⟩:=Z3G (w:=w) ht hk (b:=b) (o:=0) (n:=off) h3 (fun j v s=>by
    rw[Nat.zero_add,cell_of_row w b j vs t' (0,0) y];simpa using s) a
   rw[Nat.zero_add]at h6;exact⟨r,by simp[Instr.loadAt,Instr.sureAddr,h6],h7⟩
  ·cases a
 ·rename_i id v i e off;obtain⟨b,m,c,hb,rfl⟩:=Z1T.1 hx;obtain⟨ob,ho,a⟩:=Z0 a;split at a
  ·rename_i t' es p uu;obtain⟨cc,hc,a⟩:=Z0 a;obtain⟨hq,hd2⟩:=Z3 a;clear a;simp only[jn]at hq;have hu:uu=v:=je hq.1;have hce:cc.length=e:=je hq.2;subst hu;obtain⟨hdr,vals,q,y,h3,z,h5,h6,h7⟩:=hh.obj id _ ho;rw[hb]at q;cases q;have hee:e=Yn E t':=by rw[<-hce];exact(z cc (List.mem_of_getElem? hc)).1
   have f:=y.cells (g:=b) rfl;have l:=Yy e (Yx (i*e) h3);rw[ZcX (e:=e) (fun x hx=>by rw[hee];exact(z x hx).1) hc]at l
   obtain⟨r,h8,h9⟩:=Z3G (w:=w) ht hk (b:=b) (o:=i*e) (n:=off) l (fun j v s=>by
    have:=f (i*e+j) v (by
     rw[List.getElem?_take]at s;split at s
     ·simpa using s
     ·cases s)
    rwa [Yc,Nat.zero_add]at this) hd2
   exact⟨r,by simp[Instr.loadAt,Instr.sureAddr,h8],h9⟩
  ·cases a
 ·rename_i cs;obtain⟨_,b,off,rfl,hp⟩:=Z3A.1 hx;obtain⟨vs,q,y⟩:=Z97 hh.agree cs off hp;obtain⟨r,h3,z⟩:=Z3G (w:=w) ht hk (b:=b) (o:=off) (n:=0) q y a;exact⟨r,by simp[Instr.loadAt,Instr.sureAddr];exact h3,z⟩
 ·cases a
theorem Z73:∀{cs:List DV} {b o:Nat} (n:Nat),Pub β G b o cs->Pub β G b (o+n) (cs.drop n)
 | [],_,_,n,_=>by simp[Pub]
 | _::_,_,_,0,h=>h
 | c::cs,b,o,n+1,h=>by
  unfold Pub at h;have:=Z73 n h.2;rw[show o+(n+1)=o+1+n by omega]
  exact this
theorem Z6R:∀{cs:List DV} (n:Nat),Zc cs=true->Zc (cs.drop n)=true
 | [],n,_=>by simp[Zc]
 | _::_,0,h=>h
 | c::cs,n+1,h=>by
  have h':Zf c=true/\Zc cs=true:=by simpa[Zc]using h
  exact Z6R n h'.2
theorem Z5M {da d:DV} {u:Value} {n:Nat} (f:Rep β G da u) (a:Z1d da n=some d):∃b,u=.pointer (some b)/\Rep β G d (.pointer (some (b.add n))):=by
 unfold Z1d at a;split at a
 ·obtain⟨b,e,rfl⟩:=Z1f.1 f;cases a;exact⟨_,rfl,Z1f.2 ⟨b,e,by rw[Yc]⟩⟩
 ·obtain⟨b,m,c,e,rfl⟩:=Z1T.1 f;cases a;exact⟨_,rfl,Z1T.2 ⟨b,m,c,e,by rw[Yc,Nat.add_assoc]⟩⟩
 ·obtain⟨h,b,off,rfl,g⟩:=Z3A.1 f;cases a;exact⟨_,rfl,Z3A.2 ⟨Z6R n h,b,off+n,by rw[Yc],Z73 n g⟩⟩
 ·cases a
theorem Z7l {t:TypeId} {ti:TI} (ht:ZL P t ti) {fs:List (Nat×Nat)} (c:ti.k=.struct fs) {f ft off:Nat} (a:fs[f]? = some (ft,off)) :
  ∃fields fd,P.underlying t=some (.struct fields)/\fields[f]? = some fd/\fd.type=ft/\fd.offset=off:=by
 have b:=ht.desc;rw[c]at b;obtain⟨fields,e,d,_⟩:=b;rw[<-d,List.getElem?_map]at a;cases hq:fields.toList[f]? with
 | none=>rw[hq]at a;cases a
 | some fd =>
  rw[hq]at a;simp only[jq,jh,Prod.mk.injEq]at a;exact⟨fields,fd,e,by simpa using hq,a.1,a.2⟩
theorem Zau (hE:∀t ti,E.ty t=some ti->ZL P t ti) {t:TypeId} {ti:TI} (ht:ZL P t ti) {fs:List (Nat×Nat)} (m:ti.k=.struct fs) {f ft off:Nat} (g:fs[f]? = some (ft,off))
  {fi:TI} (c:E.ty ft=some fi) (p:0<fi.size) {da d:DV} {u:Value} (j:Rep β G da u) (e:Z1d da off=some d) :
  ∃r,(Instr.fieldAt t u f).run P w=.ok r w/\Rep β G d r:=by
 obtain⟨fields,fd,o,h,i,n⟩:=Z7l ht m g;obtain⟨b,rfl,hr⟩:=Z5M j e;have hz:=(hE ft fi c).run_sizeOf w;refine⟨_,?_,hr⟩;have a:(sizeOf fd.type).run P w=.ok fi.size w:=by rw[i];exact hz
 have l:fi.size≠0:=by omega
 simp[Instr.fieldAt,jz,ji o,h,Instr.sureAddr,fieldPlace,a,l,n]
end
end Go.Ab
namespace Go.Ab
open Go.RowKit
section
variable {P:Program} {E:Env} {w0:World} {G0:Gh} {D:DD} {o:Oper} {a:Act} {w:World} {β:Bi} {G:Gh} {h:Nat->Option Zb} {nid:Nat} {ρ:Nat->Option DV}
theorem Zfa:∀(cs:List DV) (n:Nat),Ya cs n []=cs
 | [],0=>rfl
 | [],_+1=>rfl
 | _::_,0=>rfl
 | _::_,_+1=>rfl
theorem YG:∀(cs:List DV) (n:Nat) (vs:List DV),n+vs.length<=cs.length->Ya cs n vs=cs.take n++vs++cs.drop (n+vs.length)
 | cs,n,[],_=>by rw[Zfa];simp
 | [],n,v::vs,h=>by simp at h
 | c::cs,0,v::vs,h=>by
  have:=YG cs 0 vs (by simp at h⊢;omega)
  simp only[Ya,this];simp
 | c::cs,n+1,v::vs,h=>by
  have:=YG cs n (v::vs) (by simp at h⊢;omega)
  simp only[Ya,this];simp[show n+1+(vs.length+1)=n+(vs.length+1)+1 by omega]
theorem Z4C (w:World) (g:Nat) (cs:Array Value) {k:Nat} (a:k≠g):(w.setRow g cs).heap[k]? = w.heap[k]? := by
 simp only[World.setRow,Array.getElem?_modify];rw[if_neg (fun e=>a e.symm)]
theorem Z6C {B:Nat} {x w:World} (a:Below B x w) {g:Nat} (c:B<=g) (cs:Array Value):Below B x (w.setRow g cs) :=
 a.trans ⟨rfl,rfl,rfl,by simp,fun k b=>Z4C w g cs (by omega)⟩
theorem Z62 {t:TypeId} {ti:TI} (ht:ZL P t ti) {v:Value} (h:v.cells.size=ti.size) (b n:Nat) {vs:Array Value} {t':TypeId} (g:w.heap[b]? = some (.cells vs t' (0,0)))
  (d:n+ti.size<=vs.size) (e:∀x∈v.cells.toList,x.oneCell'=true) :
  (Instr.storeAt t (.pointer (some ⟨b,n,none⟩)) v).run P w=.ok () (w.setRow b (vs.toList.take n++v.cells.toList++vs.toList.drop (n+v.cells.toList.length)).toArray):=by
 have f:=ht.run_sizeOf w;have a:=run_storeCells_at P b n t' v.cells.toList 0 vs w g (by simp;omega) e
 have c:¬v.cells.size≠ti.size:=by omega
 simp only[Instr.storeAt,Instr.sureAddr,storeVar,jz,Sem.run_pure,Result.andThen_ok,f,c,if_false];simpa using a
theorem Zf8 (xs cs:List DV) (n:Nat) (vs:List DV) (h:n+vs.length<=cs.length):Ya (xs++cs) (xs.length+n) vs=xs++Ya cs n vs:=by
 rw[YG _ _ _ (by rw[List.length_append];omega),YG _ _ _ h,List.take_length_add_append,show xs.length+n+vs.length=xs.length+(n+vs.length) by omega,List.drop_length_add_append]
 simp
theorem ZdY (cs ds:List DV) (n:Nat) (vs:List DV) (h:n+vs.length<=cs.length):Ya (cs++ds) n vs=Ya cs n vs++ds:=by
 rw[YG _ _ _ (by rw[List.length_append];omega),YG _ _ _ h,List.take_append_of_le_length (by omega),List.drop_append_of_le_length h]
 simp
theorem Zf9 (cs:List DV) (n:Nat) (vs:List DV) (h:n+vs.length<=cs.length):(Ya cs n vs).length=cs.length:=by
 rw[YG _ _ _ h];simp;omega
theorem Z8o {e:Nat}:∀{es:List (List DV)} {i:Nat} {c:List DV} (vs:List DV) {off:Nat},(∀y∈es,y.length=e)->es[i]? = some c->off+vs.length<=e →
  (es.set i (Ya c off vs)).flatten=Ya es.flatten (i*e+off) vs
 | [],i,c,vs,off,_,h,_=>by simp at h
 | x::es,0,c,vs,off,he,h,a=>by
  simp only[List.getElem?_cons_zero,jh]at h;subst h;rw[List.set_cons_zero,List.flatten_cons,List.flatten_cons,Nat.zero_mul,Nat.zero_add,ZdY _ _ _ _ (by rw[he x (by simp)];exact a)]
 | x::es,i+1,c,vs,off,he,h,a=>by
  have d:x.length=e:=he x (by simp)
  have hc:es[i]? = some c:=by simpa using h
  have ih:=Z8o vs (fun y hy=>he y (by simp[hy])) hc a
  rw[List.set_cons_succ,List.flatten_cons,List.flatten_cons,ih,show(i+1)*e+off=x.length+(i*e+off) by rw[d,Nat.succ_mul];omega,Zf8]
  have hi:i<es.length:=(jc.1 hc).1;have b:es.flatten.length=es.length*e:=by
   have:∀(l:List (List DV)),(∀y∈l,y.length=e)->l.flatten.length=l.length*e:=fun l=>by
    induction l with
    | nil=>intro _;simp
    | cons y l ih=>intro a;rw[List.flatten_cons,List.length_append,ih (fun z hz=>a z (by simp[hz])),a y (by simp),List.length_cons,Nat.succ_mul];omega
   exact this es fun y hy=>he y (by simp[hy])
  rw[b];have:=Nat.mul_le_mul_right e hi;rw[Nat.succ_mul]at this;omega
theorem Zic {α:Type} (cur V:List α) (k N:Nat) (b:k+V.length<=N) (c:N<=cur.length) :
  List.take N (cur.take k++V++cur.drop (k+V.length))=(cur.take N).take k++V++(cur.take N).drop (k+V.length):=by
 have a:(cur.take k).length=k:=by rw[List.length_take];omega
 have e1:(cur.take N).take k=cur.take k:=by rw[List.take_take,Nat.min_eq_left (by omega)]
 have e2:(cur.take N).drop (k+V.length)=(cur.drop (k+V.length)).take (N-(k+V.length)):=List.drop_take;rw[e1,e2,List.take_append,List.length_append,a,List.take_of_length_le (l:=cur.take k++V) (by rw[List.length_append,a];exact b)]
theorem YJ:∀{cs:List DV},Zc cs=true↔∀c∈cs,Zf c=true
 | []=>by simp[Zc]
 | c::cs=>by simp[Zc,YJ (cs:=cs)]
theorem Ze2 (hh:HR E w0 G0 D w β G h) {t:TypeId} {ti:TI} (ht:ZL P t ti) {da dv:DV} {u v:Value} (a:Rep β G da u) (hy:Rep β G dv v) {us:List (Nat×Option Zb)}
  (d:Z5p ti h da dv=some us):∃w',(Instr.storeAt t u v).run P w=.ok () w'/\HR E w0 G0 D w' β G (Zy h us)/\Z2l β β h (Zy h us) nid:=by
 unfold Z5p at d;obtain⟨hq,d⟩:=Z3 d;simp only[jn]at hq;have hlen:(cellsOf dv).length=ti.size:=je hq.1;have hcs:=Z3Z hy;have hvl:v.cells.size=ti.size:=by have:=ZJ hcs;simp at this;omega
 have hone:∀x∈v.cells.toList,x.oneCell'=true:=Z4v hq.2 hcs;have l:∀{id:Nat} {o':Zb} {o:Zb},h id=some o->Z2l β β h (Zy h [(id,some o')]) nid:=fun {id o' o} f i _ hf=>by
  refine⟨?_,rfl,fun _=>rfl⟩;rw[Zz]
  by_cases e:i=id
  ·subst e;rw[hf]at f;cases f
  ·rw[if_neg e];exact hf
 split at d
 ·rename_i id off _;obtain⟨b,k,rfl⟩:=Z1f.1 a;obtain⟨ob,f,d⟩:=Z0 d;split at d
  ·rename_i t' cs;obtain⟨s,d⟩:=Z3 d;cases d;have s:off+ti.size<=cs.length:=jf s;obtain⟨b',vs,h1,h2,h3,h4,h5⟩:=hh.obj id _ f;rw[k]at h1;cases h1;have hvs:vs.size=cs.length:=by have:=ZJ h3;simpa using this
   refine⟨_,Z62 ht hvl b off h2 (by omega) hone,?_,l f⟩
   have hsp:=YG cs off (cellsOf dv) (by omega)
   refine hh.move (fun x=>x=b) id _ (Ext.refl β G) (Z6C hh.below (hh.own id _ b f k).1 _) (fun x a _=>Z4C w b _ a) (fun _ _=>rfl) (by simp) ?_ ?_ ?_ ?_ ?_ ?_ (fun _ _=>⟨rfl,fun _=>rfl⟩)
   ·rintro x rfl;exact⟨(hh.own id _ _ f k).1,(hh.own id _ _ f k).2.2⟩
   ·rintro x id' o2 rfl ho2 hb2;exact hh.inj id' id o2 _ _ ho2 f hb2 k
   ·rintro x rfl n y hg;rw[h5]at hg;cases hg
   ·refine⟨b,_,k,setRow_heap w b vs _ t' (0,0) h2,?_,?_,h5⟩
    ·rw[hsp];simp only[jj];refine Y2.2 ⟨_,_,rfl,Yy _ h3,Y2.2 ⟨_,_,rfl,hcs,?_⟩⟩;have:v.cells.toList.length=(cellsOf dv).length:=ZJ hcs;rw[this];exact Yx _ h3
    ·rw[hsp];simp only[List.all_append,jn];refine⟨⟨?_,hq.2⟩,?_⟩
     ·rw[List.all_eq_true]at h4⊢;exact fun x a=>h4 x (List.mem_of_mem_take a)
     ·rw[List.all_eq_true]at h4⊢;exact fun x a=>h4 x (List.mem_of_mem_drop a)
   ·intro x a;exact .inr ⟨_,f,a⟩
   ·intro x a;have:=(hh.own id _ x f a).2.1;simpa using this
  ·cases d
 ·rename_i id ver i e off _;obtain⟨b,m,c,k,rfl⟩:=Z1T.1 a;obtain⟨ob,f,d⟩:=Z0 d;split at d
  ·rename_i t' es p uu;obtain⟨cc,hc,d⟩:=Z0 d;obtain⟨hq2,hd2⟩:=Z3 d;clear d;cases hd2;simp only[jn]at hq2;obtain⟨⟨⟨⟨hu,hce⟩,hp0⟩,q⟩,s⟩:=hq2;have hu:uu=ver:=je hu;have hce:cc.length=e:=je hce;have hp0:p=0:=je hp0;have s:off+ti.size<=cc.length:=jf s;subst hu hp0;obtain⟨hdr,vals,h1,h2,h3,h4,h5,h6,h7⟩:=hh.obj id _ f;rw[k]at h1;cases h1;have hee:e=Yn E t':=by rw[<-hce];exact(h4 cc (List.mem_of_getElem? hc)).1
   have hi:i<es.length:=(jc.1 hc).1;have hfl:=Z8o (e:=e) (off:=off) (cellsOf dv) (fun y hy=>by rw[hee];exact(h4 y hy).1) hc (by omega)
   rcases h2.2 with⟨e1,_⟩|⟨g,cap,cur,e1,hg1,hg2,hg3,hg4,hg5,hg6⟩
   ·cases e1
   ·cases e1;have hlen:vals.length=es.length*Yn E t':=h2.1;have hflen:es.flatten.length=vals.length:=(ZJ h3).symm;have hin:=Nat.mul_le_mul_right e hi;rw[Nat.succ_mul]at hin;have hcm:=Nat.mul_le_mul_right e hg3;have j:Yf β id (.row t' es 0 uu) b:=⟨_,_,k⟩;have hgn:∀o,G b o=none:=fun o=>h6 b rfl o (by simp[pn])
    have hvc:v.cells.toList.length=(cellsOf dv).length:=ZJ hcs;have hmul:es.length*Yn E t'=es.length*e:=by rw[hee]
    have r:c*Yn E t'=c*e:=by rw[hee]
    refine⟨_,Z62 ht hvl b (i*e+off) hg2 (by rw[hg5,r];omega) hone,?_,l f⟩
    have hsp:=YG es.flatten (i*e+off) (cellsOf dv) (by omega)
    refine hh.move (fun x=>x=b) id _ (Ext.refl β G) (Z6C hh.below hg1 _) (fun x a _=>Z4C w b _ a) (fun _ _=>rfl) (by simp) ?_ ?_ ?_ ?_ ?_ ?_ (fun _ _=>⟨rfl,fun _=>rfl⟩)
    ·rintro x rfl;exact⟨(hh.own id _ _ f j).1,(hh.own id _ _ f j).2.2⟩
    ·rintro x id' o2 rfl ho2 hb2;exact hh.inj id' id o2 _ _ ho2 f hb2 j
    ·rintro x rfl n y hg;rw[hgn]at hg;cases hg
    ·refine⟨_,vals.take (i*e+off)++v.cells.toList++vals.drop (i*e+off+v.cells.toList.length),k,⟨?_,.inr ⟨b,c,_,?_,hg1,setRow_heap w b cur _ t' (0,0) hg2,?_,hg4,?_,?_⟩⟩,?_,?_,⟨h5.1,Z9Q _ _⟩,fun b' hb' o _=>?_,h7⟩
     ·simp only[List.length_append,List.length_take,List.length_drop,List.length_set];omega
     ·rw[List.length_set]
     ·rw[List.length_set];exact hg3
     ·simp only[List.size_toArray,List.length_append,List.length_take,List.length_drop,Array.length_toList];omega
     ·rw[List.length_set,<-hg6];have hcl:cur.toList.length=c*e:=by rw[Array.length_toList,hg5,r]
      exact Zic cur.toList v.cells.toList (i*e+off) _ (by omega) (by omega)
     ·rw[hfl,hsp];simp only[jj];refine Y2.2 ⟨_,_,rfl,Yy _ h3,Y2.2 ⟨_,_,rfl,hcs,?_⟩⟩;rw[hvc];exact Yx _ h3
     ·intro y hy;rcases List.mem_or_eq_of_mem_set hy with hy|rfl
      ·exact h4 y hy
      ·obtain⟨q1,q2,q3⟩:=h4 cc (List.mem_of_getElem? hc);refine⟨by rw[Zf9 _ _ _ (by omega)];exact q1,?_,?_⟩
       ·rw[YJ]at q2 q⊢;rw[YG _ _ _ (by omega)]
        intro z hz;simp only[List.mem_append]at hz;rcases hz with(hz|hz)|hz
        ·exact q2 z (List.mem_of_mem_take hz)
        ·exact q z hz
        ·exact q2 z (List.mem_of_mem_drop hz)
       ·rw[YG _ _ _ (by omega)]
        simp only[List.all_append,jn];refine⟨⟨?_,hq.2⟩,?_⟩
        ·rw[List.all_eq_true]at q3⊢;exact fun x a=>q3 x (List.mem_of_mem_take a)
        ·rw[List.all_eq_true]at q3⊢;exact fun x a=>q3 x (List.mem_of_mem_drop a)
     ·simp only[Value.ownBlock,jh]at hb';subst hb';exact hgn o
    ·rintro x ⟨n',c',a⟩;rw[k]at a;cases a;exact .inl rfl
    ·rintro x ⟨n',c',a⟩;rw[k]at a;cases a;have:=(hh.own id _ _ f j).2.1;simpa using this
  ·cases d
 ·cases d
theorem ZaU (hh:HR E w0 G0 D w β G h) (a:ZE β h nid) {t:TypeId} {cs:List DV} {vs:Array Value} (hr:Ze β G cs vs.toList) (hc:cs.all Zw=true) :
  ∃β',Ext β G β' G/\β'.blk nid=some w.heap.size/\HR E w0 G0 D (w.alloc (.cells vs t)) β' G (Zy h [(nid,some (.cells t cs))])/\Z2l β β' h (Zy h [(nid,some (.cells t cs))]) nid:=by
 refine hh.lay a (.cells vs t) (.cells t cs) rfl (fun β' hx hb=>?_);exact⟨w.heap.size,vs,hb,heap_alloc_new w _,Ze.mono hx _ _ hr,hc,fun o=>glt hh (Nat.le_refl _) o⟩
theorem Za4 (t:TypeId) (v:Value):(newVar t v).run P w=.ok ⟨w.heap.size,0,none⟩ (w.alloc (.cells v.cells t)):=by
 rfl
theorem ZcE (hh:HR E w0 G0 D w β G h) (f:ZE β h nid) {t:TypeId} {ti:TI} (ht:ZL P t ti) (g:o.op=.alloc t) :
  Y0 P E w0 G0 D o a w β G h nid ⟨some (.ptr nid 0),[(nid,some (.cells t ti.zero))]⟩:=by
 obtain⟨z,hz,_,hr⟩:=ht.run_zero w;obtain⟨β',j,i,b,e⟩:=ZaU (t:=t) hh f (hr β G) ht.zc;refine⟨.value (.pointer (some ⟨w.heap.size,0,none⟩)),_,w.alloc (.cells z.cells t),β',G,?_,.inl rfl,?_,j,b,e⟩
 ·unfold execOp;rw[g];simp[Instr.alloc,jz,hz,Za4]
 ·intro d c;cases c;exact Z1f.2 ⟨_,i,rfl⟩
theorem Zge (hh:HR E w0 G0 D w β G h) (g:ZE β h nid) {t:TypeId} {x:Operand} {d:DV} (i:o.op=.box t x) (k:Rep β G d (a.eval x)) (hc:(cellsOf d).all Zw=true) :
  Y0 P E w0 G0 D o a w β G h nid ⟨some (.ptr nid 0),[(nid,some (.cells t (cellsOf d)))]⟩:=by
 obtain⟨β',b,j,c,f⟩:=ZaU (t:=t) hh g (Z3Z k) hc;refine⟨.value (.pointer (some ⟨w.heap.size,0,none⟩)),_,w.alloc (.cells (a.eval x).cells t),β',G,?_,.inl rfl,?_,b,c,f⟩
 ·unfold execOp;rw[i];simp[Instr.box,Za4]
 ·intro d e;cases e;exact Z1f.2 ⟨_,j,rfl⟩
end
end Go.Ab
namespace Go.Ab
open Go.RowKit
section
variable {P:Program} {E:Env} {w0:World} {G0:Gh} {D:DD} {o:Oper} {a:Act} {w:World} {β:Bi} {G:Gh} {h:Nat->Option Zb} {nid:Nat} {ρ:Nat->Option DV}
theorem ZcZ:∀(us:List Value) (off k:Nat) (cells:Array Value),off+k+us.length<=cells.size →
  ((us.zipIdx k).foldl (fun cs (c,j)=>cs.setIfInBounds (off+j) c) cells).toList=cells.toList.take (off+k)++us++cells.toList.drop (off+k+us.length)
 | [],off,k,cells,_=>by simp
 | u::us,off,k,cells,h=>by
  have ih:=ZcZ us off (k+1) (cells.setIfInBounds (off+k) u) (by simp at h⊢;omega)
  simp only[List.zipIdx_cons,List.foldl_cons];rw[ih];have:=list_seg_step cells.toList (off+k) u us (by simp at h⊢;omega)
  simpa[Array.toList_setIfInBounds,Nat.add_assoc]using this
theorem Z4i (us:Array Value) (off:Nat) (cells:Array Value) (h:off+us.size<=cells.size) :
  (us.zipIdx.foldl (fun cs (c,j)=>cs.setIfInBounds (off+j) c) cells).toList=cells.toList.take off++us.toList++cells.toList.drop (off+us.size):=by
 have:=ZcZ us.toList off 0 cells (by simpa using h)
 rw[<-Array.foldl_toList,Array.toList_zipIdx];simpa using this
def Z4Q (β:Bi) (G:Gh):List (Nat×DV)->List (Nat×Value)->Prop
 | [],ps=>ps=[]
 | (i,d)::ds,ps=>∃v ps',ps=(i,v)::ps'/\Rep β G d v/\Z4Q β G ds ps'
theorem Z7M (c:FrM β G ρ a.tmps):∀{ps:List (Nat×Operand)} {ds:List (Nat×DV)},Z23 ρ ps=some ds->Z4Q β G ds (ps.map fun(i,x)=>(i,a.eval x))
 | [],ds,b=>by simp only[Z23,jh]at b;subst b;rfl
 | (i,x)::ps,ds,b=>by
  simp only[Z23]at b;obtain⟨d,f,b⟩:=Z0 b;obtain⟨ds',e,g⟩:=Z0 b;cases g;exact⟨_,_,rfl,Zm c f,Z7M c e⟩
theorem Z8z {cs us:List DV} {vs xs:List Value} {off:Nat} (hc:Ze β G cs vs) (a:Ze β G us xs) (b:off+us.length<=cs.length) :
  Ze β G (Ya cs off us) (vs.take off++xs++vs.drop (off+xs.length)):=by
 rw[YG cs off us b,ZJ a,jj,jj];exact Y2.2 ⟨_,_,rfl,Yy _ hc,Y2.2 ⟨_,_,rfl,a,Yx _ hc⟩⟩
theorem Z4I {size:Nat}:∀{ds:List (Nat×DV)} {ps:List (Nat×Value)} {cs res:List DV} {vs:Array Value},Z4Q β G ds ps->Ze β G cs vs.toList →
  Z1D size ds cs=some res->∃out,Instr.fill (fun i=>some (i*size,size)) vs ps=some out/\Ze β G res out.toList
 | [],ps,cs,res,vs,hp,hc,a=>by
  simp only[Z4Q]at hp;subst hp;simp only[Z1D,jh]at a;subst a;exact⟨vs,rfl,hc⟩
 | (i,d)::ds,_,cs,res,vs,⟨v,ps',hps,hv,hp⟩,hc,a=>by
  subst hps;simp only[Z1D]at a;obtain⟨g,a⟩:=Z3 a;simp only[jn]at g;have q:(cellsOf d).length=size:=je g.1;have p:i*size+size<=cs.length:=jf g.2;have f:=Z3Z hv;have l:v.cells.size=size:=by have:=ZJ f;simp at this;omega
  have n:vs.size=cs.length:=by have:=ZJ hc;simpa using this
  have e:=Z8z (off:=i*size) hc f (by omega)
  have h:=Z4i v.cells (i*size) vs (by omega)
  have b:Ze β G (Ya cs (i*size) (cellsOf d)) (v.cells.zipIdx.foldl (fun cs (c,j)=>cs.setIfInBounds (i*size+j) c) vs).toList:=by
   rw[h];simpa using e
  obtain⟨out,k,o⟩:=Z4I hp b a;refine⟨out,?_,o⟩;have m:(v.cells.size≠size||i*size+v.cells.size>vs.size)=false:=by simp;omega
  simp only[Instr.fill,m,jg,if_false];exact k
theorem Z3R {fs:List (Nat×Nat)} (place:Nat->Option (Nat×Nat)) (e:∀i ft off ti,fs[i]? = some (ft,off)->E.ty ft=some ti->place i=some (off,ti.size)) :
  ∀{ds:List (Nat×DV)} {ps:List (Nat×Value)} {cs res:List DV} {vs:Array Value},Z4Q β G ds ps->Ze β G cs vs.toList →
  Z16 fs E ds cs=some res->∃out,Instr.fill place vs ps=some out/\Ze β G res out.toList
 | [],ps,cs,res,vs,hp,hc,a=>by
  simp only[Z4Q]at hp;subst hp;simp only[Z16,jh]at a;subst a;exact⟨vs,rfl,hc⟩
 | (i,d)::ds,_,cs,res,vs,⟨v,ps',hps,hv,hp⟩,hc,a=>by
  subst hps;simp only[Z16]at a;obtain⟨⟨ft,off⟩,m,a⟩:=Z0 a;obtain⟨ti,h,a⟩:=Z0 a;obtain⟨k,a⟩:=Z3 a;simp only[jn]at k;have t:(cellsOf d).length=ti.size:=je k.1;have s:off+ti.size<=cs.length:=jf k.2;have g:=Z3Z hv;have o:v.cells.size=ti.size:=by have:=ZJ g;simp at this;omega
  have q:vs.size=cs.length:=by have:=ZJ hc;simpa using this
  have f:=Z8z (off:=off) hc g (by omega)
  have l:=Z4i v.cells off vs (by omega)
  have b:Ze β G (Ya cs off (cellsOf d)) (v.cells.zipIdx.foldl (fun cs (c,j)=>cs.setIfInBounds (off+j) c) vs).toList:=by
   rw[l];simpa using f
  obtain⟨out,n,r⟩:=Z3R place e hp b a;refine⟨out,?_,r⟩;have p:(v.cells.size≠ti.size||off+v.cells.size>vs.size)=false:=by simp;omega
  simp only[Instr.fill,e i ft off ti m h,p,jg,if_false];exact n
theorem Zdl {α γ:Type} {f:α->Option γ}:∀{l:List α} {r:List γ},l.mapM f=some r->∀{i:Nat} {x:α},l[i]? = some x->f x=r[i]?
 | [],_,_,i,x,hx=>by simp at hx
 | y::l,r,h,i,x,hx=>by
  simp only[List.mapM_cons,Option.bind_eq_bind,Option.pure_def]at h;obtain⟨z,b,h⟩:=Z0 h;obtain⟨zs,a,h⟩:=Z0 h;cases h;cases i with
  | zero=>simp at hx;subst hx;simpa using b
  | succ i=>simpa using Zdl a (i:=i) (x:=x) (by simpa using hx)
theorem ZcK (hE:∀t ti,E.ty t=some ti->ZL P t ti) (hf:FrM β G ρ a.tmps) {t:TypeId} {ps:Array (Nat×Operand)} {d:DV}
  (c:((E.ty t).bind fun ti=>(Z23 ρ ps.toList).bind fun vs=>match ti.k with
   | .struct fs=>(Z16 fs E vs ti.zero).bind fun cs=>ret (.agg cs)
   | .array _ e=>(E.ty e).bind fun ei=>(Z1D ei.size vs ti.zero).bind fun cs=>ret (.agg cs)
   | _=>none)=some ⟨some d,[]⟩) :
  ∃r,(Instr.build t (ps.map fun(i,x)=>(i,a.eval x))).run P w=.ok r w/\Rep β G d r:=by
 obtain⟨ti,p,c⟩:=Z0 c;obtain⟨vs,q,c⟩:=Z0 c;have ht:=hE t ti p;have hp:=Z7M hf q;have h:(ps.map fun(i,x)=>(i,a.eval x)).toList=ps.toList.map fun(i,x)=>(i,a.eval x):=by simp
 obtain⟨it,z,y,h2,_,v,h5,h6⟩:=ht.info;split at c
 ·rename_i fs j;obtain⟨cs,hcs,c⟩:=Z0 c;cases c;have b:=ht.desc;rw[j]at b;obtain⟨fields,hu,l,places,g⟩:=b;obtain⟨out,m,o⟩:=Z3R (E:=E) (fs:=fs) (fun i=>places.toArray[i]?) (fun i ft off fi f u=>by
   rw[<-l,List.getElem?_map]at f;cases hq:fields.toList[i]? with
   | none=>rw[hq]at f;cases f
   | some fd =>
    rw[hq]at f;simp only[jq,jh,Prod.mk.injEq]at f;obtain⟨e1,e2⟩:=f;obtain⟨ii,zz,k1,k2,_⟩:=(hE ft fi u).info;have:=Zdl g hq;rw[e1,k1]at this;simp only[jq,jh]at this;simp[<-this,e2,k2]) hp (h6 β G) hcs
  refine⟨.agg out,run_build w t _ out ?_,YK.2 ⟨out.toList,by simp,o⟩⟩
  rw[h];simp only[Program.built,y,hu,v,g];exact m
 ·rename_i n e j;obtain⟨ei,s,c⟩:=Z0 c;obtain⟨cs,hcs,c⟩:=Z0 c;cases c;have b:=ht.desc;rw[j]at b;obtain⟨ie,ze,k1,k2,_⟩:=(hE e ei s).info;obtain⟨out,m,o⟩:=Z4I hp (h6 β G) hcs;refine⟨.agg out,run_build w t _ out ?_,YK.2 ⟨out.toList,by simp,o⟩⟩
  rw[h];simp only[Program.built,y,b,v,k1,k2];exact m
 ·cases c
end
end Go.Ab
namespace Go.Ab
open Go.RowKit
section
variable {P:Program} {E:Env} {w0:World} {G0:Gh} {D:DD} {w:World} {β:Bi} {G:Gh} {h:Nat->Option Zb}
def Z2K (G:Gh) (g:Nat) (vals:List Value):Gh:=fun b o=>if b=g then(if o<vals.length then vals[o]? else G b o)else G b o
def Z2H (E:Env) (β:Bi) (G:Gh) (h:Nat->Option Zb) (id:Nat):Prop :=
 ∀t es p u,h id=some (.row t es p u)->∃hdr,β.hdr id u=some hdr/\∃a c,(hdr=.slice a es.length c/\es.length<=c)/\(es=[]\/∃b,a=some ⟨b,0,none⟩/\Ym β G b (Yn E t) 0 es)
theorem Z5g {g:Nat}:∀{cs:List DV} {vs:List Value} {o:Nat},Ze β G cs vs->(∀j v,vs[j]? = some v->G g (o+j)=some v)->Pub β G g o cs
 | [],_,_,_,_=>by unfold Pub;trivial
 | c::cs,_,o,hr,hv=>by
  obtain⟨v,vs',rfl,d,b⟩:=Za.1 hr;unfold Pub;refine⟨⟨v,by simpa using hv 0 v rfl,d⟩,Z5g b (fun j u a=>?_)⟩
  rw[show o+1+j=o+(j+1) by omega]
  exact hv (j+1) u (by simpa using a)
theorem Z4q {g e:Nat}:∀{es:List (List DV)} {vs:List Value} {o:Nat},Ze β G es.flatten vs->(∀c∈es,c.length=e/\Zc c=true/\c.all Zw=true)->(∀j v,vs[j]? = some v->G g (o+j)=some v)->Ym β G g e o es
 | [],_,_,_,_,_=>by unfold Ym;trivial
 | c::cs,_,o,hr,hc,hv=>by
  rw[List.flatten_cons]at hr;obtain⟨as,bs,rfl,f,i⟩:=Y2.1 hr;obtain⟨h,b⟩:=hc c (by simp)
  have k:=ZJ f;unfold Ym;refine⟨h,b,Z5g f (fun j v a=>hv j v ?_),Z4q i (fun x l=>hc x (by simp[l])) (fun j v a=>?_)⟩
  ·have d:j<as.length:=(jc.1 a).1;rw[List.getElem?_append_left d];exact a
  ·have:=hv (e+j) v (by rw[List.getElem?_append_right (by omega)];rw[show e+j-as.length=j by omega];exact a)
   rwa [show o+e+j=o+(e+j) by omega]
theorem Zi6 (hh:HR E w0 G0 D w β G h) {id:Nat} {t:TypeId} {es:List (List DV)} {p u:Nat} (y:h id=some (.row t es p u)) :
  ∃G',Ext β G β G'/\HR E w0 G0 D w β G' (Zy h [(id,some (.row t es 1 u))])/\Z2H E β G' (Zy h [(id,some (.row t es 1 u))]) id:=by
 obtain⟨hdr,vals,k,r,h3,h4,h5,h6,h7⟩:=hh.obj id _ y;rcases r.2 with⟨rfl,hn⟩|⟨g,cap,cur,rfl,hg1,hg2,a0,hg4,hg5,hg6⟩
 ·have m:es=[]:=List.eq_nil_of_length_eq_zero hn;refine⟨G,Ext.refl β G,?_,fun t' es' p' u' s=>?_⟩
  ·refine hh.move (fun _=>False) id _ (Ext.refl β G) hh.below (fun _ _ _=>rfl) (fun _ _=>rfl) (Nat.le_refl _) (fun _ x=>x.elim) (fun _ _ _ x=>x.elim) (fun _ x=>x.elim) ?_ ?_ ?_ (fun _ _=>⟨rfl,fun _=>rfl⟩)
   ·exact⟨_,vals,k,r,h3,h4,⟨h5.1,Z9Q _ _⟩,fun b a=>by simp[Value.ownBlock]at a,h7⟩
   ·rintro b ⟨n,c,a⟩;rw[k]at a;cases a
   ·rintro b ⟨n,c,a⟩;rw[k]at a;cases a
  ·rw[Zz,if_pos rfl]at s;cases s;exact⟨_,k,none,0,⟨by rw[m];rfl,by rw[m];exact Nat.le_refl _⟩,.inl m⟩
 ·have i:Yf β id (.row t es p u) g:=⟨es.length,cap,k⟩;obtain⟨hb0,hb1,l⟩:=hh.own id _ g y i;have hlen:vals.length=es.length*Yn E t:=r.1;have d:=r.cells (g:=g) rfl;have z:Ext β G β (Z2K G g vals):=⟨fun b o v f=>by
   unfold Z2K
   by_cases e:b=g
   ·rw[if_pos e]
    by_cases hl:o<vals.length
    ·rw[if_pos hl];have:=hh.agree b o v f;subst e;have hc:=d o (vals[o]) (by simp[hl])
     rw[Yc,Nat.zero_add]at hc;rw[hc]at this;cases this;simp[hl]
    ·rw[if_neg hl];exact f
   ·rw[if_neg e];exact f,fun _ _ h=>h,fun _ _ _ h=>h⟩
  refine⟨Z2K G g vals,z,?_,fun t' es' p' u' s=>?_⟩
  ·refine hh.move (fun b=>b=g) id _ z hh.below (fun _ _ _=>rfl) (fun b a=>by funext o;unfold Z2K;rw[if_neg a]) (Nat.le_refl _) ?_ ?_ ?_ ?_ ?_ ?_ (fun _ _=>⟨rfl,fun _=>rfl⟩)
   ·rintro b rfl;exact⟨hb0,l⟩
   ·rintro b id' o2 rfl ho2 l;exact hh.inj id' id o2 _ _ ho2 y l i
   ·rintro b rfl o v f;unfold Z2K at f;rw[if_pos rfl]at f
    by_cases hl:o<vals.length
    ·rw[if_pos hl]at f;have:=d o v f
     rwa [Yc,Nat.zero_add]at this
    ·rw[if_neg hl]at f;exact hh.agree _ _ _ f
   ·refine⟨_,vals,k,r,Ze.mono z _ _ h3,h4,⟨h5.1,Z9Q _ _⟩,fun b a o q=>?_,h7⟩;replace q:es.length*Yn E t<=o:=q;simp only[Value.ownBlock,jh]at a;subst a;unfold Z2K;rw[if_pos rfl,if_neg (by omega)]
    refine h6 _ rfl o (Nat.le_trans ?_ q);exact Nat.mul_le_mul_right _ h5.2
   ·intro b a;exact .inr ⟨_,y,a⟩
   ·rintro b ⟨n,c,a⟩;rw[k]at a;cases a;exact hb1
  ·rw[Zz,if_pos rfl]at s;cases s;refine⟨_,k,_,cap,⟨rfl,a0⟩,.inr ⟨g,rfl,Z4q (Ze.mono z _ _ h3) h4 (fun j v hj=>?_)⟩⟩;have a1:j<vals.length:=(jc.1 hj).1;unfold Z2K;rw[if_pos rfl,Nat.zero_add,if_pos a1];exact hj
theorem Zbq (h:Nat->Option Zb) (x:Nat×Option Zb) (us:List (Nat×Option Zb)) (i:Nat) :
  Zy h (x::us) i=match Zq i us with|some y=>y|none=>if i=x.1 then x.2 else h i:=by
 unfold Zy;obtain⟨id,o⟩:=x;simp only[Zq];cases hq:Zq i us with
 | some y=>rfl
 | none =>
  by_cases e:i=id
  ·subst e;simp
  ·have:Nat.beq id i=false:=by
    cases hb:Nat.beq id i with
    | false=>rfl
    | true=>exact absurd (je hb).symm e
   simp[this,e]
theorem Y8 (h:Nat->Option Zb):∀(is:List Nat) (i:Nat) (y:Option Zb),Zq i (Zo h is)=some y->∃t es p u,h i=some (.row t es p u)/\y=some (.row t es 1 u)
 | [],i,y,hy=>by simp[Zo,Zq]at hy
 | j::is,i,y,hy=>by
  simp only[Zo]at hy;split at hy
  ·rename_i t es p u a;cases hp1:Nat.beq p 1 with
   | true=>rw[hp1]at hy;exact Y8 h is i y (by simpa using hy)
   | false =>
   rw[hp1]at hy;simp only[jA,List.singleton_append,Zq]at hy;cases hq:Zq i (Zo h is)with
   | some z =>
    rw[hq]at hy;cases hy;exact Y8 h is i y hq
   | none =>
    rw[hq]at hy;simp only at hy;cases hb:Nat.beq j i with
    | false=>rw[hb]at hy;cases hy
    | true =>
     rw[hb]at hy;cases hy;have:=je hb;subst this;exact⟨t,es,p,u,a,rfl⟩
  ·exact Y8 h is i y (by simpa using hy)
theorem Z2H.mono {β':Bi} {G':Gh} {id:Nat} (e:Ext β G β' G') (k:Z2H E β G h id):Z2H E β' G' h id:=fun t es p u f=>by
 obtain⟨hdr,j,a,c,g,d⟩:=k t es p u f;refine⟨hdr,e.hdr _ _ _ j,a,c,g,?_⟩;rcases d with d|⟨b,d,i⟩
 ·exact .inl d
 ·exact .inr ⟨b,d,Ym.mono e _ _ _ _ i⟩
theorem Z1I (hh:HR E w0 G0 D w β G h):∀(is:List Nat),∃G',Ext β G β G'/\HR E w0 G0 D w β G' (Zy h (Zo h is))/\∀i∈is,Z2H E β G' (Zy h (Zo h is)) i
 | []=>⟨G,Ext.refl β G,hh,fun i hi=>by cases hi⟩
 | j::is=>by
  obtain⟨G1,m,q,g⟩:=Z1I hh is;simp only[Zo];split
  ·rename_i t es p u l
   have o:∃p',Zy h (Zo h is) j=some (.row t es p' u):=by
    unfold Zy;cases b:Zq j (Zo h is)with
    | none=>exact⟨p,l⟩
    | some y =>
     obtain⟨t',es',p',u',k1,k2⟩:=Y8 h is j y b;rw[l]at k1;cases k1;exact⟨_,k2⟩
   obtain⟨p',a⟩:=o;obtain⟨G2,d,r,k⟩:=Zi6 q a;cases f:Nat.beq p 1 with
   | true =>
    have f:p=1:=je f;subst f;have n:p'=1:=by
     unfold Zy at a;cases b:Zq j (Zo h is)with
     | none=>rw[b]at a;simp only at a;rw[l]at a;cases a;rfl
     | some y =>
      obtain⟨t',es',p'',u',k1,k2⟩:=Y8 h is j y b;rw[b]at a;simp only at a;rw[k2]at a;cases a;rfl
    subst n;simp only[jB,List.nil_append];have c:∀i,Zy h (Zo h is) i=Zy (Zy h (Zo h is)) [(j,some (.row t es 1 u))] i:=fun i=>by
     rw[Zz]
     by_cases e:i=j
     ·rw[if_pos e,e];exact a
     ·rw[if_neg e]
    refine⟨G2,m.trans d,r.eq c,fun i hi=>?_⟩;intro t' es' p'' u' b
    by_cases e:i=j
    ·subst e;exact k t' es' p'' u' ((c i).symm.trans b)
    ·rcases jv.1 hi with rfl|hi
     ·exact absurd rfl e
     ·exact(g i hi).mono d t' es' p'' u' b
   | false =>
   simp only[jA];have c:∀i,Zy h ([(j,some (.row t es 1 u))]++Zo h is) i=Zy (Zy h (Zo h is)) [(j,some (.row t es 1 u))] i:=fun i=>by
    rw[Zz,List.singleton_append,Zbq];unfold Zy
    by_cases e:i=j
    ·subst e;rw[if_pos rfl];cases b:Zq i (Zo h is)with
     | none=>simp
     | some y =>
      obtain⟨t',es',p',u',k1,k2⟩:=Y8 h is i y b;rw[l]at k1;cases k1;simp[k2]
    ·rw[if_neg e];cases b:Zq i (Zo h is)with
     | none=>simp[e]
     | some y=>simp[e]
   refine⟨G2,m.trans d,r.eq c,fun i hi=>?_⟩;have s:Z2H E β G2 (Zy (Zy h (Zo h is)) [(j,some (.row t es 1 u))]) i:=by
    rcases jv.1 hi with rfl|hi
    ·exact k
    ·intro t' es' p'' u' b;rw[Zz]at b
     by_cases e:i=j
     ·subst e;exact k t' es' p'' u' (by rw[Zz];exact b)
     ·rw[if_neg e]at b;exact(g i hi).mono d t' es' p'' u' b
   intro t' es' p'' u' b;rw[c i]at b;exact s t' es' p'' u' b
  ·rename_i l;refine⟨G1,m,by simpa using q,fun i hi=>?_⟩
   rw[List.nil_append];rcases jv.1 hi with rfl|hi
   ·intro t es p u b;exfalso;unfold Zy at b;cases hf:Zq i (Zo h is)with
    | none=>rw[hf]at b;exact l t es p u b
    | some y =>
     obtain⟨t',es',p',u',k1,_⟩:=Y8 h is i y hf;exact l t' es' p' u' k1
   ·exact g i hi
theorem Z30 {b e:Nat}:∀{es:List (List DV)} {off:Nat} (n:Nat),Ym β G b e off es->Ym β G b e off (es.take n)
 | [],_,n,_=>by simp[Ym]
 | _::_,_,0,_=>by simp[Ym]
 | x::es,off,n+1,h=>by
  unfold Ym at h;simp only[List.take_succ_cons];unfold Ym;exact⟨h.1,h.2.1,h.2.2.1,Z30 n h.2.2.2⟩
theorem Z2Z {b e:Nat}:∀{es:List (List DV)} {off:Nat} (n:Nat),Ym β G b e off es->Ym β G b e (off+n*e) (es.drop n)
 | [],_,n,_=>by simp[Ym]
 | _::_,_,0,h=>by simpa using h
 | x::es,off,n+1,h=>by
  unfold Ym at h;have:=Z2Z n h.2.2.2
  rwa [show off+e+n*e=off+(n+1)*e by rw[Nat.add_mul,Nat.one_mul];omega]at this
theorem Z3z {b e e' o:Nat} {es:List (List DV)} (h:Ym β G b e o es) (a:∀c∈es,c.length=e'):es=[]\/Ym β G b e' o es:=by
 cases es with
 | nil=>exact .inl rfl
 | cons c cs =>
  right;have f:=a c (by simp)
  have d:c.length=e:=by unfold Ym at h;exact h.1
  have:e=e':=by omega
  subst this;exact h
mutual
theorem Z5v {h':Nat->Option Zb} {G':Gh} (j:Ext β G β G') (g:∀i t es p u,h i=some (.row t es p u)->∃p',h' i=some (.row t es p' u)) :
  ∀{d d':DV} {v:Value},frz h d=some d'->(∀i∈Zh d,Z2H E β G' h' i)->Rep β G d v->Rep β G' d' v/\Zf d'=true
 | .rs id ver,d',v,e,hs,hr=>by
  simp only[frz]at e;obtain⟨ob,q,e⟩:=Z0 e;split at e
  ·rename_i t es p u;obtain⟨n,e⟩:=Z3 e;cases e;have n:u=ver:=je n;subst n;obtain⟨p',o⟩:=g _ _ _ _ _ q;obtain⟨hdr,s,a,c,r,l⟩:=hs id (by simp[Zh]) _ _ _ _ o
   obtain⟨m,_⟩:=Z1i.1 hr;rw[s]at m;cases m;refine⟨Z3i.2 ⟨a,c,r,?_⟩,rfl⟩;rcases l with l|⟨b,l,m⟩
   ·exact .inl l
   ·exact .inr ⟨b,0,_,l,m⟩
  ·cases e
 | .rv _ _ _ _ _,_,_,e,_,_=>by simp[frz,Zf]at e
 | .slen _,_,_,e,_,_=>by simp[frz,Zf]at e
 | .agg cs,d',v,e,hs,hr=>by
  simp only[frz]at e;obtain⟨cs',hc,e⟩:=Z0 e;cases e;obtain⟨vs,rfl,k⟩:=YK.1 hr;obtain⟨k1,k2⟩:=Z6P j g hc (by simpa[Zh]using hs) k
  exact⟨YK.2 ⟨vs,rfl,k1⟩,by simpa[Zf]using k2⟩
 | .tup cs,d',v,e,hs,hr=>by
  simp only[frz]at e;obtain⟨cs',hc,e⟩:=Z0 e;cases e;obtain⟨vs,rfl,k⟩:=Ys.1 hr;obtain⟨k1,k2⟩:=Z6P j g hc (by simpa[Zh]using hs) k
  exact⟨Ys.2 ⟨vs,rfl,k1⟩,by simpa[Zf]using k2⟩
 | .iface t x,d',v,e,hs,hr=>by
  simp only[frz]at e;obtain⟨x',hc,e⟩:=Z0 e;cases e;unfold Rep at hr;obtain⟨u,rfl,k⟩:=hr;obtain⟨k1,k2⟩:=Z5v j g hc (by simpa[Zh]using hs) k
  refine⟨?_,by simpa[Zf]using k2⟩
  unfold Rep;exact⟨u,rfl,k1⟩
 | .bool _,d',v,e,_,hr=>by simp only[frz,Zf,jB,jh]at e;subst e;exact⟨Rep.mono j _ _ hr,rfl⟩
 | .int _ _,d',v,e,_,hr=>by simp only[frz,Zf,jB,jh]at e;subst e;exact⟨Rep.mono j _ _ hr,rfl⟩
 | .str _,d',v,e,_,hr=>by simp only[frz,Zf,jB,jh]at e;subst e;exact⟨Rep.mono j _ _ hr,rfl⟩
 | .nilp,d',v,e,_,hr=>by simp only[frz,Zf,jB,jh]at e;subst e;exact⟨Rep.mono j _ _ hr,rfl⟩
 | .ptr _ _,d',v,e,_,hr=>by simp[frz,Zf]at e
 | .rptr _ _ _ _ _,d',v,e,_,hr=>by simp[frz,Zf]at e
 | .pub _,d',v,e,_,hr=>by simp[frz,Zf]at e
 | .nils,d',v,e,_,hr=>by
  simp only[frz,jh]at e;subst e;unfold Rep at hr;exact⟨Z3i.2 ⟨none,0,⟨hr,Nat.le_refl _⟩,.inl rfl⟩,rfl⟩
 | .sl _,d',v,e,_,hr=>by simp only[frz,Zf,jB,jh]at e;subst e;exact⟨Rep.mono j _ _ hr,rfl⟩
 | .fn f x c,d',v,e,_,hr=>by
  simp only[frz]at e;obtain⟨hi,e⟩:=Z3 e;cases e;exact⟨Rep.mono j _ _ hr,hi⟩
 | .nilfn,d',v,e,_,hr=>by simp only[frz,Zf,jB,jh]at e;subst e;exact⟨Rep.mono j _ _ hr,rfl⟩
 | .map _,d',v,e,_,hr=>by simp[frz,Zf]at e
 | .nilmap,d',v,e,_,hr=>by simp only[frz,Zf,jB,jh]at e;subst e;exact⟨Rep.mono j _ _ hr,rfl⟩
 | .nilif,d',v,e,_,hr=>by simp only[frz,Zf,jB,jh]at e;subst e;exact⟨Rep.mono j _ _ hr,rfl⟩
 | .iter _,d',v,e,_,hr=>by simp[frz,Zf]at e
 | .yld _,d',v,e,_,hr=>by simp[frz,Zf]at e
theorem Z6P {h':Nat->Option Zb} {G':Gh} (f:Ext β G β G') (a:∀i t es p u,h i=some (.row t es p u)->∃p',h' i=some (.row t es p' u)) :
  ∀{ds ds':List DV} {vs:List Value},Z1L h ds=some ds'->(∀i∈Zi ds,Z2H E β G' h' i)->Ze β G ds vs->Ze β G' ds' vs/\Zc ds'=true
 | [],ds',vs,b,_,hr=>by simp only[Z1L,jh]at b;subst b;rw[Zg]at hr;subst hr;exact⟨Zg.2 rfl,rfl⟩
 | d::ds,ds',vs,b,hs,hr=>by
  simp only[Z1L]at b;obtain⟨d1,j,b⟩:=Z0 b;obtain⟨ds1,g,b⟩:=Z0 b;cases b;obtain⟨v,vs',rfl,e,c⟩:=Za.1 hr;obtain⟨k1,k2⟩:=Z5v f a j (fun i hi=>hs i (by simp[Zi,hi])) e
  obtain⟨k3,k4⟩:=Z6P f a g (fun i hi=>hs i (by simp[Zi,hi])) c
  exact⟨Za.2 ⟨v,vs',rfl,k1,k3⟩,by simp[Zc,k2,k4]⟩
end
theorem Z26 (h:Nat->Option Zb) (is:List Nat):∀i t es p u,h i=some (.row t es p u)->∃p',Zy h (Zo h is) i=some (.row t es p' u):=fun i t es p u hi=>by
 unfold Zy;cases hq:Zq i (Zo h is)with
 | none=>exact⟨p,hi⟩
 | some y =>
  obtain⟨t',es',p',u',k1,k2⟩:=Y8 h is i y hq;rw[hi]at k1;cases k1;exact⟨_,k2⟩
theorem Z84 {nid:Nat} (is:List Nat):Z2l β β h (Zy h (Zo h is)) nid:=fun i _ a=>by
 refine⟨?_,rfl,fun _=>rfl⟩;unfold Zy;cases hq:Zq i (Zo h is)with
 | none=>exact a
 | some y =>
  obtain⟨t',es',p',u',k1,k2⟩:=Y8 h is i y hq;rw[a]at k1;cases k1
theorem Zht {h':Nat->Option Zb} {G':Gh} (hx:Ext β G β G') (f:∀i t es p u,h i=some (.row t es p u)->∃p',h' i=some (.row t es p' u)) (z:∀i t es p u,h i=some (.row t es p u)->∀c∈es,c.length=Yn E t)
  {d d':DV} {v:Value} (g:Z9s E h d=some d') (hs:∀i∈Zh d,Z2H E β G' h' i) (hr:Rep β G d v):Rep β G' d' v/\Zf d'=true:=by
 unfold Z9s at g;split at g
 ·rename_i id ver i n e;obtain⟨ob,ho,g⟩:=Z0 g;split at g
  ·rename_i t es p u;obtain⟨j,q⟩:=Z3 g;clear g;cases q;simp only[jn]at j;obtain⟨j,y⟩:=j;have j:u=ver:=je j;have y:Yn E t=e:=je y;subst j;obtain⟨p',r⟩:=f _ _ _ _ _ ho;obtain⟨hdr,h1,a,c,h2,k⟩:=hs id (by simp[Zh]) _ _ _ _ r
   obtain⟨a0,m,c0,a',c',l,rfl,s,hle,hz⟩:=Zcg.1 hr;rw[h1,h2.1]at l;cases l;have o:((es.drop i).take n).length=n:=by simp;omega
   refine⟨Z3i.2 ⟨_,c',⟨by rw[o],by rw[o];exact s⟩,?_⟩,rfl⟩
   rcases hz with hz|⟨b,w,x⟩
   ·exact .inl (by rw[hz];simp)
   rcases k with k|⟨b',k,l⟩
   ·exact .inl (by rw[k];simp)
   ·rw[w]at k;cases k;rw[y]at l;refine .inr ⟨_,i*e,e,x,?_⟩;have:=Z30 n (Z2Z i l)
    rwa [Nat.zero_add]at this
  ·cases g
 ·exact Z5v hx f g hs hr
theorem Z7B {h':Nat->Option Zb} {G':Gh} (j:Ext β G β G') (a:∀i t es p u,h i=some (.row t es p u)->∃p',h' i=some (.row t es p' u)) (e:∀i t es p u,h i=some (.row t es p u)->∀c∈es,c.length=Yn E t) :
  ∀{ds ds':List DV} {vs:List Value},Z3S E h ds=some ds'->(∀i∈Zi ds,Z2H E β G' h' i)->Ze β G ds vs->Ze β G' ds' vs/\Zc ds'=true
 | [],ds',vs,b,_,hr=>by simp only[Z3S,jh]at b;subst b;rw[Zg]at hr;subst hr;exact⟨Zg.2 rfl,rfl⟩
 | d::ds,ds',vs,b,hs,hr=>by
  simp only[Z3S]at b;obtain⟨c,l,b⟩:=Z0 b;obtain⟨cs,k,b⟩:=Z0 b;cases b;obtain⟨v,vs',rfl,g,f⟩:=Za.1 hr;obtain⟨k1,k2⟩:=Zht j a e l (fun i hi=>hs i (by simp[Zi,hi])) g
  obtain⟨k3,k4⟩:=Z7B j a e k (fun i hi=>hs i (by simp[Zi,hi])) f
  exact⟨Za.2 ⟨v,vs',rfl,k1,k3⟩,by simp[Zc,k2,k4]⟩
end
end Go.Ab
namespace Go.Ab
open Go.RowKit
section
variable {P:Program} {E:Env} {w0:World} {G0:Gh} {D:DD} {o:Oper} {a:Act} {w:World} {β:Bi} {G:Gh} {h:Nat->Option Zb} {nid:Nat} {ρ:Nat->Option DV}
theorem ZaN {α:Type} {e:Nat}:∀{es:List (List α)} (i:Nat),(∀c∈es,c.length=e)->(es.drop i).flatten=es.flatten.drop (i*e)
 | [],i,_=>by simp
 | c::es,0,_=>by simp
 | c::es,i+1,h=>by
  have hc:=h c (by simp)
  have a:c.drop ((i+1)*e)=[]:=List.drop_of_length_le (by rw[hc,Nat.add_mul];omega)
  have b:(i+1)*e-c.length=i*e:=by rw[hc,Nat.add_mul];omega
  rw[List.drop_succ_cons,ZaN i (fun x d=>h x (List.mem_cons_of_mem _ d)),List.flatten_cons,List.drop_append,a,b,List.nil_append]
theorem ZaO {α:Type} {e:Nat}:∀{es:List (List α)} (n:Nat),(∀c∈es,c.length=e)->(es.take n).flatten=es.flatten.take (n*e)
 | [],i,_=>by simp
 | c::es,0,_=>by simp
 | c::es,n+1,h=>by
  have hc:=h c (by simp)
  have a:c.take ((n+1)*e)=c:=List.take_of_length_le (by rw[hc,Nat.add_mul];omega)
  have b:(n+1)*e-c.length=n*e:=by rw[hc,Nat.add_mul];omega
  rw[List.take_succ_cons,List.flatten_cons,ZaO n (fun x d=>h x (List.mem_cons_of_mem _ d)),List.flatten_cons,List.take_append,a,b]
theorem ZgJ {e:Nat} {es:List (List DV)} {vals:List Value} (a:∀c∈es,c.length=e) (hr:Ze β G es.flatten vals) (i n:Nat):Ze β G ((es.drop i).take n).flatten ((vals.drop (i*e)).take (n*e)):=by
 rw[ZaO n (fun c hc=>a c (List.mem_of_mem_drop hc)),ZaN i a];exact Yy _ (Yx _ hr)
theorem Z3u (hh:HR E w0 G0 D w β G h) {d:DV} {es:List (List DV)} {v:Value} (a:ZT h d=some es) (hr:Rep β G d v) :
  ∃A c,v=.slice A es.length c/\es.length<=c/\(es=[]\/∃b off e vals,A=some ⟨b,off,none⟩/\(∀x∈es,x.length=e/\Zc x=true/\x.all Zw=true)/\Ze β G es.flatten vals ∧
   ∀j u,vals[j]? = some u->w.cell? ⟨b,off+j,none⟩=some u):=by
 unfold ZT at a;split at a
 ·cases a;rw[Z1o]at hr;exact⟨none,0,hr,Nat.le_refl _,.inl rfl⟩
 ·cases a;obtain⟨A,c,⟨rfl,a2⟩,q⟩:=Z3i.1 hr;refine⟨A,c,rfl,a2,?_⟩;rcases q with q|⟨b,off,e,q,s⟩
  ·exact .inl q
  ·refine .inr ⟨b,off,e,?_⟩;have key:∀(es:List (List DV)) (off:Nat),Ym β G b e off es->∃vals,(∀x∈es,x.length=e/\Zc x=true/\x.all Zw=true)/\Ze β G es.flatten vals/\∀j u,vals[j]? = some u->w.cell? ⟨b,off+j,none⟩=some u:=by
    intro es
    induction es with
    | nil=>intro off _;exact⟨[],by simp,Zg.2 rfl,by simp⟩
    | cons x xs ih =>
     intro off hp;unfold Ym at hp;obtain⟨k1,k2,k3,k4⟩:=hp;obtain⟨vs1,k5,k6⟩:=Z97 hh.agree x off k3;obtain⟨vs2,k7,k8,k9⟩:=ih (off+e) k4;refine⟨vs1++vs2,?_,?_,?_⟩
     ·intro y hy;rcases jv.1 hy with rfl|hy
      ·exact⟨k1,k2⟩
      ·exact k7 y hy
     ·rw[List.flatten_cons];exact Y2.2 ⟨_,_,rfl,k5,k8⟩
     ·intro j u l;have hl:=ZJ k5
      by_cases hlt:j<vs1.length
      ·rw[List.getElem?_append_left hlt]at l;exact k6 j u l
      ·rw[List.getElem?_append_right (by omega)]at l
       have:=k9 _ u l
       rwa [show off+e+(j-vs1.length)=off+j by omega]at this
   obtain⟨vals,k1,k2,k3⟩:=key es off s;exact⟨vals,q,k1,k2,k3⟩
 ·rename_i id ver;obtain⟨ob,ho,a⟩:=Z0 a;split at a
  ·rename_i t _ p u;obtain⟨o,r⟩:=Z3 a;clear a;cases r;have o:u=ver:=je o;subst o;obtain⟨hdr,vals,q,s,h3,h4,h5,h6,h7⟩:=hh.obj id _ ho;obtain⟨k,_⟩:=Z1i.1 hr;rw[q]at k;cases k;rcases s.2 with⟨hv,hn⟩|⟨g,cap,cur,hv,hg1,hg2,hg3,hg4,hg5,hg6⟩
   ·have z:es=[]:=List.eq_nil_of_length_eq_zero hn;exact⟨none,0,by rw[hv,z];rfl,by rw[z];exact Nat.le_refl _,.inl z⟩
   ·refine⟨_,cap,hv,hg3,.inr ⟨g,0,Yn E t,vals,rfl,h4,h3,fun j u l=>?_⟩⟩;have:=s.cells (g:=g) (by rw[hv];rfl) j u l
    rwa [Yc]at this
  ·cases a
 ·rename_i id ver i n e;obtain⟨ob,ho,a⟩:=Z0 a;split at a
  ·rename_i t es' p u;obtain⟨o,r⟩:=Z3 a;clear a;cases r;simp only[jn,List.all_eq_true]at o;obtain⟨o,f⟩:=o;have f:∀c∈es',c.length=e:=fun c hc=>je (f c hc);have o:u=ver:=je o;subst o;obtain⟨hdr,vals,q,s,h3,h4,h5,h6,h7⟩:=hh.obj id _ ho;obtain⟨a0,m,c,a',c',k,rfl,h9,a2,hz⟩:=Zcg.1 hr;rw[q]at k;have k:=Option.some.inj k;have hm:es'.length=m:=by
    rcases s.2 with⟨hv,hn⟩|⟨g,cap,cur,hv,_⟩
    ·rw[hv]at k;cases k;exact hn
    ·rw[hv]at k;cases k;rfl
   have a1:((es'.drop i).take n).length=n:=by simp;omega
   refine⟨_,c',by rw[a1],by rw[a1];exact h9,?_⟩
   rcases hz with hz|⟨b,hz1,hz2⟩
   ·exact .inl (by rw[hz];simp)
   rw[hz1]at k;refine .inr ⟨b,i*e,e,(vals.drop (i*e)).take (n*e),hz2,fun x hx=>?_,ZgJ f h3 i n,fun j u l=>?_⟩
   ·have hx:=List.mem_of_mem_drop (List.mem_of_mem_take hx);exact⟨f x hx,(h4 x hx).2⟩
   ·rw[List.getElem?_take]at l;split at l
    ·rw[List.getElem?_drop]at l;have:=s.cells (g:=b) (by rw[k];rfl) _ u l
     rw[Yc]at this
     rwa [Nat.zero_add]at this
    ·cases l
  ·cases a
 ·cases a
theorem Z53 {n:Nat} {d:DV} {i:Nat} {v:Value} (a:Z37 n d=some i) (hr:Rep β G d v):∃k,v=.int k (i:Int)/\i<n:=by
 unfold Z37 at a;split at a
 ·rename_i k x;rw[Zu]at hr;obtain⟨b,a⟩:=Z3 a;simp only[jn,jk]at b;cases a;refine⟨k,?_,by omega⟩
  rw[hr,Int.toNat_of_nonneg b.1]
 ·cases a
theorem Z58:∀{es:List (DV×DV)} {ms:List MapEntry},Z64 β G es ms->ms.length=es.length
 | [],_,h=>by simp only[Z64]at h;simp[h]
 | _::_,_,⟨m,ms',h1,_,_,_,_,h6⟩=>by subst h1;simp[Z58 h6]
theorem Zgv (hh:HR E w0 G0 D w β G h) {t:TypeId} {ti:TI} (ht:ZL P t ti) {ts:Array TypeId} (g:ts[0]? = some t) {ty:TypeId} {d r:DV} {v:Value} (f:Z5K ti.k h d=some r) (hr:Rep β G d v) :
  ∃u,(Builtin.len_ ts ty #[v]).run P w=.ok u w/\Rep β G r u:=by
 have a:=ht.desc;unfold Z5K at f;split at f<;>rename_i i
 ·cases f;rw[i]at a;rw[Yg]at hr;subst hr;exact⟨_,by simp[Builtin.len_,g,ji a,goInt],Zu.2 rfl⟩
 ·cases f;rw[i]at a;rw[Z6t]at hr;subst hr;exact⟨_,by simp[Builtin.len_,g,ji a,goInt],Zu.2 rfl⟩
 ·rename_i k e id;rw[i]at a;obtain⟨ob,o,f⟩:=Z0 f;split at f
  ·cases f;obtain⟨b,s,rfl⟩:=Z7a.1 hr;obtain⟨b',ms,clock,n,p,q⟩:=hh.obj id _ o;rw[s]at n;cases n;have m:=Z58 q.1;simp at m;exact⟨.int .i64 (ms.size:Nat),by simp[Builtin.len_,g,ji a,goInt,getObj,Sem.run,p],Zu.2 (by rw[m])⟩
  ·cases f
 ·rw[i]at a;cases f;obtain⟨A,c,rfl,_⟩:=ZdH.1 hr;exact⟨_,by simp[Builtin.len_,g,ji a,goInt],Zu.2 rfl⟩
 ·rename_i j;rw[j]at a;obtain⟨es,l,f⟩:=Z0 f;cases f;obtain⟨A,c,rfl,_,_⟩:=Z3u hh l hr;exact⟨_,by simp[Builtin.len_,g,ji a,goInt],Zu.2 rfl⟩
 ·rw[i]at a;cases f;exact⟨_,by simp[Builtin.len_,g,ji a,goInt],Zu.2 rfl⟩
 ·cases f
structure Src (P:Program) (w:World) (t t' ty e:TypeId) (i:TypeInfo) (z x:Value) (m:Nat) (news:List Value):Prop where
 none0:m=0->∀(base:Nat) (v:Value) (n:Nat) (xs:List Value),w.ownsRow base e i.size v n xs->(Builtin.append_ #[t,t'] ty #[v,x]).run P w=.ok v w
 nil:0<m->(m:Int)<=9223372036854775807->m*i.bytes<=281474976710656->(Builtin.append_ #[t,t'] ty #[.slice none 0 0,x]).run P w =
   .ok (.slice (some ⟨w.heap.size,0,none⟩) m (grownCap w m 0 e)) (w.drew.alloc (.cells (news.toArray++Builtin.zeroCells z.cells (grownCap w m 0 e-m)) e))
 fits:0<m->∀(base g n cap:Nat) (xs:List Value),w.ownsRow base e i.size (.slice (some ⟨g,0,none⟩) n cap) n xs->n+m<=cap →
  ∃w',(Builtin.append_ #[t,t'] ty #[.slice (some ⟨g,0,none⟩) n cap,x]).run P w=.ok (.slice (some ⟨g,0,none⟩) (n+m) cap) w' ∧
   w'.ownsRow base e i.size (.slice (some ⟨g,0,none⟩) (n+m) cap) (n+m) (xs++news)/\w.grownBy w' (some g)
 grow:0<m->∀(b:Addr) (sLen sCap:Nat) (olds:List Value),olds.length=sLen*i.size->(∀j v,olds[j]? = some v->w.cell? (b.add j)=some v) →
  sCap<sLen+m->((sLen+m:Nat):Int)<=9223372036854775807->Builtin.nextslicecap (sLen+m) sCap*i.bytes<=281474976710656 →
  (Builtin.append_ #[t,t'] ty #[.slice (some b) sLen sCap,x]).run P w =
   .ok (.slice (some ⟨w.heap.size,0,none⟩) (sLen+m) (grownCap w (sLen+m) sCap e))
    (w.drew.alloc (.cells (olds.toArray++news.toArray++Builtin.zeroCells z.cells (grownCap w (sLen+m) sCap e-(sLen+m))) e))
theorem Z86 {t ty e:TypeId} {i:TypeInfo} {z:Value} (ht:P.underlying t=some (.slice e)) (hi:P.info? e=some i) (hz:i.zero=some z) {A:Option Addr} {m c:Nat} {news:List Value} (q:news.length=m*i.size)
  (l:m=0\/∃b off,A=some ⟨b,off,none⟩/\∀j u,news[j]? = some u->w.cell? ⟨b,off+j,none⟩=some u) (y:∀u∈news,u.oneCell'=true) :
  Src P w t t ty e i z (.slice A m c) m news:=by
 have a:0<m->∃b off,A=some ⟨b,off,none⟩/\∀j u,news[j]? = some u->w.cell? ((⟨b,off,none⟩:Addr).add j)=some u:=fun f=>by
  obtain⟨b,off,rfl,hc⟩:=l.resolve_left (by omega)
  exact⟨b,off,rfl,fun j u hj=>by rw[Yc];exact hc j u hj⟩
 refine⟨fun f base v n xs d=>?_,fun f k p=>?_,fun f base g n cap xs d h=>?_,fun f b sLen sCap olds s ho x k o=>?_⟩
 ·subst f;rcases d.2 with⟨rfl,rfl⟩|⟨g,cap,cur,rfl,_,x,r,_,hcs,_⟩
  ·cases A<;>simp[Builtin.append_,ji ht,sizeOf,typeInfo,hi,Builtin.lenOf,Builtin.firstCells,loadCells,loadCellsFrom]
  ·cases A<;>simp[Builtin.append_,ji ht,sizeOf,typeInfo,hi,Builtin.lenOf,Builtin.firstCells,r,loadCells,loadCellsFrom,storeCells]
 ·obtain⟨b,off,rfl,hc⟩:=a f;exact run_append_nil (P:=P) w t ty e i z ht hi hz ⟨b,off,none⟩ m c news q hc f k p
 ·obtain⟨b,off,rfl,hc⟩:=a f;exact run_append_fits (P:=P) w base t ty e i i.size ht hi rfl g n cap xs d ⟨b,off,none⟩ m c news q hc y h
 ·obtain⟨b',off,rfl,hc⟩:=a f;exact run_append_grow (P:=P) w t ty e i z ht hi hz b sLen sCap olds s ho ⟨b',off,none⟩ m c news q hc x k o
theorem Zj6 {t t' ty e:TypeId} {i:TypeInfo} {z:Value} (ht:P.underlying t=some (.slice e)) (j:P.underlying t'=some .string) (hi:P.info? e=some i) (hz:i.zero=some z) (s:ByteArray) (u:0<s.size->i.size=1) :
  Src P w t t' ty e i z (.string s) s.size (Lib.strCells s):=by
 refine⟨fun f base v n xs a=>?_,fun f d k=>?_,fun f base g n cap xs a c=>?_,fun f b sLen sCap olds o r p d h=>?_⟩
 ·have l:s=.empty:=ByteArray.ext (Array.eq_empty_of_size_eq_zero f);subst l;rcases a.2 with⟨rfl,rfl⟩|⟨g,cap,cur,rfl,_,p,m,_,hcs,_⟩
  ·simp[Builtin.append_,ji ht,ji j,sizeOf,typeInfo,hi,Builtin.lenOf,Builtin.firstCells]
  ·simp[Builtin.append_,ji ht,ji j,sizeOf,typeInfo,hi,Builtin.lenOf,Builtin.firstCells,m,storeCells]
 ·have:=run_append_nil_string (P:=P) w t t' ty e i z ht j hi hz s f d k;have e1:(Lib.strCells s).toArray=s.data.map fun b=>Value.int .u8 b.toNat:=by
   apply Array.ext';simp[Lib.strCells]
  rw[e1];exact this
 ·have q:=u f;rw[q]at a⊢;obtain⟨w',k1,k2,k3⟩:=Lib.run_append_fits_string (P:=P) w base t t' ty e i ht j hi q (some ⟨g,0,none⟩) n cap xs a s (by omega) c
  exact⟨w',k1,k2,k3⟩
 ·exact Lib.run_append_grow_string (P:=P) w t t' ty e i z ht j hi hz b sLen sCap olds o r s p d h
theorem Z69 {base:Nat} {t t' ty e:TypeId} {ti:TI} {i:TypeInfo} {z:Value} (hi:P.info? e=some i) (hs:i.size=ti.size) (o:i.bytes=ti.bytes) (hz:i.zero=some z) (p:z.cells.size=ti.size) {v:Value} {n:Nat} {xs:List Value}
  (a:w.ownsRow base e ti.size v n xs) {x:Value} {m:Nat} {news:List Value} (h:news.length=m*ti.size) (c:Src P w t t' ty e i z x m news)
  (hb:(n+m)*(ti.bytes+1)<=200000000000000) (hby2:ti.bytes<=100000000000) (d:base<=w.heap.size) :
  ∃v' w' row,(Builtin.append_ #[t,t'] ty #[v,x]).run P w=.ok v' w'/\w'.ownsRow base e ti.size v' (n+m) (xs++news)/\w.grownBy w' row ∧
   (row=none/\(v'.ownBlock=some w.heap.size\/v'=v)\/row=v.ownBlock/\v'.ownBlock=v.ownBlock):=by
 have hn1:n+m<=200000000000000:=by
  have:=Nat.le_mul_of_pos_right (n+m) (show 0<ti.bytes+1 by omega)
  omega
 have hn2:(n+m)*ti.bytes<=200000000000000:=by
  have:=Nat.mul_le_mul_left (n+m) (show ti.bytes<=ti.bytes+1 by omega)
  omega
 have f:(n+m+(n+m) / 4+192)*i.bytes<=281474976710656:=by
  rw[o];have h1:=Nat.mul_le_mul_right ti.bytes (Nat.div_mul_le_self (n+m) 4);have h2:(n+m) / 4*4*ti.bytes=(n+m) / 4*ti.bytes*4:=by rw[Nat.mul_assoc,Nat.mul_comm 4,Nat.mul_assoc]
  rw[h2]at h1;rw[Nat.add_mul,Nat.add_mul];omega
 have b:=a;rw[<-hs]at b
 by_cases hm:m=0
 ·subst hm;have r:news=[]:=List.eq_nil_of_length_eq_zero (by simpa using h)
  subst r;exact⟨v,w,none,c.none0 rfl base v n xs b,by simpa using a,World.grownBy.refl w _,.inl ⟨rfl,.inr rfl⟩⟩
 ·have j:0<m:=by omega
  have y:((n+m:Nat):Int)<=9223372036854775807:=by omega
  rcases a.2 with⟨rfl,rfl⟩|⟨g,cap,cur,rfl,hgb,hg,hnc,hcm,hcs,a0⟩
  ·have s:xs=[]:=List.eq_nil_of_length_eq_zero (by simpa using a.1)
   subst s;have hr:=c.nil j (by omega) (by rw[o];simp at hn2;omega)
   have l:=grownCap_ge w m 0 e;refine⟨_,_,none,hr,⟨by simpa using h,.inr ⟨w.heap.size,_,_,by rw[Nat.zero_add],d,heap_alloc_new w.drew _,by omega,grownCap_le_maxLen w m 0 e (by simp only[maxLen];omega),?_,?_⟩⟩,?_,.inl ⟨rfl,.inl rfl⟩⟩
   ·simp only[Array.size_append,List.size_toArray,size_zeroCells,h,p];rw[<-Nat.add_mul];congr 1;omega
   ·simp only[Array.toList_append,List.nil_append,Nat.zero_add];rw[<-h];simp
   ·exact⟨rfl,rfl,rfl,by simp,fun k u _=>Below.heap_alloc w.drew _ k u⟩
  ·by_cases hroom:n+m<=cap
   ·obtain⟨w',hr,ho,a1⟩:=c.fits j base g n cap xs b hroom;exact⟨_,w',_,hr,by rw[<-hs];exact ho,a1,.inr ⟨rfl,rfl⟩⟩
   ·have q:xs.length=n*i.size:=by rw[hs];exact a.1
    have hxc:=a.cells (g:=g) rfl;have hr:=c.grow j ⟨g,0,none⟩ n cap xs q hxc (by omega) y (growslice_fits_wide (by omega) f)
    have l:=grownCap_ge w (n+m) cap e;refine⟨_,_,none,hr,⟨by rw[List.length_append,a.1,h,Nat.add_mul],.inr ⟨w.heap.size,_,_,rfl,d,heap_alloc_new w.drew _,l,grownCap_le_maxLen w (n+m) cap e (by simp only[maxLen];omega),?_,?_⟩⟩,?_,.inl ⟨rfl,.inl rfl⟩⟩
    ·simp only[Array.size_append,List.size_toArray,size_zeroCells,h,a.1,p];rw[<-Nat.add_mul,<-Nat.add_mul];congr 1;omega
    ·simp only[Array.toList_append];rw[Nat.add_mul,<-a.1,<-h];exact List.take_left' (by simp)
    ·exact⟨rfl,rfl,rfl,by simp,fun k u _=>Below.heap_alloc w.drew _ k u⟩
end
end Go.Ab
namespace Go.Ab
open Go.RowKit
section
variable {P:Program} {E:Env} {w0:World} {G0:Gh} {D:DD} {o:Oper} {a:Act} {w:World} {β:Bi} {G:Gh} {h:Nat->Option Zb} {nid:Nat} {ρ:Nat->Option DV}
theorem Z3Q {t:TypeId} {ti:TI} (ht:E.ty t=some ti):Yn E t=ti.size:=by simp[Yn,ht]
theorem Z3e {id:Nat} {t:TypeId} {es:List (List DV)} {p u:Nat} {hdr:Value} (d:β.hdr id u=some hdr) {base e:Nat} {n:Nat} {xs:List Value} {size:Nat} (f:w.ownsRow base e size hdr n xs) (b:Nat) :
  Yf β id (.row t es p u) b↔hdr.ownBlock=some b:=by
 constructor
 ·rintro⟨n',c,a⟩;rw[d]at a;cases a;rfl
 ·intro a;obtain⟨c,hc⟩:=Z3I f a;exact⟨n,c,by rw[d,hc]⟩
def Y7 (β:Bi) (id u:Nat) (v:Value):Bi:={ β with hdr:=fun i x=>if i=id/\x=u then some v else β.hdr i x }
theorem Z6x {id u:Nat} {v:Value} (a:β.hdr id u=none):Ext β G (Y7 β id u v) G :=
 ⟨fun _ _ _ h=>h,fun _ _ h=>h,fun i x y hy=>by
  by_cases e:i=id/\x=u
  ·obtain⟨rfl,rfl⟩:=e;rw[a]at hy;cases hy
  ·simp[Y7,e,hy]⟩
theorem Z8V (hh:HR E w0 G0 D w β G h) (hf:ZE β h nid) {w':World} {hdr:Value} {t:TypeId} {es:List (List DV)} {vals:List Value}
  (p:w.grownBy w' none) (d:w'.ownsRow w0.heap.size t (Yn E t) hdr es.length vals) (j:∀b,hdr.ownBlock=some b->w.heap.size<=b) (s:∃a n c,hdr=.slice a n c)
  (hr:Ze β G es.flatten vals) (r:∀c∈es,c.length=Yn E t/\Zc c=true/\c.all Zw=true) (z:0<Yn E t) :
  ∃β',Ext β G β' G/\Rep β' G (.rs nid 0) hdr/\HR E w0 G0 D w' β' G (Zy h [(nid,some (.row t es 0 0))])/\Z2l β β' h (Zy h [(nid,some (.row t es 0 0))]) nid:=by
 have q:Ext β G (Y7 β nid 0 hdr) G:=Z6x (hf.hdr 0);have g:(Y7 β nid 0 hdr).hdr nid 0=some hdr:=by simp[Y7]
 refine⟨Y7 β nid 0 hdr,q,Z1i.2 ⟨g,s⟩,?_,?_⟩
 ·refine hh.move (fun b=>w.heap.size<=b) nid _ q (hh.below.grown p hh.below.size (fun _ e=>by cases e)) (fun b f l=>p.block b l (by simp)) (fun _ _=>rfl) p.size ?_ ?_ ?_ ?_ ?_ ?_ ?_
  ·intro b f;refine⟨Nat.le_trans hh.below.size f,hh.dfree f⟩
  ·intro b id' o2 f y x;have:=(hh.own id' o2 _ y x).2.1;omega
  ·intro b f o v k;rw[glt hh f]at k;cases k
  ·refine⟨hdr,vals,g,d,Ze.mono q _ _ hr,r,⟨z,Z9Q _ _⟩,fun b f o _=>?_,fun u' hu'=>?_⟩
   ·exact glt hh (j b f) o
   ·have:¬u'=0:=by omega
    simp only[Y7,this,and_false,if_false];exact hf.hdr u'
  ·intro b f;rw[Z3e g d]at f;left;exact j b f
  ·intro b f;rw[Z3e g d]at f;exact(d.lt b f).2
  ·intro i hi;exact⟨rfl,fun u=>by simp[Y7,hi]⟩
 ·intro i hi m;exact⟨by rw[Zz,if_neg hi];exact m,rfl,fun u=>by simp[Y7,hi]⟩
theorem ZdL (hh:HR E w0 G0 D w β G h) {id:Nat} {w':World} {v v':Value} {row:Option Nat} {t:TypeId} {es xs:List (List DV)} {p u:Nat} {vals news:List Value}
  (ho:h id=some (.row t es p u)) (hv:β.hdr id u=some v) (j:w.ownsRow w0.heap.size t (Yn E t) v es.length vals) (hrep:Ze β G es.flatten vals)
  (hg:w.grownBy w' row) (f:w'.ownsRow w0.heap.size t (Yn E t) v' (es.length+xs.length) (vals++news))
  (r:row=none/\(v'.ownBlock=some w.heap.size\/v'=v)\/row=v.ownBlock/\v'.ownBlock=v.ownBlock)
  (hn:Ze β G xs.flatten news) (hxs:∀c∈xs,c.length=Yn E t/\Zc c=true/\c.all Zw=true) :
  ∃β',Ext β G β' G/\Rep β' G (.rs id (u+1)) v'/\HR E w0 G0 D w' β' G (Zy h [(id,some (.row t (es++xs) p (u+1)))])/\Z2l β β' h (Zy h [(id,some (.row t (es++xs) p (u+1)))]) nid:=by
 obtain⟨hdr,vals',h1,h2,h3,h4,h5,h6,h7⟩:=hh.obj id _ ho;rw[hv]at h1;cases h1;have hx:Ext β G (Y7 β id (u+1) v') G:=Z6x (h7 (u+1) (by omega))
 have z:(Y7 β id (u+1) v').hdr id (u+1)=some v':=by simp[Y7]
 have hsl:∃a n c,v'=.slice a n c:=by
  rcases f.2 with⟨e,_⟩|⟨g,cap,cur,e,_⟩<;>exact⟨_,_,_,e⟩
 have l:∀b,row=some b->v.ownBlock=some b:=fun b d=>by
  rcases r with⟨e,_⟩|⟨e,_⟩
  ·rw[e]at d;cases d
  ·rw[<-e];exact d
 have a0:∀b,v'.ownBlock=some b->b=w.heap.size\/v.ownBlock=some b:=fun b d=>by
  rcases r with⟨_,e|e⟩|⟨_,e⟩
  ·rw[e]at d;cases d;exact .inl rfl
  ·subst e;exact .inr d
  ·right;rw[<-e];exact d
 refine⟨Y7 β id (u+1) v',hx,Z1i.2 ⟨z,hsl⟩,?_,?_⟩
 ·refine hh.move (fun b=>w.heap.size<=b\/row=some b) id _ hx (hh.below.grown hg hh.below.size (fun k e=>(j.lt k (l k e)).1))
   (fun b d y=>hg.block b y (fun e=>d (.inr e.symm))) (fun _ _=>rfl) hg.size ?_ ?_ ?_ ?_ ?_ ?_ ?_
  ·rintro b (d|d)
   ·refine⟨Nat.le_trans hh.below.size d,hh.dfree d⟩
   ·have q:Yf β id (.row t es p u) b:=(Z3e hv j b).2 (l b d);exact⟨(hh.own id _ b ho q).1,(hh.own id _ b ho q).2.2⟩
  ·rintro b id' o2 (d|d) ho2 q
   ·have:=(hh.own id' o2 _ ho2 q).2.1;omega
   ·exact hh.inj id' id o2 _ b ho2 ho q ((Z3e hv j b).2 (l b d))
  ·rintro b (d|d) off x s
   ·rw[glt hh d]at s;cases s
   ·have o:=l b d;have hv'b:v'.ownBlock=some b:=by
     rcases r with⟨e,_⟩|⟨_,e⟩
     ·rw[e]at d;cases d
     ·rw[e];exact o
    have m:off<vals.length:=by
     have y:off<pn p es.length*Yn E t:=by
      rcases Nat.lt_or_ge off (pn p es.length*Yn E t)with y|hge
      ·exact y
      ·rw[h6 b o off hge]at s;cases s
     have:=Nat.mul_le_mul_right (Yn E t) h5.2;rw[j.1];omega
    have hc:=j.cells o off (vals[off]) (by simp[m])
    rw[Yc,Nat.zero_add]at hc;have:=hh.agree b off x s;rw[hc]at this;cases this;have hc':=f.cells hv'b off (vals[off]) (by rw[List.getElem?_append_left m];simp[m])
    rwa [Yc,Nat.zero_add]at hc'
  ·refine⟨v',vals++news,z,by rw[List.length_append];exact f,?_,?_,⟨h5.1,Z9Q _ _⟩,?_,?_⟩
   ·rw[List.flatten_append];exact Y2.2 ⟨_,_,rfl,Ze.mono hx _ _ hrep,Ze.mono hx _ _ hn⟩
   ·intro c hc;rcases List.mem_append.1 hc with hc|hc
    ·exact h4 c hc
    ·exact hxs c hc
   ·intro b d off m;rcases a0 b d with rfl|o
    ·exact glt hh (Nat.le_refl _) off
    ·exact h6 b o off (Nat.le_trans (Nat.mul_le_mul_right _ (ZiZ p (by rw[List.length_append];omega))) m)
   ·intro u' hu';have:¬u'=u+1:=by omega
    simp only[Y7,this,and_false,if_false];exact h7 u' (by omega)
  ·intro b d;rw[Z3e z f]at d;rcases a0 b d with rfl|o
   ·exact .inl (.inl (Nat.le_refl _))
   ·exact .inr ⟨_,ho,(Z3e hv j b).2 o⟩
  ·intro b d;rw[Z3e z f]at d;exact(f.lt b d).2
  ·intro i hi;exact⟨rfl,fun x=>by simp[Y7,hi]⟩
 ·intro i hi hfr;have hne:i≠id:=by rintro rfl;rw[hfr]at ho;cases ho
  exact⟨by rw[Zz,if_neg hne];exact hfr,rfl,fun x=>by simp[Y7,hne]⟩
theorem Z9p {e:Nat}:∀{xs:List (List DV)},(∀c∈xs,c.length=e)->xs.flatten.length=xs.length*e
 | [],_=>by simp
 | y::ys,h=>by
  have ih:=Z9p (xs:=ys) (fun c hc=>h c (by simp[hc]))
  rw[List.flatten_cons,List.length_append,ih,h y (by simp),List.length_cons,Nat.add_mul,Nat.one_mul,Nat.add_comm]
theorem Z6A (hE:∀t ti,E.ty t=some ti->ZL P t ti) (hh:HR E w0 G0 D w β G h) (hf:ZE β h nid) {t t' ty:TypeId} {ds dx:DV} {s x:Value} (hs:Rep β G ds s) (hx:Rep β G dx x) {r:Out}
  (f:Z29 E nid h t t' ds dx=some r) :
  ∃v w' β',(Builtin.append_ #[t,t'] ty #[s,x]).run P w=.ok v w'/\(∀d,r.val=some d->Rep β' G d v)/\Ext β G β' G/\HR E w0 G0 D w' β' G (Zy h r.upd)/\Z2l β β' h (Zy h r.upd) nid:=by
 unfold Z29 at f;obtain⟨ti,hti,f⟩:=Z0 f;have htd:=(hE t ti hti).desc;split at f
 ·rename_i e hk;rw[hk]at htd;obtain⟨ei,hei,f⟩:=Z0 f;obtain⟨xs,j,f⟩:=Z0 f;have m:=(Z3 f).1;replace f:=(Z3 f).2;simp only[jn]at m;have hby2:=jf m.2;have m:0<ei.size:=jf m.1;have k:=Z3Q hei;obtain⟨i,z,hi,hs',hby,hz,hzs,_⟩:=(hE e ei hei).info;have q:∀{xs:List (List DV)},(xs.all fun c=>Nat.beq c.length ei.size)=true->∀c∈xs,c.length=ei.size:=fun h c hc=>je (List.all_eq_true.1 h c hc)
  have src:(xs.all fun c=>Nat.beq c.length ei.size)=true->∃news,news.length=xs.length*ei.size/\Ze β G xs.flatten news/\Src P w t t' ty e i z x xs.length news/\(∀c∈xs,Zc c=true/\c.all Zw=true):=fun a1=>by
   unfold Z8g at j;cases htt:Nat.beq t t' with
   | true =>
    rw[htt]at j;obtain rfl:=je htt;obtain⟨A,c,rfl,_,hsrc⟩:=Z3u hh j hx;rcases hsrc with rfl|⟨b,off,e',vals,hA,h1,h2,h3⟩
    ·exact⟨[],by simp,Zg.2 rfl,Z86 htd hi hz (by simp) (.inl rfl) (by simp),by simp⟩
    ·have hfl:xs.flatten.length=xs.length*ei.size:=Z9p (q a1);have hvl:vals.length=xs.length*ei.size:=by rw[ZJ h2,hfl]
     refine⟨vals,hvl,h2,Z86 htd hi hz (by rw[hs'];exact hvl) (.inr ⟨b,off,hA,h3⟩) (Z4v ?_ h2),fun c hc=>(h1 c hc).2⟩
     rw[List.all_eq_true];intro y hy;obtain⟨c,hc,hy⟩:=List.mem_flatten.1 hy;exact List.all_eq_true.1 (h1 c hc).2.2 y hy
   | false =>
    rw[htt]at j;simp only[jA]at j;split at j
    ·rename_i s0 _ _;obtain⟨ti',hti',j⟩:=Z0 j;have htd':=(hE t' ti' hti').desc;split at j
     ·rename_i hk';rw[hk']at htd';cases j;rw[Yg]at hx;subst hx;have a0:(Z6a s0).length=s0.size:=by simp[Z6a]
      have hsz:0<s0.size->ei.size=1:=fun h0=>by
       have hb:0<(Z6a s0).length:=by rw[a0];exact h0
       have h1:=q a1 _ (jl hb);rw[<-h1];simp[Z6a]
      have hsl:(Lib.strCells s0).length=(Z6a s0).length*ei.size:=by
       rw[a0,Lib.strCells_length]
       by_cases h0:0<s0.size
       ·rw[hsz h0];omega
       ·have:s0.size=0:=by omega
        rw[this];omega
      have hrep:∀l:List UInt8,Ze β G (l.map fun b=>[DV.int .u8 b.toNat]).flatten (l.map fun b=>Value.int .u8 b.toNat):=fun l=>by
       induction l with
       | nil=>exact Zg.2 rfl
       | cons b l ih=>exact Za.2 ⟨_,_,rfl,Zu.2 rfl,ih⟩
      refine⟨Lib.strCells s0,hsl,by simpa[Z6a,Lib.strCells]using hrep s0.data.toList,by rw[a0];exact Zj6 htd htd' hi hz s0 (fun h0=>by rw[hs'];exact hsz h0),fun c hc=>?_⟩
      obtain⟨b,_,rfl⟩:=List.mem_map.1 hc;exact⟨rfl,rfl⟩
     ·cases j
    ·cases j
  cases ds with
  | nils =>
   simp only at f;rw[Z1o]at hs;subst hs;split at f
   ·cases f;refine⟨.slice none 0 0,w,β,?_,fun d f=>by cases f;exact Z1o.2 rfl,Ext.refl β G,by rw[Ze8];exact hh,Z2l.refl β h nid⟩
    obtain⟨news,k1,k2,k3,k4⟩:=src rfl;exact k3.none0 rfl 0 _ 0 [] ⟨by simp,.inl ⟨rfl,rfl⟩⟩
   ·skip
    obtain⟨hq,hdx⟩:=Z3 f;clear f;cases hdx;simp only[jn]at hq;obtain⟨news,k1,k2,k3,k5⟩:=src hq.1;have hown:w.ownsRow w0.heap.size e ei.size (.slice none 0 0) 0 []:=⟨by simp,.inl ⟨rfl,rfl⟩⟩
    have hle:=jf hq.2;obtain⟨v',w',row,hr,a2,hg,o⟩:=Z69 (P:=P) (ty:=ty) hi hs' hby hz hzs hown k1 k3 (by rw[Nat.zero_add];exact hle) hby2 hh.below.size
    rw[Nat.zero_add,List.nil_append]at a2;have hg':w.grownBy w' none:=by
     rcases o with⟨e1,_⟩|⟨e1,_⟩<;>rw[e1]at hg<;>exact hg
    have hb:∀b,v'.ownBlock=some b->b=w.heap.size:=fun b hb=>by
     rcases o with⟨_,e1|e1⟩|⟨_,e1⟩
     ·rw[e1]at hb;cases hb;rfl
     ·rw[e1]at hb;cases hb
     ·rw[e1]at hb;cases hb
    have hsl:∃a n c,v'=.slice a n c:=by
     rcases a2.2 with⟨e1,_⟩|⟨g,cap,cur,e1,_⟩<;>exact⟨_,_,_,e1⟩
    obtain⟨β',m1,m2,m3,m4⟩:=Z8V hh hf hg' (by rw[k];exact a2) (fun b hq=>Nat.le_of_eq (hb b hq).symm) hsl k2 (fun c hc=>⟨by rw[k];exact q hq.1 c hc,(k5 c hc).1,(k5 c hc).2⟩) (by rw[k];exact m)
    exact⟨v',w',β',hr,fun d f=>by cases f;exact m2,m1,m3,m4⟩
  | rs id ver =>
   simp only at f;obtain⟨ob,ho,f⟩:=Z0 f;split at f
   ·rename_i e' es p u;obtain⟨hq,hd2⟩:=Z3 f;clear f;cases hd2;simp only[jn]at hq;obtain⟨⟨⟨hu,he⟩,a1⟩,hle⟩:=hq;have hu:u=ver:=je hu;have he:e'=e:=je he;subst hu he;obtain⟨news,k1,k2,k3,k5⟩:=src a1;obtain⟨hv,_⟩:=Z1i.1 hs;obtain⟨hdr,vals,h1,h2,h3,h4,h5,h6,h7⟩:=hh.obj id _ ho;rw[hv]at h1;cases h1;have h2':=h2;rw[k]at h2';obtain⟨v',w',row,hr,a2,hg,o⟩:=Z69 (P:=P) (ty:=ty) hi hs' hby hz hzs h2' k1 k3 (jf hle) hby2 hh.below.size;obtain⟨β',m1,m2,m3,m4⟩:=ZdL (nid:=nid) (xs:=xs) (news:=news) hh ho hv h2 h3 hg (by rw[k];exact a2) o k2 (fun c hc=>⟨by rw[k];exact q a1 c hc,(k5 c hc).1,(k5 c hc).2⟩)
    exact⟨v',w',β',hr,fun d f=>by cases f;exact m2,m1,m3,m4⟩
   ·cases f
  | _=>cases f
 ·cases f
end
end Go.Ab
namespace Go.Ab
open Go.RowKit
section
variable {P:Program} {E:Env} {w0:World} {G0:Gh} {D:DD} {o:Oper} {a:Act} {w:World} {β:Bi} {G:Gh} {h:Nat->Option Zb} {nid:Nat} {ρ:Nat->Option DV}
theorem Z9m {size:Nat}:∀(ps:List (Nat×Value)) (k:Nat) (base:Array Value),(∀j p,ps[j]? = some p->p.1=k+j/\p.2.cells.size=size)->(k+ps.length)*size<=base.size →
  ∃out,Instr.fill (fun i=>some (i*size,size)) base ps=some out/\out.size=base.size/\out.toList.take ((k+ps.length)*size)=base.toList.take (k*size)++ps.flatMap (fun p=>p.2.cells.toList)
 | [],k,base,_,_=>⟨base,rfl,rfl,by simp⟩
 | (i,v)::ps,k,base,hp,hs=>by
  obtain⟨g,d⟩:=hp 0 (i,v) rfl;simp only[Nat.add_zero]at g d;subst g;have e:(i+((i,v)::ps).length)*size=i*size+size+ps.length*size:=by
   simp only[List.length_cons];rw[show i+(ps.length+1)=i+1+ps.length by omega,Nat.add_mul,Nat.add_mul,Nat.one_mul]
  have a:=Z4i v.cells (i*size) base (by rw[d];omega)
  obtain⟨out,h,n,o⟩:=Z9m ps (i+1) (v.cells.zipIdx.foldl (fun cs (c,j)=>cs.setIfInBounds (i*size+j) c) base)
   (fun j p m=>by
    obtain⟨k1,k2⟩:=hp (j+1) p (by simpa using m)
    exact⟨by omega,k2⟩)
   (by
    have b:(v.cells.zipIdx.foldl (fun cs (c,j)=>cs.setIfInBounds (i*size+j) c) base).size=base.size:=by
     rw[<-Array.length_toList,a];simp;omega
    rw[b,Nat.add_mul,Nat.add_mul,Nat.one_mul];omega)
  have b:(v.cells.zipIdx.foldl (fun cs (c,j)=>cs.setIfInBounds (i*size+j) c) base).size=base.size:=by
   rw[<-Array.length_toList,a];simp;omega
  refine⟨out,?_,n.trans b,?_⟩
  ·have l:(v.cells.size≠size||i*size+v.cells.size>base.size)=false:=by simp;omega
   simp only[Instr.fill,l,jg,if_false];exact h
  ·rw[show i+((i,v)::ps).length=i+1+ps.length by simp;omega,o,a]
   have f:(base.toList.take (i*size)).length=i*size:=by simp;omega
   rw[Nat.add_mul,Nat.one_mul,jj];simp only[List.flatMap_cons,<-jj];congr 1;rw[jj,List.take_append,f,List.take_of_length_le (by rw[f];omega),show i*size+size-i*size=size by omega,List.take_append]
   simp[d];exact List.take_of_length_le (by simp[d])
theorem Z7e (d:DV):Zi (cellsOf d)=Zh d:=by
 cases d<;>simp[cellsOf,Zh,Zi]
theorem Z8B {h':Nat->Option Zb} {G':Gh} (g:Ext β G β G') (b:∀i t es p u,h i=some (.row t es p u)->∃p',h' i=some (.row t es p' u)) {size:Nat} :
  ∀{ds:List (Nat×DV)} {ps:List (Nat×Value)} {k:Nat} {es:List (List DV)},Z4Q β G ds ps->(∀i∈Zi (ds.map (·.2)),Z2H E β G' h' i)->Z5Y h size k ds=some es →
   Ze β G' es.flatten (ps.flatMap fun p=>p.2.cells.toList)/\(∀c∈es,c.length=size/\Zc c=true/\c.all Zw=true)/\es.length=ps.length/\∀j p,ps[j]? = some p->p.1=k+j/\p.2.cells.size=size
 | [],ps,k,es,hp,_,a=>by
  simp only[Z4Q]at hp;subst hp;simp only[Z5Y,jh]at a;subst a;exact⟨Zg.2 rfl,by simp,rfl,by simp⟩
 | (i,d)::ds,_,k,es,⟨v,ps',hps,hv,hp⟩,hs,a=>by
  subst hps;simp only[Z5Y]at a;obtain⟨m,a⟩:=Z3 a;simp only[jn]at m;obtain⟨c,hc,a⟩:=Z0 a;obtain⟨l,a⟩:=Z3 a;obtain⟨r,hr,a⟩:=Z0 a;cases a;have hi:i=k:=je m.1;have o:(cellsOf d).length=size:=je m.2;subst hi;have f:=Z3Z hv;obtain⟨k1,k2⟩:=Z6P (E:=E) g b hc (fun j e=>hs j (by rw[Z7e]at e;simp[Zi,e])) f
  obtain⟨m1,m2,m3,m4⟩:=Z8B g b hp (fun j e=>hs j (by simp[Zi,e])) hr
  have n:c.length=size:=by have:=ZJ k1;have:=ZJ f;omega
  refine⟨?_,?_,by simp[m3],?_⟩
  ·rw[List.flatten_cons,List.flatMap_cons];exact Y2.2 ⟨_,_,rfl,k1,m1⟩
  ·intro x g;rcases jv.1 g with rfl|g
   ·exact⟨n,k2,l⟩
   ·exact m2 x g
  ·intro j p e;cases j with
   | zero =>
    simp at e;subst e;have:=ZJ f;refine⟨by simp,?_⟩
    show v.cells.size=size;rw[<-o,<-this];simp
   | succ j =>
    obtain⟨n1,n2⟩:=m4 j p (by simpa using e)
    exact⟨by omega,n2⟩
theorem Zak {id:Nat} {x:Option Zb} {us:List (Nat×Option Zb)} (a:Zq id us=none) (i:Nat):Zy h ((id,x)::us) i=Zy (Zy h us) [(id,x)] i:=by
 rw[Zbq,Zz];unfold Zy
 by_cases e:i=id
 ·subst e;rw[a]
 ·simp only[e,if_false]<;>(cases Zq i us<;>rfl)
theorem Z7u (hE:∀t ti,E.ty t=some ti->ZL P t ti) (hf:FrM β G ρ a.tmps) (hh:HR E w0 G0 D w β G h) (o:ZE β h nid) {t:TypeId} {n:Nat} {ps:Array (Nat×Operand)} {r:Out}
  (f:Zx E nid ρ h (.buildSlice t n ps)=some r) :
  ∃v w' β' G',(Instr.buildSlice t n (ps.map fun(i,x)=>(i,a.eval x))).run P w=.ok v w'/\(∀d,r.val=some d->Rep β' G' d v)/\Ext β G β' G'/\HR E w0 G0 D w' β' G' (Zy h r.upd)/\Z2l β β' h (Zy h r.upd) nid:=by
 simp only[Zx]at f;obtain⟨ti,b6,f⟩:=Z0 f;have s:=(hE t ti b6).desc;split at f
 ·rename_i e hk;rw[hk]at s;obtain⟨ei,a7,f⟩:=Z0 f;obtain⟨vs,b3,f⟩:=Z0 f;obtain⟨es,b2,f⟩:=Z0 f;obtain⟨u,f⟩:=Z3 f;cases f;simp only[jn]at u;obtain⟨⟨j,a2⟩,g⟩:=u;have j:es.length=n:=je j;have a2:n*ei.size<=1048576:=jf a2;have g:0<ei.size:=jf g;have l:=Z3Q a7;have b1:=Z7M hf b3;obtain⟨G1,a4,a9,b0⟩:=Z1I hh (Zi (vs.map (·.2)));obtain⟨k1,k2,k3,k4⟩:=Z8B (E:=E) a4 (Z26 h _) b1 b0 b2;have a8:(ps.map fun(i,x)=>(i,a.eval x)).toList=ps.toList.map fun(i,x)=>(i,a.eval x):=by simp
  obtain⟨ie,z,hi,q,hby,hz,hzs,_⟩:=(hE e ei a7).info;have k:Zq nid (Zo h (Zi (vs.map (·.2))))=none:=by
   cases u:Zq nid (Zo h (Zi (vs.map (·.2))))with
   | none=>rfl
   | some y =>
    obtain⟨t',es',p',u',m1,_⟩:=Y8 h _ nid y u;rw[o.h]at m1;cases m1
  have a0:ZE β (Zy h (Zo h (Zi (vs.map (·.2))))) nid:=by
   refine⟨o.blk,o.hdr,?_⟩;unfold Zy;rw[k];exact o.h
  have a1:∃cells:Array Value,(Instr.buildSlice t n (ps.map fun(i,x)=>(i,a.eval x))).run P w=.ok (.slice (some ⟨w.heap.size,0,none⟩) n n) (w.alloc (.cells cells e))/\cells.size=n*ei.size ∧
    cells.toList=(ps.toList.map fun(i,x)=>(i,a.eval x)).flatMap fun p=>p.2.cells.toList:=by
   have m:(ps.toList.map fun(i,x)=>(i,a.eval x)).length=n:=by rw[List.length_map]at k3⊢;omega
   obtain⟨out,n1,n2,n3⟩:=Z9m (size:=ei.size) (ps.toList.map fun(i,x)=>(i,a.eval x)) 0 ((Array.range (n*ei.size)).map (z.cells[· % z.cells.size]!)) (by simpa using k4) (by rw[m];simp)
   have a6:out.size=n*ei.size:=by rw[n2];simp
   have b4:out.toList=(ps.toList.map fun(i,x)=>(i,a.eval x)).flatMap fun p=>p.2.cells.toList:=by
    rw[Nat.zero_add,m,List.take_of_length_le (by rw[Array.length_toList,a6];exact Nat.le_refl _)]at n3
    simpa using n3
   by_cases h0:n*ei.size=0
   ·have b8:n=0:=by
     rcases Nat.mul_eq_zero.1 h0 with e1|e1
     ·exact e1
     ·omega
    subst b8;have b5:ps.toList=[]:=by
     have:ps.toList.length=0:=by simpa using m
     exact List.eq_nil_of_length_eq_zero this
    have b7:ps = #[]:=by simpa using b5
    subst b7;refine⟨#[],?_,by simp,by simp⟩
    simp[Instr.buildSlice,ji s,sizeOf,typeInfo,hi,Instr.fill,newRow];congr 2;apply Array.ext';simp
   ·refine⟨out,?_,a6,b4⟩;refine run_buildSlice w t e n _ out ie z s hi hz (by rw[q];omega) (by rw[q];exact h0) ?_
    rw[a8,q];exact n1
  obtain⟨cells,hr,hcs,b9⟩:=a1;have a5:n<=maxLen:=by
   have:n<=n*ei.size:=Nat.le_mul_of_pos_right n g;simp only[maxLen];omega
  have a3:(w.alloc (.cells cells e)).ownsRow w0.heap.size e (Yn E e) (.slice (some ⟨w.heap.size,0,none⟩) n n) es.length cells.toList:=by
   rw[l,j];exact World.ownsRow_lit w cells n hh.below.size a5 hcs
  rw[<-b9]at k1;obtain⟨β',m1,m2,m3,m4⟩:=Z8V (nid:=nid) a9 a0 (World.grownBy_alloc w _ none) a3 (by intro b hb;cases hb;exact Nat.le_refl _) ⟨_,_,_,rfl⟩ k1 (fun c hc=>by rw[l];exact k2 c hc) (by rw[l];exact g)
  refine⟨_,_,β',G1,hr,fun d f=>by cases f;exact m2,a4.trans m1,m3.eq (Zak k),fun i hi u=>?_⟩
  obtain⟨q1,q2,q3⟩:=m4 i hi (Z84 (β:=β) (nid:=nid) _ i hi u).1;exact⟨by rw[Zak k];exact q1,q2,q3⟩
 ·cases f
end
end Go.Ab
namespace Go.Ab
open Go.RowKit
section
variable {P:Program} {E:Env} {w0:World} {G0:Gh} {D:DD} {o:Oper} {a:Act} {w:World} {β:Bi} {G:Gh} {h:Nat->Option Zb} {nid:Nat} {ρ:Nat->Option DV}
theorem Zav {t:TypeId} {ti ei:TI} (ht:ZL P t ti) {len e:Nat} (j:ti.k=.array len e) (l:ZL P e ei) {x d:DV} {di:DV} {u v:Value} {i:Nat} (h:Rep β G x u) (hi:Rep β G di v) (f:Z37 len di=some i)
  (g:Z1d x (i*ei.size)=some d):∃r,(Instr.indexAt t u v).run P w=.ok r w/\Rep β G d r:=by
 have a:=ht.desc;rw[j]at a;obtain⟨k,rfl,c⟩:=Z53 f hi;obtain⟨b,rfl,hr⟩:=Z5M h g;refine⟨_,?_,hr⟩;have m:(0:Int)<=(i:Int)/\(i:Int)<(len:Int):=⟨by omega,by omega⟩
 simp[Instr.indexAt,asIntOf,ji a,Instr.sureAddr,l.run_sizeOf,m,c]
theorem Z5S {t:TypeId} {ti ei:TI} (ht:ZL P t ti) {e:Nat} (f:ti.k=.slice e) (g:ZL P e ei) {di:DV} {v:Value} {i n c:Nat} {A:Addr} (hi:Rep β G di v) (d:Z37 n di=some i) :
  (Instr.indexAt t (.slice (some A) n c) v).run P w=.ok (.pointer (some (A.add (i*ei.size)))) w:=by
 have a:=ht.desc;rw[f]at a;obtain⟨k,rfl,b⟩:=Z53 d hi;have h:(0:Int)<=(i:Int)/\(i:Int)<(n:Int):=⟨by omega,by omega⟩
 simp[Instr.indexAt,asIntOf,ji a,g.run_sizeOf,h,b]
theorem Zdw {b e:Nat}:∀{es:List (List DV)} {off i:Nat} {c:List DV},Ym β G b e off es->es[i]? = some c->Zc c=true/\Pub β G b (off+i*e) c/\c.length=e
 | [],_,i,c,_,h=>by simp at h
 | x::es,off,0,c,hp,h=>by
  simp at h;subst h;unfold Ym at hp;exact⟨hp.2.1.1,by simpa using hp.2.2.1,hp.1⟩
 | x::es,off,i+1,c,hp,h=>by
  unfold Ym at hp;obtain⟨a,f,d⟩:=Zdw (i:=i) (c:=c) hp.2.2.2 (by simpa using h)
  refine⟨a,?_,d⟩
  rwa [show off+(i+1)*e=off+e+i*e by rw[Nat.add_mul,Nat.one_mul];omega]
theorem Zdd (hE:∀t ti,E.ty t=some ti->ZL P t ti) {t:TypeId} {ti:TI} (ht:ZL P t ti) {x di d:DV} {u v:Value} 
  (c:(match ti.k,x with
   | .array len e,.agg cs=>(E.ty e).bind fun ei=>(Z37 len di).bind fun i=>YL ei cs (i*ei.size)
   | .string,.str s=>(Z37 s.size di).bind fun i=>(s[i]?).bind fun b=>some (.int .u8 b.toNat)
   | _,_=>none)=some d) (l:Rep β G x u) (hi:Rep β G di v):∃r,(Instr.index t u v).run P w=.ok r w/\Rep β G d r:=by
 have a:=ht.desc;split at c<;>rename_i m
 ·rename_i len e cs;rw[m]at a;obtain⟨ei,f,c⟩:=Z0 c;obtain⟨i,g,c⟩:=Z0 c;obtain⟨k,rfl,h⟩:=Z53 g hi;obtain⟨vs,rfl,hr⟩:=YK.1 l;obtain⟨r,p,n⟩:=Z9O (w:=w) (hE e ei f) (hE e ei f).ko hr c;have j:(0:Int)<=(i:Int)/\(i:Int)<(len:Int):=⟨by omega,by omega⟩
  exact⟨r,by simp[Instr.index,asIntOf,ji a,(hE e ei f).run_sizeOf,j,h,p],n⟩
 ·rename_i s;rw[m]at a;obtain⟨i,g,c⟩:=Z0 c;obtain⟨b,o,c⟩:=Z0 c;cases c;obtain⟨k,rfl,h⟩:=Z53 g hi;rw[Yg]at l;subst l;have j:(0:Int)<=(i:Int):=by omega
  exact⟨_,by simp[Instr.index,asIntOf,ji a,j,o],Zu.2 rfl⟩
 ·cases c
theorem ZcW (hE:∀t ti,E.ty t=some ti->ZL P t ti) {t:TypeId} {ti:TI} (ht:ZL P t ti) {f:Nat} {x d:DV} {u:Value}
  (a:(match ti.k,x with
   | .struct fs,.agg cs=>(fs[f]?).bind fun(ft,off)=>(E.ty ft).bind fun fi=>YL fi cs off
   | _,_=>none)=some d) (h:Rep β G x u):∃r,(Instr.field t u f).run P w=.ok r w/\Rep β G d r:=by
 split at a<;>rename_i j
 ·rename_i fs cs;obtain⟨⟨ft,off⟩,c,a⟩:=Z0 a;obtain⟨fi,b,a⟩:=Z0 a;obtain⟨fields,fd,m,e,g,l⟩:=Z7l ht j c;obtain⟨vs,rfl,hr⟩:=YK.1 h;obtain⟨r,n,i⟩:=Z9O (w:=w) (hE ft fi b) (hE ft fi b).ko hr a;exact⟨r,by simp[Instr.field,ji m,e,asAgg,g,l,n],i⟩
 ·cases a
def Z7q (β:Bi) (G:Gh) (d:Option DV) (v:Option Value):Prop:=d=none/\v=none\/∃d' v',d=some d'/\v=some v'/\Rep β G d' v'
theorem ZfO (e:FrM β G ρ a.tmps) {x:Option Operand} {d:Option DV} (b:Z2e ρ x=some d):Z7q β G d (x.map a.eval):=by
 cases x with
 | none=>simp only[Z2e,jh]at b;subst b;exact .inl ⟨rfl,rfl⟩
 | some x =>
  simp only[Z2e]at b;obtain⟨d',c,f⟩:=Z0 b;cases f;exact .inr ⟨d',_,rfl,rfl,Zm e c⟩
theorem Z7h {d:DV} {v:Value} {dflt y cap m:Nat} {code:BoundsCode} (a:Z2B (some d) dflt y=some m) (hr:Rep β G d v) (hc:y<=cap):(Instr.sliceBound v cap code).run P w=.ok m w/\m<=y:=by
 cases d with
 | int k i =>
  rw[Zu]at hr;subst hr;simp only[Z2B]at a;obtain⟨b,a⟩:=Z3 a;simp only[jn,jk]at b;cases a;refine⟨?_,by omega⟩
  have:(0:Int)<=i/\i<=(cap:Int):=⟨b.1,by omega⟩
  simp[Instr.sliceBound,asIntOf,this]
 | _=>cases a
theorem Z1P {isSlice:Bool} {n cap:Nat} {lo hi:Option DV} {vlo vhi:Option Value} (e:Z7q β G lo vlo) (hh:Z7q β G hi vhi) {l m:Nat}
  (d:Z2B hi n n=some m) (c:Z2B lo 0 m=some l) (hc:n<=cap):(Instr.sliceBounds isSlice n cap vlo vhi none).run P w=.ok (l,m,cap) w/\l<=m/\m<=n:=by
 rcases hh with⟨rfl,rfl⟩|⟨dh,vh,rfl,rfl,a⟩<;>rcases e with⟨rfl,rfl⟩|⟨dl,vl,rfl,rfl,b⟩
 ·cases d;cases c;exact⟨by simp[Instr.sliceBounds],by omega,Nat.le_refl _⟩
 ·cases d;obtain⟨k1,k2⟩:=Z7h (P:=P) (w:=w) (code:=.sliceB) c b (Nat.le_refl _);exact⟨by simp[Instr.sliceBounds,k1],k2,Nat.le_refl _⟩
 ·cases c;obtain⟨k1,k2⟩:=Z7h (P:=P) (w:=w) (code:=if isSlice then .sliceAcap else .sliceAlen) d a hc;exact⟨by simp[Instr.sliceBounds,k1],by omega,k2⟩
 ·obtain⟨k1,k2⟩:=Z7h (P:=P) (w:=w) (code:=if isSlice then .sliceAcap else .sliceAlen) d a hc;obtain⟨k3,k4⟩:=Z7h (P:=P) (w:=w) (code:=.sliceB) c b (Nat.le_refl _);exact⟨by simp[Instr.sliceBounds,k1,k3],k4,k2⟩
theorem ZdV {t:TypeId} {ti ei:TI} (ht:ZL P t ti) {e:Nat} (q:ti.k=.slice e) (s:ZL P e ei) {es:List (List DV)} {u:Value} (i:∃A c,u=.slice A es.length c/\es.length<=c/\(es=[]\/∃b off,A=some ⟨b,off,none⟩/\Ym β G b ei.size off es))
  {lo hi:Option DV} {vlo vhi:Option Value} (o:Z7q β G lo vlo) (hh:Z7q β G hi vhi) {d:DV} (g:Z4M es lo hi=some d) :
  ∃r,(Instr.sliceAt t u vlo vhi none).run P w=.ok r w/\Rep β G d r:=by
 have a:=ht.desc;rw[q]at a;obtain⟨A,c,rfl,j,f⟩:=i;unfold Z4M at g;obtain⟨m,v,g⟩:=Z0 g;obtain⟨l,p,g⟩:=Z0 g;cases g;obtain⟨k1,k2,k3⟩:=Z1P (P:=P) (w:=w) (isSlice:=true) o hh v p j;have h:((es.take m).drop l).length=m-l:=by simp;omega
 refine⟨.slice (if c=l then A else A.map (·.add (l*ei.size))) (m-l) (c-l),by simp[Instr.sliceAt,Instr.slice,ji a,k1,s.run_sizeOf],Z3i.2 ?_⟩
 rw[h];refine⟨_,_,⟨rfl,by omega⟩,?_⟩
 rcases f with rfl|⟨b,off,rfl,n⟩
 ·exact .inl (by simp)
 ·by_cases hcl:c=l
  ·left;have:m=l:=by omega
   subst this;simp
  ·right;refine⟨b,off+l*ei.size,ei.size,?_,Z2Z l (Z30 m n)⟩;simp[hcl,Yc]
end
end Go.Ab
namespace Go.Ab
open Go.RowKit
section
variable {P:Program} {E:Env} {w0:World} {G0:Gh} {D:DD} {o:Oper} {a:Act} {w:World} {β:Bi} {G:Gh} {h:Nat->Option Zb} {nid:Nat} {ρ:Nat->Option DV}
theorem Z7E {id:Nat} {o o':Zb} (b:h id=some o):Z2l β β h (Zy h [(id,some o')]) nid:=fun i _ a=>by
 refine⟨?_,rfl,fun _=>rfl⟩;rw[Zz]
 by_cases e:i=id
 ·subst e;rw[a]at b;cases b
 ·rw[if_neg e];exact a
theorem Z48 (hh:HR E w0 G0 D w β G h) {id b:Nat} {o o':Zb} {ob ob':Obj} (n:h id=some o) (d:Yf β id o b) (p:w.heap[b]? = some ob) (i:∀c t f,ob≠.cells c t f)
  (a:∀x,Yf β id o' x->x=b) (l:Z1M E w0.heap.size (w.putObj b ob') β G id o'):HR E w0 G0 D (w.putObj b ob') β G (Zy h [(id,some o')]):=by
 have g:b<w.heap.size:=(ja.1 p).1;obtain⟨k1,_,k3⟩:=hh.own id o b n d;refine hh.move (fun x=>x=b) id o' (Ext.refl β G) ?_ (fun x e _=>World.putObj_heap_other e) (fun _ _=>rfl) (by simp) ?_ ?_ ?_ l ?_ ?_ (fun _ _=>⟨rfl,fun _=>rfl⟩)
 ·exact hh.below.trans ⟨rfl,rfl,rfl,by simp,fun k r=>World.putObj_heap_other (by omega)⟩
 ·rintro x rfl;exact⟨k1,k3⟩
 ·rintro x id' o2 rfl m j;exact hh.inj id' id o2 o x m n j d
 ·rintro x rfl off v q;have:=hh.agree x off v q;unfold World.cell? at this;rw[p]at this;cases ob<;>first|cases this|exact absurd rfl (i _ _ _)
 ·intro x e;exact .inl (a x e)
 ·intro x e;rw[a x e];simpa using g
theorem Z94 (s t:ByteArray):(s==t)=decide (s=t):=by
 cases s;cases t;rename_i a b;have:((⟨a⟩:ByteArray)==⟨b⟩)=(a==b):=rfl;rw[this]
 by_cases h:a=b
 ·subst h;simp
 ·simp[h]
theorem Z1z {b:Bool} {kt:TypeId} {dd:TypeDesc} {v:Value} (c:P.underlying kt=some dd) (a:match dd with | .bool | .int _ | .string=>True|_=>False) (d:Nat):(Instr.checkKey b (d+1) kt v).run P w=.ok () w:=by
 cases dd<;>simp only at a<;>simp[Instr.checkKey,ji c]
theorem ZdQ (n:Nat) (k j:IntKind) (x y:Int):Instr.sameBits n (.int k x) (.int j y)=(k==j&&x==y):=by cases n<;>simp[Instr.sameBits]
theorem ZdR (n:Nat) (x y:ByteArray):Instr.sameBits n (.string x) (.string y)=(x==y):=by cases n<;>simp[Instr.sameBits]
theorem Zbe (n:Nat) (x y:Bool):Instr.sameBits n (.bool x) (.bool y)=(x==y):=by cases n<;>simp[Instr.sameBits]
def scK:DV->Bool
 | .agg _=>false
 | _=>true
theorem Z3x:∀{zs xs ys:List DV} {r:Bool},Zl xs ys=some r->Zd zs xs=true->Zd zs ys=true
 | [],[],[],_,_,_=>rfl
 | [],[],y::ys,_,h,_=>by cases y<;>simp[Zl]at h
 | [],x::xs,_,_,_,hk=>by simp[Zd]at hk
 | z::zs,[],_,_,_,hk=>by cases z<;>simp[Zd]at hk
 | z::zs,x::xs,[],_,h,_=>by cases x<;>simp[Zl]at h
 | z::zs,x::xs,y::ys,r,h,hk=>by
  cases x<;>cases y<;>simp only[Zl,reduceCtorEq]at h
  ·obtain⟨q,a,_⟩:=Z0 h;cases z<;>simp only[Zd,jg]at hk⊢;exact Z3x a hk
  ·obtain⟨b,h⟩:=Z3 h;obtain⟨q,a,_⟩:=Z0 h;cases z<;>simp only[Zd,jg,jn]at hk⊢;have:=eq_of_beq b;subst this;exact⟨hk.1,Z3x a hk.2⟩
  ·obtain⟨q,a,_⟩:=Z0 h;cases z<;>simp only[Zd,jg]at hk⊢;exact Z3x a hk
theorem Z2f:∀{zs xs:List DV},Zd zs xs=true->xs.all Zf6=true
 | [],[],_=>rfl
 | [],x::xs,h=>by simp[Zd]at h
 | z::zs,[],h=>by cases z<;>simp[Zd]at h
 | z::zs,x::xs,h=>by
  cases z<;>cases x<;>simp only[Zd,jg,jn]at h
  ·simp[Zf6,Z2f h]
  ·simp[Zf6,Z2f h.2]
  ·simp[Zf6,Z2f h]
theorem Z4z (n:Nat):∀{xs ys:List DV} {vx vy:List Value},Zl xs ys=some true->Ze β G xs vx->Ze β G ys vy->vy.length=vx.length/\((vy.zip vx).all fun p=>Instr.sameBits n p.1 p.2)=true
 | [],[],vx,vy,_,hx,hy=>by rw[Zg]at hx hy;subst hx hy;exact⟨rfl,rfl⟩
 | [],y::ys,_,_,h,_,_=>by cases y<;>simp[Zl]at h
 | x::xs,[],_,_,h,_,_=>by cases x<;>simp[Zl]at h
 | x::xs,y::ys,vx,vy,h,hx,hy=>by
  obtain⟨u,vx',rfl,f,d⟩:=Za.1 hx;obtain⟨u',vy',rfl,a,e⟩:=Za.1 hy;cases x<;>cases y<;>simp only[Zl,reduceCtorEq]at h
  ·obtain⟨q,c,b⟩:=Z0 h;simp only[jh,jn]at b;rw[b.2]at c;obtain⟨k1,k2⟩:=Z4z n c d e;rw[ZH]at f a;subst f a;have:=eq_of_beq b.1;subst this;exact⟨by simp[k1],by simp only[List.zip_cons_cons,jt,k2,Zbe,beq_self_eq_true,ju]⟩
  ·obtain⟨i,h⟩:=Z3 h;obtain⟨q,c,b⟩:=Z0 h;simp only[jh,jn]at b;rw[b.2]at c;obtain⟨k1,k2⟩:=Z4z n c d e;rw[Zu]at f a;subst f a;have:=eq_of_beq b.1;have:=eq_of_beq i
   subst_vars
   exact⟨by simp[k1],by simp only[List.zip_cons_cons,jt,k2,ZdQ,beq_self_eq_true,ju]⟩
  ·obtain⟨q,c,b⟩:=Z0 h;simp only[jh,jn]at b;rw[b.2]at c;obtain⟨k1,k2⟩:=Z4z n c d e;rw[Yg]at f a;subst f a;have g:=b.1;rw[Z94]at g;have:=of_decide_eq_true g;subst this;refine⟨by simp[k1],?_⟩
   simp only[List.zip_cons_cons,jt,k2,ZdR,Z94,decide_true,ju]
theorem Z8s {kt:TypeId} {ki:TI} (i:ZL P kt ki) {k k':DV} {v v':Value} {r:Bool} (e:Yl ki k=true) (c:Z6U k k'=some r) (hr:Rep β G k v) (d:Rep β G k' v') :
  ∃dd,P.underlying kt=some dd/\(scK k=true->Instr.sameNow dd v v'=some r)/\(scK k=false->Instr.sameNow dd v v'=none/\∀w,(Op.equal kt v v').run P w=.ok r w)/\(r=true->Instr.sameBits 10000 v' v=true):=by
 have a:=i.desc;cases k with
 | int kk n =>
  cases hkk:ki.k<;>rw[hkk]at a<;>simp[Yl,hkk]at e;cases k' with
  | int kk' n' =>
   rw[Zu]at hr d;subst hr d;simp only[Z6U]at c;have f:=(Z3 c).1;replace c:=(Z3 c).2;have f:kk=kk':=by simpa using f
   subst f;simp only[jh]at c;subst c;refine⟨_,a,fun _=>by simp[Instr.sameNow],fun h=>(by cases h),fun h=>?_⟩
   have:n=n':=by simpa using h
   subst this;rw[ZdQ];simp
  | _=>cases c
 | str s =>
  cases hkk:ki.k<;>rw[hkk]at a<;>simp[Yl,hkk]at e;cases k' with
  | str s' =>
   rw[Yg]at hr d;subst hr d;simp only[Z6U,jh]at c;subst c;refine⟨_,a,fun _=>by simp[Instr.sameNow],fun h=>(by cases h),fun h=>?_⟩
   rw[Z94]at h;have:s=s':=by simpa using h
   subst this;rw[ZdR,Z94];simp
  | _=>cases c
 | bool b =>
  cases hkk:ki.k<;>rw[hkk]at a<;>simp[Yl,hkk]at e;cases k' with
  | bool b' =>
   rw[ZH]at hr d;subst hr d;simp only[Z6U,jh]at c;subst c;refine⟨_,a,fun _=>by simp[Instr.sameNow],fun h=>(by cases h),fun h=>?_⟩
   have:b=b':=by simpa using h
   subst this;rw[Zbe];simp
  | _=>cases c
 | agg cs =>
  cases hkk:ki.k<;>rw[hkk]at a<;>simp[Yl,hkk]at e;cases k' with
  | agg cs' =>
   obtain⟨vx,rfl,g⟩:=YK.1 hr;obtain⟨vy,rfl,hy⟩:=YK.1 d;simp only[Z6U]at c;obtain⟨fields,j,_⟩:=a;refine⟨_,j,fun h=>(by cases h),fun _=>⟨rfl,fun w=>(i.eqr e.1.1).1 cs cs' r c e.2 (Z3x c e.2) β G vx vy w g hy⟩,fun h=>?_⟩
   subst h;obtain⟨k1,k2⟩:=Z4z (β:=β) (G:=G) 9999 c g hy;show(vy.toArray.size==vx.toArray.size&&(vy.toArray.toList.zip vx.toArray.toList).all fun(x,y)=>Instr.sameBits 9999 x y)=true;simp only[List.size_toArray,k1,beq_self_eq_true,Bool.true_and];exact k2
  | _=>cases c
 | _=>cases hkk:ki.k<;>simp[Yl,hkk]at e
theorem Zdg {kt:TypeId} {ki:TI} (d:ZL P kt ki) {k:DV} {v:Value} (c:Yl ki k=true) (hr:Rep β G k v):∃dd,P.underlying kt=some dd/\(∀b w,(Instr.checkKey b 10000 kt v).run P w=.ok () w)/\(scK k=false->∃fs,dd=.struct fs):=by
 have a:=d.desc;cases hkk:ki.k<;>rw[hkk]at a<;>cases k<;>simp[Yl,hkk]at c
 ·rw[ZH]at hr;subst hr;exact⟨_,a,fun b w=>Z1z a trivial 9999,fun h=>by cases h⟩
 ·rw[Zu]at hr;subst hr;exact⟨_,a,fun b w=>Z1z a trivial 9999,fun h=>by cases h⟩
 ·rw[Yg]at hr;subst hr;exact⟨_,a,fun b w=>Z1z a trivial 9999,fun h=>by cases h⟩
 ·obtain⟨vx,rfl,f⟩:=YK.1 hr;obtain⟨fields,e,_⟩:=a;exact⟨_,e,fun b w=>d.key c.1.2 _ c.2 b β G vx w f,fun _=>⟨_,rfl⟩⟩
theorem ZfA {ki:TI} {k:DV} (a:Yl ki k=true):keyOk k=true:=by
 cases hkk:ki.k<;>cases k<;>simp[Yl,hkk]at a<;>first|rfl|skip
 exact Z2f a.2
def FN (P:Program) (kt:TypeId) (dd:TypeDesc) (sc:Bool) (v:Value) (ms:List MapEntry) (i:Nat) (r:Option (Nat×Value)):Prop :=
 (sc=true->Instr.findNow dd v ms i=some r)/\(sc=false->(∀w,(Instr.findAsking kt v ms i).run P w=.ok r w)/\(Instr.findNow dd v ms i=none\/(ms=[]/\r=none)))
theorem FN.run {kt:TypeId} {dd:TypeDesc} {sc:Bool} {v:Value} {ms:List MapEntry} {r:Option (Nat×Value)} (h:FN P kt dd sc v ms 0 r) (b:P.underlying kt=some dd) (w:World):(Instr.findKey kt v ms).run P w=.ok r w:=by
 cases sc with
 | true=>simp[Instr.findKey,ji b,h.1 rfl]
 | false =>
  obtain⟨c,a⟩:=h.2 rfl;rcases a with a|⟨rfl,rfl⟩
  ·simp[Instr.findKey,ji b,a,c]
  ·simp[Instr.findKey,ji b,Instr.findNow]
theorem FN.nil {kt:TypeId} {dd:TypeDesc} {sc:Bool} {v:Value} {i:Nat}:FN P kt dd sc v [] i none :=
 ⟨fun _=>rfl,fun _=>⟨fun w=>rfl,.inr ⟨rfl,rfl⟩⟩⟩
theorem FN.hit {kt:TypeId} {dd:TypeDesc} {sc:Bool} {v:Value} {m:MapEntry} {ms:List MapEntry} {i:Nat} (b:sc=true->Instr.sameNow dd v m.key=some true) (a:sc=false->Instr.sameNow dd v m.key=none/\∀w,(Op.equal kt v m.key).run P w=.ok true w):FN P kt dd sc v (m::ms) i (some (i,m.val)) :=
 ⟨fun h=>by simp[Instr.findNow,b h],fun h=>⟨fun w=>by simp[Instr.findAsking,(a h).2],.inl (by simp[Instr.findNow,(a h).1])⟩⟩
theorem FN.miss {kt:TypeId} {dd:TypeDesc} {sc:Bool} {v:Value} {m:MapEntry} {ms:List MapEntry} {i:Nat} {r:Option (Nat×Value)} (c:sc=true->Instr.sameNow dd v m.key=some false) (b:sc=false->Instr.sameNow dd v m.key=none/\∀w,(Op.equal kt v m.key).run P w=.ok false w) (h:FN P kt dd sc v ms (i+1) r):FN P kt dd sc v (m::ms) i r :=
 ⟨fun a=>by simp[Instr.findNow,c a,h.1 a],fun a=>⟨fun w=>by simp[Instr.findAsking,(b a).2,(h.2 a).1],.inl (by simp[Instr.findNow,(b a).1])⟩⟩
theorem Z9o {kt:TypeId} {ki:TI} (l:ZL P kt ki) {k:DV} {v:Value} (g:Yl ki k=true) (hr:Rep β G k v) {dd:TypeDesc} (e:P.underlying kt=some dd) :
  ∀{es:List (DV×DV)} {ms:List MapEntry} {r:Option DV} (i:Nat),Z64 β G es ms->Z2Q k es=some r →
  ∃r',FN P kt dd (scK k) v ms i r'/\((r=none/\r'=none)\/∃d j u,r=some d/\r'=some (i+j,u)/\Rep β G d u)
 | [],ms,r,i,hm,a=>by
  simp only[Z64]at hm;subst hm;simp only[Z2Q,jh]at a;subst a;exact⟨none,FN.nil,.inl ⟨rfl,rfl⟩⟩
 | (k',d')::es,ms,r,i,⟨m,ms',hms,h2,h3,h4,h5,h6⟩,a=>by
  subst hms;simp only[Z2Q]at a;obtain⟨b,p,a⟩:=Z0 a;obtain⟨dd',o,h,n,_⟩:=Z8s l g p hr h2;rw[e]at o;cases o;cases b with
  | true =>
   cases a;exact⟨_,FN.hit h n,.inr ⟨d',0,m.val,rfl,rfl,h3⟩⟩
  | false =>
   obtain⟨r',f,c⟩:=Z9o l g hr e (i+1) h6 a;refine⟨r',FN.miss h n f,?_⟩;rcases c with c|⟨d,j,u,e1,e2,e3⟩
   ·exact .inl c
   ·exact .inr ⟨d,j+1,u,e1,by rw[e2];congr 2;omega,e3⟩
theorem ZbS (hE:∀t ti,E.ty t=some ti->ZL P t ti) (hh:HR E w0 G0 D w β G h) {t kt e:TypeId} {ti ei ki:TI} (a1:ZL P t ti) (y:ti.k=.map kt e) (x:ZL P e ei) (s:ZL P kt ki)
  {m k:DV} {um uk:Value} (hk:Rep β G k uk) (hf:Yl ki k=true) {es:List (DV×DV)}
  (f:(match m with | .nilmap=>some [] | .map id=>(h id).bind (fun | .map es=>some es|_=>none)|_=>none)=some es) {r:Option DV} (hr:Z2Q k es=some r) {z:DV} (hz:ei.zero=[z]) (hsz:ei.size=1) (a0:ei.isAgg=false)
  (ok:Bool) (hm:Rep β G m um):∃v,(Instr.lookup t um uk ok).run P w=.ok v w/\Rep β G (match r with|some d=>(bif ok then .tup [d,.bool true]else d)|none=>(bif ok then .tup [z,.bool false]else z)) v:=by
 have a:=a1.desc;rw[y]at a;obtain⟨dd,o,p,_⟩:=Zdg (β:=β) (G:=G) s hf hk;obtain⟨i,zv,hi,_,_,q,_⟩:=x.info;have g:Rep β G z zv:=x.zr a0 z hz i zv hi q β G;have l:(zeroValue e).run P w=.ok zv w:=by simp[zeroValue,typeInfo,hi,q]
 have fin:∀{r':Option (Nat×Value)},((r=none/\r'=none)\/∃d j u,r=some d/\r'=some (0+j,u)/\Rep β G d u) →
   Rep β G (match r with|some d=>(bif ok then .tup [d,.bool true]else d)|none=>(bif ok then .tup [z,.bool false]else z))
    (match r' with|some (_,v)=>(if ok then Value.tuple #[v,.bool true]else v)|none=>(if ok then Value.tuple #[zv,.bool false]else zv)):=by
  rintro r' (⟨rfl,rfl⟩|⟨d,j,u,rfl,rfl,e3⟩)
  ·cases ok
   ·exact g
   ·exact Ys.2 ⟨[zv,.bool false],rfl,Za.2 ⟨_,_,rfl,g,Za.2 ⟨_,_,rfl,ZH.2 rfl,Zg.2 rfl⟩⟩⟩
  ·cases ok
   ·exact e3
   ·exact Ys.2 ⟨[u,.bool true],rfl,Za.2 ⟨_,_,rfl,e3,Za.2 ⟨_,_,rfl,ZH.2 rfl,Zg.2 rfl⟩⟩⟩
 cases m with
 | nilmap =>
  cases f;rw[Z6t]at hm;subst hm;cases hr;have c:(Instr.findKey kt uk ([]:List MapEntry)).run P w=.ok none w:=by simp[Instr.findKey,ji o,Instr.findNow]
  refine⟨_,?_,fin (r':=none) (.inl ⟨rfl,rfl⟩)⟩;simp[Instr.lookup,ji a,p,c,l]
 | map id =>
  obtain⟨ob,ho,f⟩:=Z0 f;cases ob with
  | map es' =>
   cases f;obtain⟨b,hb,rfl⟩:=Z7a.1 hm;obtain⟨b',ms,clock,h1,h2,h3,_⟩:=hh.obj id _ ho;rw[hb]at h1;cases h1;have n:(getObj b).run P w=.ok (.map ms clock) w:=by simp[getObj,Sem.run,h2]
   obtain⟨r',h4,h5⟩:=Z9o s hf hk o 0 h3 hr;have c:(Instr.findKey kt uk ms.toList).run P w=.ok r' w:=h4.run o w;refine⟨_,?_,fin h5⟩;cases r' with
   | none=>simp[Instr.lookup,ji a,n,p,c,l]
   | some jx=>simp[Instr.lookup,ji a,n,p,c]
  | _=>cases f
 | _=>cases f
theorem Zb5 {kt:TypeId} {ki:TI} (t:ZL P kt ki) {k d:DV} {v u:Value} (o:Yl ki k=true) (hr:Rep β G k v) (r:Rep β G d u) (g:Zf d=true) {dd:TypeDesc} (h:P.underlying kt=some dd) :
  ∀{es es':List (DV×DV)} {ms:List MapEntry} (i clock:Nat),Z64 β G es ms->Z57 k d es=some es' →
  ∃r',FN P kt dd (scK k) v ms i r'/\(∀j x,r'=some (j,x)->i<=j/\∃m,ms[j-i]? = some m/\Instr.sameBits 10000 m.key v=true) ∧
   Z64 β G es' (match r' with|some (j,_)=>ms.modify (j-i) (fun e=>{ e with key:=v,val:=u })|none=>ms++[{ key:=v,val:=u,born:=clock }])
 | [],es',ms,i,clock,hm,a=>by
  simp only[Z64]at hm;subst hm;simp only[Z57,jh]at a;subst a;have f:keyOk k=true:=ZfA o;exact⟨none,FN.nil,by simp,⟨_,[],rfl,hr,r,f,g,rfl⟩⟩
 | (k',d')::es,es',ms,i,clock,⟨m,ms',hms,h2,h3,h4,h5,h6⟩,a=>by
  subst hms;simp only[Z57]at a;obtain⟨b,z,a⟩:=Z0 a;obtain⟨dd',w,y,n,h9⟩:=Z8s t o z hr h2;rw[h]at w;cases w;have f:keyOk k=true:=ZfA o;cases b with
  | true =>
   cases a;refine⟨some (i,m.val),FN.hit y n,fun j x s=>?_,?_⟩
   ·cases s;exact⟨Nat.le_refl _,m,by simp,h9 rfl⟩
   ·simp only[Nat.sub_self,List.modify_zero_cons];exact⟨_,ms',rfl,hr,r,f,g,h6⟩
  | false =>
   obtain⟨es2,p,a⟩:=Z0 a;cases a;obtain⟨r',q,l,c⟩:=Zb5 t o hr r g h (i+1) clock h6 p;refine⟨r',FN.miss y n q,fun j x s=>?_,?_⟩
   ·obtain⟨k1,m1,k2,k3⟩:=l j x s;exact⟨by omega,m1,by rw[show j-i=(j-(i+1))+1 by omega];simpa using k2,k3⟩
   ·cases r' with
    | none=>exact⟨m,_,rfl,h2,h3,h4,h5,c⟩
    | some jx =>
     obtain⟨j,x⟩:=jx;obtain⟨k1,_⟩:=l j x rfl;simp only at c⊢;rw[show j-i=(j-(i+1))+1 by omega,List.modify_succ_cons]
     exact⟨m,_,rfl,h2,h3,h4,h5,c⟩
theorem Z4J {α γ:Type} (f:α->α) (g:α->γ) (b:∀x,g (f x)=g x):∀(l:List α) (j:Nat),(l.modify j f).map g=l.map g
 | [],j=>by cases j<;>simp[List.modify]
 | a::l,0=>by simp[b]
 | a::l,j+1=>by simp[Z4J f g b l j]
theorem Z8I (hh:HR E w0 G0 D w β G h) {t kt e:TypeId} {ti ki:TI} (v:ZL P t ti) (s:ti.k=.map kt e) (p:ZL P kt ki)
  {id:Nat} {k d:DV} {um uk u:Value} (hm:Rep β G (.map id) um) (hk:Rep β G k uk) (hu:Rep β G d u) (z:Zf d=true) (hf:Yl ki k=true) {es es':List (DV×DV)}
  (q:h id=some (.map es)) (hp:Z57 k d es=some es') :
  ∃w',(Instr.mapUpdate t um uk u).run P w=.ok () w'/\HR E w0 G0 D w' β G (Zy h [(id,some (.map es'))])/\Z2l β β h (Zy h [(id,some (.map es'))]) nid:=by
 have a:=v.desc;rw[s]at a;obtain⟨dd,o,r,_⟩:=Zdg (β:=β) (G:=G) p hf hk;obtain⟨b,g,rfl⟩:=Z7a.1 hm;obtain⟨b',ms,clock,h1,n,h3,i,f⟩:=hh.obj id _ q;rw[g]at h1;cases h1;obtain⟨r',h4,h5,h6⟩:=Zb5 p hf hk hu z o 0 clock h3 hp;have c:(Instr.findKey kt uk ms.toList).run P w=.ok r' w:=h4.run o w;have m:(getObj b).run P w=.ok (.map ms clock) w:=by simp[getObj,Sem.run,n]
 have l:∀ob,(setObj b ob).run P w=.ok () (w.putObj b ob):=fun ob=>by simp[setObj,Sem.run,n,World.putObj]
 cases r' with
 | none =>
  refine⟨w.putObj b (.map (ms.push { key:=uk,val:=u,born:=clock }) (clock+1)),by simp[Instr.mapUpdate,ji a,m,r,c,l],?_,Z7E q⟩
  refine Z48 hh q g n (by intros;simp) (fun x y=>by rw[show β.blk id=some x from y]at g;cases g;rfl) ?_
  exact⟨b,_,_,g,World.putObj_heap_same (ja.1 n).1,by simpa using h6,by simp[i,f,List.range_succ],by simp[f]⟩
 | some jx =>
  obtain⟨j,x⟩:=jx;obtain⟨_,m1,k2,k3⟩:=h5 j x rfl;have k2':ms[j]? = some m1:=by simpa using k2
  refine⟨w.putObj b (.map (ms.modify j fun e=>{ e with key:=uk,val:=u }) clock),by simp[Instr.mapUpdate,ji a,m,r,c,l,Instr.keyThatStays,k2',k3],?_,Z7E q⟩
  refine Z48 hh q g n (by intros;simp) (fun x y=>by rw[show β.blk id=some x from y]at g;cases g;rfl) ?_
  exact⟨b,_,_,g,World.putObj_heap_same (ja.1 n).1,by simpa using h6,by rw[Array.toList_modify,Array.size_modify,Z4J _ _ (by intro x;rfl),i],by simp[f]⟩
end
end Go.Ab
namespace Go.Ab
open Go.RowKit
section
variable {P:Program} {E:Env} {w0:World} {G0:Gh} {D:DD} {o:Oper} {a:Act} {w:World} {β:Bi} {G:Gh} {h:Nat->Option Zb} {nid:Nat} {ρ:Nat->Option DV}
theorem Z7Y {t:TypeId} {d:DV} {v:Value}:Rep β G (.iface t d) v↔∃u,v=.iface t u/\Rep β G d u:=by conv=>lhs;unfold Rep
theorem Z5H {v:Value}:Rep β G .nilif v↔v=.nilIface:=by conv=>lhs;unfold Rep
theorem Zcz {t:TypeId} {ti:TI} (ht:ZL P t ti) {z:DV} (hz:Z1b ti=some z):∃zv,(zeroValue t).run P w=.ok zv w/\Rep β G z zv:=by
 obtain⟨i,zv,hi,_,_,b,g,a⟩:=ht.info;refine⟨zv,by simp[zeroValue,typeInfo,hi,b],?_⟩
 unfold Z1b at hz;cases ha:ti.isAgg with
 | true =>
  rw[ha]at hz;simp only[jB,jh]at hz;subst hz;obtain⟨cs,rfl⟩:=ht.za ha i zv hi b;have:=a β G;exact YK.2 ⟨cs.toList,by simp,by simpa[Value.cells]using this⟩
 | false =>
  rw[ha]at hz;simp only[jA]at hz;cases hzz:ti.zero with
  | nil=>rw[hzz]at hz;cases hz
  | cons d ds =>
   rw[hzz]at hz;simp only[List.head?_cons,jh]at hz;subst hz;cases ds with
   | nil=>exact ht.zr ha d hzz i zv hi b β G
   | cons e es =>
    exfalso;have f:=ZJ (a β G);rw[hzz]at f;have c:∀cs,zv≠.agg cs:=fun cs hc=>by
     subst hc;have:=ht.zn ha;rw[hzz]at this;simp at this
    have:zv.cells = #[zv]:=by
     cases zv<;>first|rfl|exact absurd rfl (c _)
    rw[this]at f;simp at f
theorem Zbp {t:TypeId} {ti:TI} (ht:ZL P t ti) (g:ti.k≠.iface):∃d,P.underlying t=some d/\∀ms,d≠.interface ms:=by
 have e:=ht.desc;cases hkk:ti.k<;>rw[hkk]at e<;>simp only at e
 all_goals first
  | exact⟨_,e,fun _ h=>by cases h⟩
  | (obtain⟨f,e,_⟩:=e;exact⟨_,e,fun _ h=>by cases h⟩)
  | (obtain⟨a,b,c,e⟩:=e;exact⟨_,e,fun _ h=>by cases h⟩)
  | (exact absurd hkk g)
theorem Z8G {t:TypeId} {ti:TI} (ht:ZL P t ti) (a:ti.k≠.iface) {d:DV} {v:Value} (hr:Rep β G d v):(Instr.makeInterface t v).run P w=.ok (.iface t v) w/\Rep β G (.iface t d) (.iface t v):=by
 obtain⟨dd,b,c⟩:=Zbp ht a;refine⟨?_,Z7Y.2 ⟨v,rfl,hr⟩⟩;unfold Instr.makeInterface;rw[jz,ji b w];cases dd<;>first|rfl|exact absurd rfl (c _)
theorem Z8b {t xt:TypeId} {ti:TI} (ht:ZL P t ti) (j:ti.k≠.iface) {x d:DV} {v:Value} {ok:Bool}
  (a:(match x with
   | .nilif=>bif ok then(Z1b ti).bind fun z=>some (.tup [z,.bool false])else none
   | .iface t' v=>bif Nat.beq t' t then some (bif ok then .tup [v,.bool true]else v)else bif ok then(Z1b ti).bind fun z=>some (.tup [z,.bool false])else none
   | _=>none:Option DV)=some d) (hr:Rep β G x v):∃r,(Instr.typeAssert v xt t ok).run P w=.ok r w/\Rep β G d r:=by
 obtain⟨dd,g,h⟩:=Zbp ht j;have fail:∀{z:DV},Z1b ti=some z->∃zv,(zeroValue t).run P w=.ok zv w/\Rep β G (.tup [z,.bool false]) (.tuple #[zv,.bool false]):=fun hz=>by
  obtain⟨zv,c,b⟩:=Zcz (P:=P) (w:=w) (β:=β) (G:=G) ht hz;exact⟨zv,c,Ys.2 ⟨[zv,.bool false],rfl,Za.2 ⟨_,_,rfl,b,Za.2 ⟨_,_,rfl,ZH.2 rfl,Zg.2 rfl⟩⟩⟩⟩
 cases x with
 | nilif =>
  rw[Z5H]at hr;subst hr;cases ok with
  | false=>cases a
  | true =>
   obtain⟨z,hz,a⟩:=Z0 a;cases a;obtain⟨zv,c,b⟩:=fail hz;refine⟨_,?_,b⟩;unfold Instr.typeAssert;rw[jz,ji g w];cases dd<;>first|(simp[Result.andThen,c];done)|exact absurd rfl (h _)
 | iface t' d' =>
  obtain⟨u,rfl,f⟩:=Z7Y.1 hr;simp only at a;cases hq:Nat.beq t' t with
  | true =>
   have:t'=t:=je hq;subst this;rw[hq]at a;simp only[jB,jh]at a;subst a;cases ok with
   | true =>
    refine⟨.tuple #[u,.bool true],?_,Ys.2 ⟨[u,.bool true],rfl,Za.2 ⟨_,_,rfl,f,Za.2 ⟨_,_,rfl,ZH.2 rfl,Zg.2 rfl⟩⟩⟩⟩;unfold Instr.typeAssert;rw[jz,ji g w];cases dd<;>first|(simp[Result.andThen];done)|exact absurd rfl (h _)
   | false =>
    refine⟨u,?_,f⟩;unfold Instr.typeAssert;rw[jz,ji g w];cases dd<;>first|(simp[Result.andThen];done)|exact absurd rfl (h _)
  | false =>
   have i:t'≠t:=fun e=>by subst e;rw[Nat.beq_refl]at hq;cases hq
   rw[hq]at a;simp only[jA]at a;cases ok with
   | false=>cases a
   | true =>
    obtain⟨z,hz,a⟩:=Z0 a;cases a;obtain⟨zv,c,b⟩:=fail hz;refine⟨_,?_,b⟩;unfold Instr.typeAssert;rw[jz,ji g w];cases dd<;>first|(simp[Result.andThen,c,i];done)|exact absurd rfl (h _)
 | _=>cases a
theorem Zap (z:Array Value) (e:Nat) (a:z.size=e) (b:0<e):∀k,((Array.range (k*e)).map (z[· % z.size]!)).toList=(List.replicate k z.toList).flatten
 | 0=>by simp
 | k+1=>by
  have ih:=Zap z e a b k;simp only[Array.toList_map,Array.toList_range]at ih⊢;rw[List.replicate_succ,List.flatten_cons,<-ih,show(k+1)*e=e+k*e by rw[Nat.add_mul,Nat.one_mul,Nat.add_comm],List.range_add,List.map_append,List.map_map]
  congr 1
  ·apply List.ext_getElem
   ·simp[a]
   ·intro i c d;simp only[List.length_map,List.length_range]at c;simp only[List.getElem_map,List.getElem_range,Array.getElem_toList];rw[a,Nat.mod_eq_of_lt c];simp[a,c]
  ·apply List.map_congr_left;intro i _;simp only[Function.comp_def];rw[a,Nat.add_mod_left]
theorem ZdE {zs:List DV} {vs:List Value} (h:Ze β G zs vs):∀k,Ze β G (List.replicate k zs).flatten (List.replicate k vs).flatten
 | 0=>by simp[Zg]
 | k+1=>by
  rw[List.replicate_succ,List.replicate_succ,List.flatten_cons,List.flatten_cons];exact Y2.2 ⟨_,_,rfl,h,ZdE h k⟩
theorem Z8H (hE:∀t ti,E.ty t=some ti->ZL P t ti) (hh:HR E w0 G0 D w β G h) (r:ZE β h nid) {t e:TypeId} {ti ei:TI} (ht:ZL P t ti) (hk:ti.k=.slice e) (q:E.ty e=some ei) {k1 k2:IntKind} {n:Int}
  (h0:0<=n) (u:n.toNat*(ei.bytes+1)<=200000000000000) (f:0<ei.size) (a1:Zc ei.zero=true) :
  ∃v w' β',(Instr.makeSlice t (.int k1 n) (.int k2 n)).run P w=.ok v w'/\Rep β' G (.rs nid 0) v/\Ext β G β' G/\HR E w0 G0 D w' β' G (Zy h [(nid,some (.row e (List.replicate n.toNat ei.zero) 0 0))])/\Z2l β β' h (Zy h [(nid,some (.row e (List.replicate n.toNat ei.zero) 0 0))]) nid:=by
 have l:=ht.desc;rw[hk]at l;have he:=hE e ei q;have a:=Z3Q q;obtain⟨ie,z,hi,hs,y,hz,a2,g⟩:=he.info;obtain⟨m,rfl⟩:∃m:Nat,n=(m:Int):=⟨n.toNat,by omega⟩
 simp only[Int.toNat_natCast]at u⊢;have hm1:m<=200000000000000:=by
  have:=Nat.le_mul_of_pos_right m (show 0<ei.bytes+1 by omega)
  omega
 have hm2:ei.bytes*m<=200000000000000:=by
  have h1:=Nat.mul_le_mul_left m (show ei.bytes<=ei.bytes+1 by omega)
  rw[Nat.mul_comm]at h1;omega
 have o:m<=maxLen:=by simp only[maxLen];omega
 obtain⟨w',p,j,a0⟩:=run_make_full (P:=P) w w0.heap.size t e ie z ei.size l hi hz hs k1 k2 m (by rw[y];omega) o hh.below.size
 have d:(madeCells z.cells (m*ei.size)).toList=(List.replicate m z.cells.toList).flatten:=Zap z.cells ei.size a2 f m;have s:Ze β G (List.replicate m ei.zero).flatten (madeCells z.cells (m*ei.size)).toList:=by
  rw[d];exact ZdE (g β G) m
 have i:w'.ownsRow w0.heap.size e (Yn E e) (.slice (some ⟨w.heap.size,0,none⟩) m m) (List.replicate m ei.zero).length (madeCells z.cells (m*ei.size)).toList:=by
  rw[a,List.length_replicate];exact j
 have x:ei.zero.length=ei.size:=by have:=ZJ (g β G);simp at this;omega
 obtain⟨β',m1,m2,m3,m4⟩:=Z8V (nid:=nid) hh r a0 i (by intro b u;cases u;exact Nat.le_refl _) ⟨_,_,_,rfl⟩ s (fun c hc=>by
  rw[List.mem_replicate]at hc;rw[a,hc.2];exact⟨x,a1,he.zc⟩) (by rw[a];exact f)
 exact⟨_,_,β',p,m2,m1,m3,m4⟩
theorem Z71 {β':Bi} {G':Gh} (e:Ext β G β' G') {d:Option DV} {v:Option Value} (h:Z7q β G d v):Z7q β' G' d v:=by
 rcases h with h|⟨dd,vv,b,a,c⟩
 ·exact .inl h
 ·exact .inr ⟨dd,vv,b,a,Rep.mono e _ _ c⟩
theorem Z35 (e:Nat):∀(n:Nat) (cs:List DV),(Z11 e n cs).length=n
 | 0,_=>rfl
 | n+1,cs=>by simp[Z11,Z35 e n]
theorem Z6c {g e:Nat} (m:∀o:Nat,True):∀(n:Nat) (cs:List DV) (off:Nat),n*e<=cs.length->Zc (cs.take (n*e))=true->cs.all Zw=true->Pub β G g off cs->Ym β G g e off (Z11 e n cs)
 | 0,_,_,_,_,_,_=>by simp[Z11,Ym]
 | n+1,cs,off,hl,hf,hc,b=>by
  have f:(n+1)*e=e+n*e:=by rw[Nat.add_mul,Nat.one_mul,Nat.add_comm]
  rw[f]at hl hf;unfold Z11 Ym;have p:(cs.take e).length=e:=by simp;omega
  have j:Zc (cs.take e)=true:=YJ.2 fun c hc=>(YJ.1 hf) c (by
   rw[List.take_add];exact List.mem_append.2 (.inl hc))
  have i:Zc ((cs.drop e).take (n*e))=true:=YJ.2 fun c hc=>(YJ.1 hf) c (by
   rw[List.take_add];exact List.mem_append.2 (.inr hc))
  have l:(cs.take e).all Zw=true:=List.all_eq_true.2 fun c a=>List.all_eq_true.1 hc c (List.mem_of_mem_take a);have h:(cs.drop e).all Zw=true:=List.all_eq_true.2 fun c a=>List.all_eq_true.1 hc c (List.mem_of_mem_drop a);have d:∀(k:Nat) (cs:List DV) (off:Nat),Pub β G g off cs->Pub β G g off (cs.take k):=by
   intro k
   induction k with
   | zero=>intro cs off _;simp[Pub]
   | succ k ih =>
    intro cs off b;cases cs with
    | nil=>simp[Pub]
    | cons c cs=>unfold Pub at b;simp only[List.take_succ_cons];unfold Pub;exact⟨b.1,ih cs (off+1) b.2⟩
  exact⟨p,⟨j,l⟩,d e cs off b,Z6c m n (cs.drop e) (off+e) (by simp;omega) i h (Z73 e b)⟩
theorem ZhQ (hh:HR E w0 G0 D w β G h) {id:Nat} {ct:TypeId} {cs:List DV} (n:h id=some (.cells ct cs)) {b:Nat} (u:β.blk id=some b) :
  ∃G',Ext β G β G'/\HR E w0 G0 D w β G' (Zy h [(id,none)])/\Pub β G' b 0 cs:=by
 obtain⟨b',vs,y,z,h3,h4,h5⟩:=hh.obj id _ n;rw[u]at y;cases y;have f:Yf β id (.cells ct cs) b:=u;obtain⟨hb0,hb1,hb2⟩:=hh.own id _ b n f;have k:∀j v,vs.toList[j]? = some v->w.cell? ⟨b,j,none⟩=some v:=fun j v p=>by
  unfold World.cell?;simp only[z];simpa using p
 have t:Ext β G β (Z2K G b vs.toList):=⟨fun b' o v c=>by
  unfold Z2K
  by_cases e:b'=b
  ·subst e;rw[h5 o]at c;cases c
  ·rw[if_neg e];exact c,fun _ _ h=>h,fun _ _ _ h=>h⟩
 have m:Pub β (Z2K G b vs.toList) b 0 cs:=Z5g (Ze.mono t _ _ h3) (fun j v p=>by
  have s:j<vs.toList.length:=(jc.1 p).1;unfold Z2K;rw[if_pos rfl,Nat.zero_add,if_pos s];exact p)
 refine⟨Z2K G b vs.toList,t,?_,m⟩;have a:HR E w0 G0 D w β G (Zy h [(id,none)]):=hh.less fun i x hi=>by
  rw[Zz]at hi
  by_cases ei:i=id
  ·rw[if_pos ei]at hi;cases hi
  ·rw[if_neg ei]at hi;exact hi
 have r:∀i x b',Zy h [(id,none)] i=some x->Yf β i x b'->b'≠b:=fun i x b' hi l e=>by
  subst e;rw[Zz]at hi
  by_cases ei:i=id
  ·rw[if_pos ei]at hi;cases hi
  ·rw[if_neg ei]at hi;exact ei (hh.inj i id x _ b' hi n l f)
 refine⟨a.below,fun b' g=>?_,fun b' o v c=>?_,fun i x hi=>?_,a.own,a.inj,fun d x q=>?_,hh.inv0⟩
 ·rw[<-a.g0 b' g];funext o;unfold Z2K;rw[if_neg (by omega)]
 ·unfold Z2K at c
  by_cases e:b'=b
  ·subst e;rw[if_pos rfl]at c
   by_cases g:o<vs.toList.length
   ·rw[if_pos g]at c;exact k o v c
   ·rw[if_neg g]at c;exact hh.agree _ _ _ c
  ·rw[if_neg e]at c;exact hh.agree _ _ _ c
 ·refine Z1M.keep t (fun _=>rfl) (fun b' l=>⟨rfl,fun o=>?_⟩) (a.obj i x hi);unfold Z2K;rw[if_neg (r i x b' hi l)]
 ·obtain⟨q1,q2,q3⟩:=a.marks d x q;refine⟨q1,q2,fun o=>?_⟩;unfold Z2K;rw[if_neg (fun e=>by rw[e,(hh.own id _ b n f).2.2]at q;cases q)]
  exact q3 o
theorem Zab (hE:∀t ti,E.ty t=some ti->ZL P t ti) (hh:HR E w0 G0 D w β G h) {t e:TypeId} {ti ei:TI} (ht:ZL P t ti) {n:Nat} (hk:ti.k=.array n e) (v:E.ty e=some ei) {id off:Nat} {u:Value} (hr:Rep β G (.ptr id off) u)
  {ct:TypeId} {cs:List DV} (ho:h id=some (.cells ct cs)) (hle:off+n*ei.size<=cs.length) (z:0<ei.size) (hf:Zc ((cs.drop off).take (n*ei.size))=true)
  {lo hi:Option DV} {vlo vhi:Option Value} (hl:Z7q β G lo vlo) (q:Z7q β G hi vhi) {d:DV} (f:Z4M (Z11 ei.size n (cs.drop off)) lo hi=some d) :
  ∃r G',(Instr.sliceAt t u vlo vhi none).run P w=.ok r w/\Rep β G' d r/\Ext β G β G'/\HR E w0 G0 D w β G' (Zy h [(id,none)]):=by
 have j:=ht.desc;rw[hk]at j;have he:=hE e ei v;obtain⟨b,x,rfl⟩:=Z1f.1 hr;obtain⟨b',vs,y,h2,h3,h4,h5⟩:=hh.obj id _ ho;rw[x]at y;cases y;obtain⟨G1,s,p,g⟩:=ZhQ hh ho x;have a:Ym β G1 b ei.size off (Z11 ei.size n (cs.drop off)):=by
  refine Z6c (fun _=>trivial) n (cs.drop off) off (by simp;omega) hf (List.all_eq_true.2 fun c o=>List.all_eq_true.1 h4 c (List.mem_of_mem_drop o)) ?_
  have:=Z73 off g
  rwa [Nat.zero_add]at this
 unfold Z4M at f;obtain⟨m,k1,f⟩:=Z0 f;obtain⟨l,k2,f⟩:=Z0 f;cases f;rw[Z35]at k1;obtain⟨q1,q2,q3⟩:=Z1P (P:=P) (w:=w) (isSlice:=false) (Z71 s hl) (Z71 s q) k1 k2 (Nat.le_refl _);have i:(((Z11 ei.size n (cs.drop off)).take m).drop l).length=m-l:=by simp[Z35];omega
 refine⟨.slice (some (if n=l then⟨b,off,none⟩else(⟨b,off,none⟩:Addr).add (l*ei.size))) (m-l) (n-l),G1,?_,Z3i.2 ?_,s,?_⟩
 ·simp[Instr.sliceAt,ji j,Instr.sureAddr,q1,he.run_sizeOf]
 ·rw[i];refine⟨_,_,⟨rfl,by omega⟩,?_⟩
  by_cases hcl:n=l
  ·left;have:m=l:=by omega
   subst this;simp
  ·right;refine⟨b,off+l*ei.size,ei.size,?_,Z2Z l (Z30 m a)⟩;simp[hcl,Yc]
 ·exact p
theorem Zac (hE:∀t ti,E.ty t=some ti->ZL P t ti) {t e:TypeId} {ti ei:TI} (ht:ZL P t ti) {n:Nat} (s:ti.k=.array n e) (p:E.ty e=some ei) {u:Value}
  {cs:List DV} (hr:Rep β G (.pub cs) u) (q:n*ei.size<=cs.length) (hc:cs.all Zw=true)
  {lo hi:Option DV} {vlo vhi:Option Value} (x:Z7q β G lo vlo) (o:Z7q β G hi vhi) {d:DV} (f:Z4M (Z11 ei.size n cs) lo hi=some d) :
  ∃r,(Instr.sliceAt t u vlo vhi none).run P w=.ok r w/\Rep β G d r:=by
 have i:=ht.desc;rw[s]at i;have y:=hE e ei p;obtain⟨v,b,off,rfl,g⟩:=Z3A.1 hr;have a:Ym β G b ei.size off (Z11 ei.size n cs):=Z6c (fun _=>trivial) n cs off q (YJ.2 fun c j=>(YJ.1 v) c (List.mem_of_mem_take j)) hc g;unfold Z4M at f;obtain⟨m,k1,f⟩:=Z0 f;obtain⟨l,k2,f⟩:=Z0 f;cases f;rw[Z35]at k1;obtain⟨q1,q2,q3⟩:=Z1P (P:=P) (w:=w) (isSlice:=false) x o k1 k2 (Nat.le_refl _);have h:(((Z11 ei.size n cs).take m).drop l).length=m-l:=by simp[Z35];omega
 refine⟨.slice (some (if n=l then⟨b,off,none⟩else(⟨b,off,none⟩:Addr).add (l*ei.size))) (m-l) (n-l),?_,Z3i.2 ?_⟩
 ·simp[Instr.sliceAt,ji i,Instr.sureAddr,q1,y.run_sizeOf]
 ·rw[h];refine⟨_,_,⟨rfl,by omega⟩,?_⟩
  by_cases hcl:n=l
  ·left;have:m=l:=by omega
   subst this;simp
  ·right;refine⟨b,off+l*ei.size,ei.size,?_,Z2Z l (Z30 m a)⟩;simp[hcl,Yc]
end
end Go.Ab
