/- What the code of the program comes to on plain values. -/
import GoSem.Step
import Derived.Orders
import Derived.Below
import Derived.WalkKit
import Derived.CallsIn
import Derived.Laws.CopyRow
import Derived.Great.BuildSlice
import Derived.Deep.DeepAppendWide
import Derived.Lib.AppendStr
import Derived.Room.AppendFits
import Derived.RangeFuncRecord
import Derived.Laws.OwnMore
set_option linter.unusedSectionVars false
set_option linter.unusedVariables false
set_option linter.unusedSimpArgs false
set_option linter.defProp false
namespace Go.Ab
def ja:=@Array.getElem?_eq_some_iff
def jb:=@List.drop_eq_getElem_cons
def jc:=@List.getElem?_eq_some_iff
def jd:=@List.drop_eq_nil_of_le
def je:=@Nat.le_of_ble_eq_true
def jf:=@Nat.eq_of_beq_eq_true
def jg:=@Bool.false_eq_true
def jh:=@Option.some.injEq
def ji:=@Go.run_underlying
def jj:=@List.append_assoc
def jk:=@bne_self_eq_false
def jl:=@decide_eq_true_eq
def jm:=@Option.bind_some
def jn:=@Bool.and_eq_true
def jo:=@List.getElem_mem
def jp:=@List.append_nil
def jq:=@Option.map_some
def jr:=@List.mem_cons
def jt:=@List.all_cons
def ju:=@Bool.and_self
def jv:=@List.map_cons
def jw:=@Sum.elim_inr
def jy:=@Sem.run_bind
def jz:=@Sum.elim_inl
def jA:=@cond_false
def jB:=@cond_true
inductive DV where
 | bool (b:Bool)
 | int (k:IntKind) (n:Int)
 | str (s:ByteArray)
 | nilp
 | ptr (id off:Nat)
 | rptr (id ver i esz off:Nat)
 | pub (cs:List DV)
 | nils
 | sl (es:List (List DV))
 | rs (id ver:Nat)
 | rv (id ver i n e:Nat)
 | slen (n:Nat)
 | agg (cs:List DV)
 | tup (vs:List DV)
 | fn (f:Fn) (first caps:List DV)
 | nilfn
 | map (id:Nat)
 | nilmap
 | iface (t:TypeId) (v:DV)
 | nilif
 | iter (id:Nat)
 | yld (id:Nat)
 deriving Inhabited
inductive Tr (α:Type) where
 | leaf
 | node (l:Tr α) (v:Option α) (r:Tr α)
 deriving Inhabited
namespace Tr
variable {α:Type}
def get:Tr α->Nat->Option α
 | .leaf,_=>none
 | .node l v r,k=>bif Nat.beq k 0 then v else bif Nat.beq (k % 2) 1 then l.get (k / 2)else r.get (k / 2-1)
def setAux:Nat->Tr α->Nat->Option α->Tr α
 | 0,t,_,_=>t
 | n+1,.leaf,k,v=>bif Nat.beq k 0 then .node .leaf v .leaf else bif Nat.beq (k % 2) 1 then .node (setAux n .leaf (k / 2) v) none .leaf else .node .leaf none (setAux n .leaf (k / 2-1) v)
 | n+1,.node l x r,k,v=>bif Nat.beq k 0 then .node l v r else bif Nat.beq (k % 2) 1 then .node (setAux n l (k / 2) v) x r else .node l x (setAux n r (k / 2-1) v)
def set (t:Tr α) (k:Nat) (v:Option α):Tr α:=setAux (k+1) t k v
def mkn (l:Tr α) (v:Option α) (r:Tr α):Tr α:=match l,v,r with
 | .leaf,none,.leaf=>.leaf
 | l,v,r=>.node l v r
def tm (f:Nat->α->Option (Option α)):Tr α->(a b:Nat)->Option (Tr α)
 | .leaf,_,_=>some .leaf
 | .node l v r,a,b=>(tm f l (2*a) (a+b)).bind fun l=>(match v with|some x=>f b x|none=>some none:Option (Option α)).bind fun v=>(tm f r (2*a) (2*a+b)).bind fun r=>some (mkn l v r)
def filt (m:Nat):Tr α->(a b:Nat)->Tr α
 | .leaf,_,_=>.leaf
 | .node l v r,a,b=>mkn (filt m l (2*a) (a+b)) (bif Nat.testBit m b then v else none) (filt m r (2*a) (2*a+b))
def mapv {β:Type} (f:α->β):Tr α->Tr β
 | .leaf=>.leaf
 | .node l v r=>.node (l.mapv f) (v.map f) (r.mapv f)
def ofList (l:List (Nat×α)):Tr α:=l.foldl (fun t kv=>t.set kv.1 (some kv.2)) .leaf
end Tr
inductive Ex where
 | normal
 | exit (id:Nat)
 | ret
 | busy
 deriving Inhabited
inductive Zd where
 | cells (t:TypeId) (cs:List DV)
 | row (t:TypeId) (es:List (List DV)) (pubd ver:Nat)
 | map (es:List (DV×DV))
 | siter (s:ByteArray) (pos:Nat)
 | loop (fid:Nat) (base:Tr DV) (params:List Nat) (assign body:Code) (bid:Nat) (done:Ex)
 deriving Inhabited
inductive TK where
 | bool|int (k:IntKind)|string
 | struct (fs:List (Nat×Nat))
 | array (len elem:Nat)
 | slice (elem:Nat)
 | map (k e:Nat)
 | ptr (e:Nat)
 | func|iface|other
 deriving Inhabited
structure TI where
 k:TK
 size:Nat
 bytes:Nat
 zero:List DV
 eqOk:Bool
 keyOk:Bool
 meths:List (String×Nat)
 view:Bool
 deriving Inhabited
def TI.isAgg (t:TI):Bool:=match t.k with | .struct _ | .array _ _=>true|_=>false
inductive Acc where
 | slot (t:Nat) (elem:TypeId)
 | cell (t off:Nat) (elem:TypeId)
 deriving Inhabited
structure Z3G where
 bid:Nat
 keep:Nat
 accs:List Acc
 raw:Bool
 deriving Inhabited
structure FI where
 body:Code
 nt:Nat
 nres:List ResultVar
 vmask:Nat
 hints:List Z3G
 pur:Bool
 xm:List (Nat×Nat)
 rm:Nat
 can:Bool
 deriving Inhabited
structure Env where
 ty:Nat->Option TI
 fn:Nat->Option FI
 /-- functions of the library, told by what they come to -/
 leaf:Nat->Option (List DV->Option DV)
 /-- the copy check of a builder -/
 cc:Nat->Option TypeId
 /-- functions that recover, and do nothing else where nothing panics -/
 dfr:Nat->Bool
 /-- what the leaves ask of the world -/
 inv:World->Prop
 stays:∀w w',inv w->RowKit.Below w.heap.size w w'->inv w'
def cellsOf:DV->List DV
 | .agg cs=>cs
 | v=>[v]
def ZH:DV->Bool
 | .agg _ | .tup _=>false
 | _=>true
def ZeS:Value->Option DV
 | .bool b=>some (.bool b)
 | .int k n=>some (.int k n)
 | .string s=>some (.str s)
 | .pointer none=>some .nilp
 | .slice none 0 0=>some .nils
 | .map none=>some .nilmap
 | .nilFunc=>some .nilfn
 | .nilIface=>some .nilif
 | _=>none
def Y0 (ρ:Nat->Option DV):Operand->Option DV
 | .tmp t=>ρ t
 | .const v=>ZeS v
 | .func f=>some (.fn (.func f) [] [])
 | .global _=>none
def Z1s (ρ:Nat->Option DV):List Operand->Option (List DV)
 | []=>some []
 | x::xs=>(Y0 ρ x).bind fun v=>(Z1s ρ xs).bind fun vs=>some (v::vs)
mutual
def Zh:DV->Bool
 | .bool _ | .int _ _ | .str _ | .nilp | .nils | .sl _ | .nilfn | .nilmap | .nilif=>true
 | .agg cs=>Zc cs
 | .tup cs=>Zc cs
 | .fn _ a b=>Zc a&&Zc b
 | .iface _ v=>Zh v
 | _=>false
def Zc:List DV->Bool
 | []=>true
 | c::cs=>Zh c&&Zc cs
end
mutual
def bdd (n:Nat):DV->Bool
 | .ptr i _ | .rptr i _ _ _ _ | .rs i _ | .rv i _ _ _ _ | .map i | .iter i | .yld i=>Nat.blt i n
 | .agg cs=>Z1P n cs
 | .tup cs=>Z1P n cs
 | .fn _ a b=>Z1P n a&&Z1P n b
 | .iface _ v=>bdd n v
 | .pub cs=>Z1P n cs
 | _=>true
def Z1P (n:Nat):List DV->Bool
 | []=>true
 | c::cs=>bdd n c&&Z1P n cs
end
mutual
def frz (h:Nat->Option Zd):DV->Option DV
 | .rs id v=>(h id).bind fun | .row _ es _ u=>bif Nat.beq u v then some (.sl es)else none|_=>none
 | .agg cs=>(Z1N h cs).bind fun cs=>some (.agg cs)
 | .tup cs=>(Z1N h cs).bind fun cs=>some (.tup cs)
 | .iface t v=>(frz h v).bind fun v=>some (.iface t v)
 | .nils=>some (.sl [])
 | d=>bif Zh d then some d else none
def Z1N (h:Nat->Option Zd):List DV->Option (List DV)
 | []=>some []
 | c::cs=>(frz h c).bind fun c=>(Z1N h cs).bind fun cs=>some (c::cs)
end
mutual
def Zj:DV->List Nat
 | .rs id _=>[id]
 | .rv id _ _ _ _=>[id]
 | .agg cs=>Zk cs
 | .tup cs=>Zk cs
 | .iface _ v=>Zj v
 | _=>[]
def Zk:List DV->List Nat
 | []=>[]
 | c::cs=>Zj c++Zk cs
end
def pn (p n:Nat):Nat:=match p with|0=>0|_+1=>n
def Z4U:Zd->Zd
 | .row t es _ u=>.row t es 1 u
 | o=>o
def Zu (h:Nat->Option Zd):List Nat->List (Nat×Option Zd)
 | []=>[]
 | i::is=>(match h i with|some (.row t es p u)=>bif Nat.beq p 1 then []else [(i,some (.row t es 1 u))]|_=>[])++Zu h is
def Yg:List DV->Nat->List DV->List DV
 | cs,_,[]=>cs
 | [],_,_=>[]
 | _::cs,0,v::vs=>v::Yg cs 0 vs
 | c::cs,n+1,vs=>c::Yg cs n vs
def YO (ti:TI) (cs:List DV) (off:Nat):Option DV :=
 bif ti.isAgg then(bif Nat.ble (off+ti.size) cs.length then some (.agg ((cs.drop off).take ti.size))else none)else cs[off]?
structure Out where
 val:Option DV
 upd:List (Nat×Option Zd)
def ret (v:DV):Option Out:=some ⟨some v,[]⟩
def Zhh (op:BinOp) (x y:Int):Option DV :=
 match op with
 | .eql=>some (.bool (x==y))
 | .neq=>some (.bool (x != y))
 | .lss=>some (.bool (x<y))
 | .leq=>some (.bool (x<=y))
 | .gtr=>some (.bool (x>y))
 | .geq=>some (.bool (x>=y))
 | _=>none
def Zev (op:BinOp) (k:IntKind) (x y:Int):Option DV :=
 let a:=BitVec.ofInt k.bits x
 let b:=BitVec.ofInt k.bits y
 match op with
 | .and=>some (.int k (k.wrap (a &&& b).toNat))
 | .or=>some (.int k (k.wrap (a ||| b).toNat))
 | .xor=>some (.int k (k.wrap (a ^^^ b).toNat))
 | .andNot=>some (.int k (k.wrap (a &&& ~~~b).toNat))
 | _=>none
def Zhw (op:BinOp) (k:IntKind) (x y:Int):Option DV :=
 match op with
 | .add=>some (.int k (k.wrap (x+y)))
 | .sub=>some (.int k (k.wrap (x-y)))
 | .mul=>some (.int k (k.wrap (x*y)))
 | .quo=>bif y==0 then none else some (.int k (k.wrap (x.tdiv y)))
 | .rem=>bif y==0 then none else some (.int k (x.tmod y))
 | .and | .or | .xor | .andNot=>Zev op k x y
 | .shl | .shr=>none
 | op=>Zhh op x y
def ZbK (op:BinOp) (k:IntKind) (x y:Int):Option DV :=
 bif decide (y<0)then none else
 match op with
 | .shl=>some (.int k (k.wrap (x*2 ^ (min y.toNat k.bits))))
 | .shr=>some (.int k (x.fdiv (2 ^ (min y.toNat k.bits))))
 | _=>none
def Z5l:BinOp->Bool
 | .shl | .shr=>true
 | _=>false
def ZhU (op:BinOp) (x y:ByteArray):Option DV :=
 let eq:=x.toList==y.toList
 let lt:=Op.bytesLess x.toList y.toList
 match op with
 | .add=>bif Nat.ble (x.size+y.size) 1099511627776 then some (.str (x++y))else none
 | .eql=>some (.bool eq)
 | .neq=>some (.bool !eq)
 | .lss=>some (.bool lt)
 | .leq=>some (.bool (lt||eq))
 | .gtr=>some (.bool !(lt||eq))
 | .geq=>some (.bool !lt)
 | _=>none
def Zl:List DV->List DV->Option Bool
 | [],[]=>some true
 | .int k a::xs,.int k' b::ys=>bif k==k' then(Zl xs ys).bind fun r=>some (a==b&&r)else none
 | .bool a::xs,.bool b::ys=>(Zl xs ys).bind fun r=>some (a==b&&r)
 | .str a::xs,.str b::ys=>(Zl xs ys).bind fun r=>some (a==b&&r)
 | _,_=>none
def Zg:List DV->List DV->Bool
 | [],[]=>true
 | .int k _::zs,.int k' _::xs=>k==k'&&Zg zs xs
 | .bool _::zs,.bool _::xs=>Zg zs xs
 | .str _::zs,.str _::xs=>Zg zs xs
 | _,_=>false
def ZaS (E:Env) (op:BinOp) (t:TypeId):DV->DV->Option DV
 | .int k x,.int k' y=>bif Z5l op then ZbK op k x y else bif k==k' then Zhw op k x y else none
 | .str x,.str y=>ZhU op x y
 | .bool x,.bool y=>(E.ty t).bind fun ti=>match ti.k,op with
  | .bool,.eql=>some (.bool (x==y))
  | .bool,.neq=>some (.bool (!(x==y)))
  | _,_=>none
 | .agg x,.agg y=>(E.ty t).bind fun ti=>bif ti.eqOk&&Zg ti.zero x&&Zg ti.zero y then(match op with
  | .eql=>(Zl x y).bind fun r=>some (.bool r)
  | .neq=>(Zl x y).bind fun r=>some (.bool !r)
  | _=>none)else none
 | .sl (_::_),.nils=>(E.ty t).bind fun ti=>match ti.k,op with
  | .slice _,.eql=>some (.bool false)
  | .slice _,.neq=>some (.bool true)
  | _,_=>none
 | .iface _ _,.nilif=>(E.ty t).bind fun ti=>match ti.k,op with
  | .iface,.eql=>some (.bool false)
  | .iface,.neq=>some (.bool true)
  | _,_=>none
 | _,_=>none
def Zcv:Operand->Bool
 | .const _=>true
 | _=>false
def Zig (E:Env) (op:BinOp) (t:TypeId):Option DV:=(E.ty t).bind fun ti=>match ti.k,op with
 | .iface,.eql=>some (.bool true)
 | .iface,.neq=>some (.bool false)
 | _,_=>none
def unD (op:UnOp):DV->Option DV
 | .int k n=>match op with | .neg=>some (.int k (k.wrap (0-n)))|_=>none
 | .bool b=>match op with | .not=>some (.bool !b)|_=>none
 | _=>none
def Z3a (n:Nat):DV->Option Nat
 | .int _ i=>bif decide (0<=i)&&decide (i<n)then some i.toNat else none
 | _=>none
def Y4 (h:Nat->Option Zd):DV->Option (List (List DV))
 | .nils=>some []
 | .sl es=>some es
 | .rs id v=>(h id).bind fun | .row _ es _ u=>bif Nat.beq u v then some es else none|_=>none
 | .rv id v i n e=>(h id).bind fun | .row _ es _ u=>bif Nat.beq u v&&es.all (fun c=>Nat.beq c.length e)then some ((es.drop i).take n)else none|_=>none
 | _=>none
def Z1a (fs:List (Nat×Nat)) (E:Env):List (Nat×DV)->List DV->Option (List DV)
 | [],cs=>some cs
 | (i,v)::ps,cs=>(fs[i]?).bind fun(ft,off)=>(E.ty ft).bind fun ti =>
   bif Nat.beq (cellsOf v).length ti.size&&Nat.ble (off+ti.size) cs.length then Z1a fs E ps (Yg cs off (cellsOf v))else none
def Z1G (size:Nat):List (Nat×DV)->List DV->Option (List DV)
 | [],cs=>some cs
 | (i,v)::ps,cs=>bif Nat.beq (cellsOf v).length size&&Nat.ble (i*size+size) cs.length then Z1G size ps (Yg cs (i*size) (cellsOf v))else none
def Z27 (ρ:Nat->Option DV):List (Nat×Operand)->Option (List (Nat×DV))
 | []=>some []
 | (i,x)::ps=>(Y0 ρ x).bind fun v=>(Z27 ρ ps).bind fun vs=>some ((i,v)::vs)
def Z5J (h:Nat->Option Zd) (size:Nat):Nat->List (Nat×DV)->Option (List (List DV))
 | _,[]=>some []
 | k,(i,v)::ps=>bif Nat.beq i k&&Nat.beq (cellsOf v).length size then(Z1N h (cellsOf v)).bind fun c=>bif c.all ZH then(Z5J h size (k+1) ps).bind fun r=>some (c::r)else none else none
def Z1g:DV->Nat->Option DV
 | .ptr id off,n=>some (.ptr id (off+n))
 | .rptr id v i e off,n=>some (.rptr id v i e (off+n))
 | .pub cs,n=>some (.pub (cs.drop n))
 | _,_=>none
def Z3d (ti:TI) (h:Nat->Option Zd):DV->Option DV
 | .ptr id off=>(h id).bind fun | .cells _ cs=>YO ti cs off|_=>none
 | .rptr id v i e off=>(h id).bind fun
  | .row _ es _ u=>(es[i]?).bind fun c=>bif Nat.beq u v&&Nat.beq c.length e then YO ti c off else none
  | _=>none
 | .pub cs=>YO ti cs 0
 | _=>none
def Z5a (ti:TI) (h:Nat->Option Zd) (a v:DV):Option (List (Nat×Option Zd)) :=
 bif Nat.beq (cellsOf v).length ti.size&&(cellsOf v).all ZH then
  match a with
  | .ptr id off=>(h id).bind fun
   | .cells t cs=>bif Nat.ble (off+ti.size) cs.length then some [(id,some (.cells t (Yg cs off (cellsOf v))))]else none
   | _=>none
  | .rptr id ver i e off=>(h id).bind fun
   | .row t es p u=>(es[i]?).bind fun c=>bif Nat.beq u ver&&Nat.beq c.length e&&Nat.beq p 0&&Zc (cellsOf v)&&Nat.ble (off+ti.size) c.length then
     some [(id,some (.row t (es.set i (Yg c off (cellsOf v))) p u))]else none
   | _=>none
  | _=>none
 else none
def ZcE:DV->DV->Option DV
 | .int k x,.int _ y=>some (.int k (bif decide (y<x)then y else x))
 | _,_=>none
def ZcD:DV->DV->Option DV
 | .int k x,.int _ y=>some (.int k (bif decide (y>x)then y else x))
 | _,_=>none
def Z6u (f:DV->DV->Option DV):DV->List DV->Option DV
 | x,[]=>some x
 | x,y::ys=>(f x y).bind fun z=>Z6u f z ys
def Z5v (k:TK) (h:Nat->Option Zd) (d:DV):Option DV :=
 match k,d with
 | .string,.str s=>some (.int .i64 (s.size:Nat))
 | .map _ _,.nilmap=>some (.int .i64 0)
 | .map _ _,.map id=>(h id).bind fun | .map es=>some (.int .i64 (es.length:Nat))|_=>none
 | .slice _,.slen n=>some (.int .i64 (n:Nat))
 | .slice _,d=>(Y4 h d).bind fun es=>some (.int .i64 (es.length:Nat))
 | .array n _,_=>some (.int .i64 (n:Nat))
 | _,_=>none
def Z5S (s:ByteArray):List (List DV):=s.data.toList.map fun b=>[.int .u8 b.toNat]
def Z6Y:List (List DV)->Option (List UInt8)
 | []=>some []
 | [.int .u8 n]::es=>bif decide (0<=n)&&decide (n<256)then(Z6Y es).bind fun l=>some (UInt8.ofNat n.toNat::l)else none
 | _=>none
def Z8w (E:Env) (h:Nat->Option Zd) (t t':TypeId) (x:DV):Option (List (List DV)) :=
 bif Nat.beq t t' then Y4 h x else match x with
 | .str s=>(E.ty t').bind fun ti=>match ti.k with
  | .string=>some (Z5S s)
  | _=>none
 | _=>none
def Z3t (E:Env) (nid:Nat) (h:Nat->Option Zd) (t t':TypeId) (s x:DV):Option Out :=
 (E.ty t).bind fun ti=>match ti.k with
 | .slice e=>(E.ty e).bind fun ei=>(Z8w E h t t' x).bind fun xs=>bif Nat.blt 0 ei.size&&Nat.ble ei.bytes 100000000000 then(match s with
  | .nils=>(match xs with
   | []=>ret .nils
   | _::_=>bif xs.all (fun c=>Nat.beq c.length ei.size)&&Nat.ble (xs.length*(ei.bytes+1)) 200000000000000 then some ⟨some (.rs nid 0),[(nid,some (.row e xs 0 0))]⟩else none)
  | .rs id v=>(h id).bind fun
   | .row e' es p u=>bif Nat.beq u v&&Nat.beq e' e&&xs.all (fun c=>Nat.beq c.length ei.size)&&Nat.ble ((es.length+xs.length)*(ei.bytes+1)) 200000000000000 then
     some ⟨some (.rs id (v+1)),[(id,some (.row e (es++xs) p (v+1)))]⟩else none
   | _=>none
  | _=>none)else none
 | _=>none
def Zeb:DV->Bool
 | .int _ _ | .str _ | .bool _=>true
 | _=>false
def keyOk:DV->Bool
 | .int _ _ | .str _ | .bool _=>true
 | .agg cs=>cs.all Zeb
 | _=>false
def Yp:TI->DV->Bool:=fun ti d=>match ti.k,d with
 | .int _,.int _ _=>true
 | .string,.str _=>true
 | .bool,.bool _=>true
 | .struct _,.agg cs=>ti.eqOk&&ti.keyOk&&Zg ti.zero cs
 | _,_=>false
def Z6A:DV->DV->Option Bool
 | .int k a,.int k' b=>bif k==k' then some (a==b)else none
 | .str a,.str b=>some (a==b)
 | .bool a,.bool b=>some (a==b)
 | .agg a,.agg b=>Zl a b
 | _,_=>none
def Z2V (k:DV):List (DV×DV)->Option (Option DV)
 | []=>some none
 | (k',v)::es=>(Z6A k k').bind fun r=>bif r then some (some v)else Z2V k es
def Z4V (k v:DV):List (DV×DV)->Option (List (DV×DV))
 | []=>some [(k,v)]
 | (k',v')::es=>(Z6A k k').bind fun r=>bif r then some ((k,v)::es)else(Z4V k v es).bind fun es=>some ((k',v')::es)
def Z2F:Option DV->Nat->Nat->Option Nat
 | none,dflt,_=>some dflt
 | some (.int _ i),_,y=>bif decide (0<=i)&&decide (i<=y)then some i.toNat else none
 | _,_,_=>none
def Zej (s:ByteArray) (lo hi:Option DV):Option DV :=
 (Z2F hi s.size s.size).bind fun h=>(Z2F lo 0 h).bind fun l=>some (.str (s.extract l h))
def Z84 (es:List (List DV)) (lo hi:Option DV):Option DV :=
 (Z2F hi es.length es.length).bind fun h=>(Z2F lo 0 h).bind fun l=>some (.sl ((es.take h).drop l))
def Z39 (h:Nat->Option Zd):DV->Bool
 | .rs id _=>(match h id with|some (.row _ _ p _)=>Nat.beq p 0|_=>false)
 | _=>false
def Zfb (es:List (List DV)) (e:Nat) (d:DV) (lo hi:Option DV):Option DV :=
 (Z2F hi es.length es.length).bind fun b=>(Z2F lo 0 b).bind fun l=>match d with
 | .rs id v=>some (.rv id v l (b-l) e)
 | _=>none
def Z1e (ti:TI):Option DV:=bif ti.isAgg then some (.agg ti.zero)else ti.zero.head?
def Z20 (e:Nat):Nat->List DV->List (List DV)
 | 0,_=>[]
 | n+1,cs=>cs.take e::Z20 e n (cs.drop e)
def Z2h (ρ:Nat->Option DV):Option Operand->Option (Option DV)
 | none=>some none
 | some x=>(Y0 ρ x).bind fun v=>some (some v)
def ZE (E:Env) (nid:Nat) (ρ:Nat->Option DV) (h:Nat->Option Zd) (op:Op):Option Out :=
 match op with
 | .move x=>(Y0 ρ x).bind ret
 | .assign x=>(Y0 ρ x).bind ret
 | .pick c a b=>(Y0 ρ c).bind fun
  | .bool c=>(bif c then Y0 ρ a else Y0 ρ b).bind ret
  | _=>none
 | .alloc t=>(E.ty t).bind fun ti=>some ⟨some (.ptr nid 0),[(nid,some (.cells t ti.zero))]⟩
 | .box t x=>(Y0 ρ x).bind fun v=>bif(cellsOf v).all ZH then some ⟨some (.ptr nid 0),[(nid,some (.cells t (cellsOf v)))]⟩else none
 | .build t ps=>(E.ty t).bind fun ti=>(Z27 ρ ps.toList).bind fun vs=>match ti.k with
  | .struct fs=>(Z1a fs E vs ti.zero).bind fun cs=>ret (.agg cs)
  | .array _ e=>(E.ty e).bind fun ei=>(Z1G ei.size vs ti.zero).bind fun cs=>ret (.agg cs)
  | _=>none
 | .buildSlice t n ps=>(E.ty t).bind fun ti=>match ti.k with
  | .slice e=>(E.ty e).bind fun ei=>(Z27 ρ ps.toList).bind fun vs=>(Z5J h ei.size 0 vs).bind fun es =>
    bif Nat.beq es.length n&&Nat.ble (n*ei.size) 1048576&&Nat.blt 0 ei.size then some ⟨some (.rs nid 0),(nid,some (.row e es 0 0))::Zu h (Zk (vs.map (·.2)))⟩else none
  | _=>none
 | .load t a=>(E.ty t).bind fun ti=>(Y0 ρ a).bind fun a=>(Z3d ti h a).bind ret
 | .store t a x=>(E.ty t).bind fun ti=>(Y0 ρ a).bind fun a=>(Y0 ρ x).bind fun v=>(Z5a ti h a v).bind fun u=>some ⟨some (.tup []),u⟩
 | .nilCheck x=>(Y0 ρ x).bind fun
  | .ptr i o=>ret (.ptr i o)
  | .rptr i v j e o=>ret (.rptr i v j e o)
  | .pub cs=>ret (.pub cs)
  | _=>none
 | .binOp op t x y _=>(Y0 ρ x).bind fun dx=>(Y0 ρ y).bind fun dy=>(match dx,dy with
  | .nilif,.nilif=>bif Zcv x||Zcv y then Zig E op t else none
  | dx,dy=>ZaS E op t dx dy:Option DV).bind ret
 | .unOp op _ x=>(Y0 ρ x).bind fun x=>(unD op x).bind ret
 | .convert s d x=>(E.ty s).bind fun _=>(E.ty d).bind fun ti=>(Y0 ρ x).bind fun x=>match ti.k,x with
  | .int k,.int _ n=>ret (.int k (k.wrap n))
  | .string,.str s=>ret (.str s)
  | _,_=>none
 | .makeFunc f a c=>(Z1s ρ a.toList).bind fun a=>(Z1s ρ c.toList).bind fun c=>ret (.fn f a c)
 | .makeMap _ none=>some ⟨some (.map nid),[(nid,some (.map []))]⟩
 | .slice t x lo hi none=>(E.ty t).bind fun ti=>(Y0 ρ x).bind fun x=>(Z2h ρ lo).bind fun lo=>(Z2h ρ hi).bind fun hi=>match ti.k,x with
  | .string,.str s=>(Zej s lo hi).bind ret
  | .array n e,.ptr id off=>(E.ty e).bind fun ei=>(h id).bind fun
   | .cells _ cs=>bif Nat.ble (off+n*ei.size) cs.length&&Nat.blt 0 ei.size&&Zc ((cs.drop off).take (n*ei.size))then
     (Z84 (Z20 ei.size n (cs.drop off)) lo hi).bind fun r=>some ⟨some r,[(id,none)]⟩else none
   | _=>none
  | .slice e,d=>(E.ty e).bind fun ei=>(Y4 h d).bind fun es=>bif es.all (fun c=>Nat.beq c.length ei.size)&&Nat.blt 0 ei.size then(bif ti.view&&Z39 h d then(Zfb es ei.size d lo hi).bind ret else(Z84 es lo hi).bind fun r=>some ⟨some r,Zu h (Zj d)⟩)else none
  | _,_=>none
 | .fieldAddr s x f=>(E.ty s).bind fun ti=>(Y0 ρ x).bind fun x=>match ti.k with
  | .struct fs=>(fs[f]?).bind fun(ft,off)=>(E.ty ft).bind fun fi=>bif Nat.blt 0 fi.size then(Z1g x off).bind ret else none
  | _=>none
 | .field s x f=>(E.ty s).bind fun ti=>(Y0 ρ x).bind fun x=>match ti.k,x with
  | .struct fs,.agg cs=>(fs[f]?).bind fun(ft,off)=>(E.ty ft).bind fun fi=>(YO fi cs off).bind ret
  | _,_=>none
 | .indexAddr t x i=>(E.ty t).bind fun ti=>(Y0 ρ x).bind fun x=>(Y0 ρ i).bind fun i=>match ti.k with
  | .array len e=>(E.ty e).bind fun ei=>(Z3a len i).bind fun i=>(Z1g x (i*ei.size)).bind ret
  | .slice e=>(E.ty e).bind fun ei=>match x with
   | .sl es=>(Z3a es.length i).bind fun i=>(es[i]?).bind fun c=>bif Nat.beq c.length ei.size&&Nat.blt 0 ei.size then ret (.pub c)else none
   | .rs id v=>(h id).bind fun
    | .row _ es _ u=>(Z3a es.length i).bind fun i=>bif Nat.beq u v&&Nat.blt 0 ei.size then ret (.rptr id v i ei.size 0)else none
    | _=>none
   | _=>none
  | _=>none
 | .index t x i=>(E.ty t).bind fun ti=>(Y0 ρ x).bind fun x=>(Y0 ρ i).bind fun i=>match ti.k,x with
  | .array len e,.agg cs=>(E.ty e).bind fun ei=>(Z3a len i).bind fun i=>(YO ei cs (i*ei.size)).bind ret
  | .string,.str s=>(Z3a s.size i).bind fun i=>(s[i]?).bind fun b=>ret (.int .u8 b.toNat)
  | _,_=>none
 | .lookup t m k ok=>(E.ty t).bind fun ti=>(Y0 ρ m).bind fun m=>(Y0 ρ k).bind fun k=>match ti.k with
  | .map kt e=>(E.ty e).bind fun ei=>(E.ty kt).bind fun ki=>bif Yp ki k&&Nat.beq ei.size 1 && !ei.isAgg then
    ((match m with | .nilmap=>some [] | .map id=>(h id).bind (fun | .map es=>some es|_=>none)|_=>none):Option (List (DV×DV))).bind fun es =>
    (Z2V k es).bind fun r=>match r,ei.zero with
     | some v,_=>ret (bif ok then .tup [v,.bool true]else v)
     | none,z::_=>ret (bif ok then .tup [z,.bool false]else z)
     | _,_=>none
   else none
  | _=>none
 | .mapUpdate t m k v=>(E.ty t).bind fun ti=>(Y0 ρ m).bind fun m=>(Y0 ρ k).bind fun k=>(Y0 ρ v).bind fun v=>match ti.k,m with
  | .map kt _,.map id=>(E.ty kt).bind fun ki=>(h id).bind fun
   | .map es=>bif Yp ki k&&ZH v&&Zh v then(Z4V k v es).bind fun es=>some ⟨some (.tup []),[(id,some (.map es))]⟩else none
   | _=>none
  | _,_=>none
 | .makeInterface t x=>(E.ty t).bind fun ti=>(Y0 ρ x).bind fun v=>match ti.k with
  | .iface=>none
  | _=>ret (.iface t v)
 | .typeAssert x _ t ok=>(E.ty t).bind fun ti=>(Y0 ρ x).bind fun x=>match ti.k,x with
  | .iface,_=>none
  | _,.nilif=>bif ok then(Z1e ti).bind fun z=>ret (.tup [z,.bool false])else none
  | _,.iface t' v=>bif Nat.beq t' t then ret (bif ok then .tup [v,.bool true]else v)else bif ok then(Z1e ti).bind fun z=>ret (.tup [z,.bool false])else none
  | _,_=>none
 | .makeSlice t l c=>(E.ty t).bind fun ti=>(Y0 ρ l).bind fun l=>(Y0 ρ c).bind fun c=>match ti.k,l,c with
  | .slice e,.int _ n,.int _ n'=>(E.ty e).bind fun ei=>bif n==n'&&decide (0<=n)&&Nat.ble (n.toNat*(ei.bytes+1)) 200000000000000&&Nat.blt 0 ei.size&&Zc ei.zero then
    some ⟨some (.rs nid 0),[(nid,some (.row e (List.replicate n.toNat ei.zero) 0 0))]⟩else none
  | _,_,_=>none
 | .range t x=>(E.ty t).bind fun ti=>(Y0 ρ x).bind fun x=>match ti.k,x with
  | .string,.str s=>some ⟨some (.iter nid),[(nid,some (.siter s 0))]⟩
  | _,_=>none
 | .next it true=>(Y0 ρ it).bind fun
  | .iter id=>(h id).bind fun
   | .siter s pos=>bif decide (pos<s.size)then
     some ⟨some (.tup [.bool true,.int .i64 (pos:Nat),.int .i32 (Utf8.decode s pos).1]),[(id,some (.siter s (pos+(Utf8.decode s pos).2)))]⟩
    else ret (.tup [.bool false])
   | _=>none
  | _=>none
 | .extract t i=>(Y0 ρ t).bind fun
  | .tup vs=>(vs[i]?).bind ret
  | _=>none
 | .call c=>match c.callee with
  | .builtin .len=>(match c.args.toList,c.argTypes.toList with
   | [x],t::_=>(E.ty t).bind fun ti=>(Y0 ρ x).bind fun x=>(Z5v ti.k h x).bind ret
   | _,_=>none)
  | .builtin .append=>(match c.args.toList,c.argTypes.toList with
   | [s,x],[t,t']=>(Y0 ρ s).bind fun s=>(Y0 ρ x).bind fun x=>Z3t E nid h t t' s x
   | _,_=>none)
  | .builtin .unsafeSliceData=>(match c.args.toList with
   | [x]=>(Y0 ρ x).bind fun
    | .nils=>ret .nilp
    | .rs id v=>(h id).bind fun
     | .row _ (c::_) _ u=>bif Nat.beq u v then ret (.rptr id v 0 c.length 0)else none
     | _=>none
    | _=>none
   | _=>none)
  | .builtin .unsafeString=>(match c.args.toList,c.argTypes.toList with
   | [x,n],[t,_]=>(Y0 ρ x).bind fun x=>(Y0 ρ n).bind fun n=>(E.ty t).bind fun ti=>match x,n,ti.k with
    | .nilp,.int .i64 0,.ptr _=>ret (.str .empty)
    | .rptr id v 0 1 0,.int .i64 n,.ptr e=>(h id).bind fun
     | .row e' es _ u=>bif Nat.beq u v&&Nat.beq e e'&&n==(es.length:Nat)&&Nat.blt 0 es.length&&Nat.ble es.length 200000000000000 then(Z6Y es).bind fun l=>some ⟨some (.str ⟨l.toArray⟩),[(id,none)]⟩else none
     | _=>none
    | _,_,_=>none
   | _,_=>none)
  | .builtin .min=>(Z1s ρ c.args.toList).bind fun vs=>(match vs with|x::xs=>(Z6u ZcE x xs).bind ret|[]=>none)
  | .builtin .max=>(Z1s ρ c.args.toList).bind fun vs=>(match vs with|x::xs=>(Z6u ZcD x xs).bind ret|[]=>none)
  | _=>none
 | _=>none
def Z7k (m:String):List (String×Nat)->Option Nat
 | []=>none
 | (n,g)::l=>bif n==m then some g else Z7k m l
def target (E:Env) (ρ:Nat->Option DV) (c:Call):Option (DV×List DV) :=
 match c.callee with
 | .value f=>(Y0 ρ f).bind fun
  | .fn (.func g) first caps=>(Z1s ρ c.args.toList).bind fun as=>some (.fn (.func g) [] [],first++as++caps)
  | .yld id=>(Z1s ρ c.args.toList).bind fun as=>some (.yld id,as)
  | _=>none
 | .invoke r m=>(Y0 ρ r).bind fun
  | .iface t v=>(E.ty t).bind fun ti=>(Z7k m ti.meths).bind fun g=>(Z1s ρ c.args.toList).bind fun as=>some (.fn (.func g) [] [],v::as)
  | _=>none
 | _=>none
def Zgr:DV->Bool
 | .rv _ _ _ _ _=>true
 | _=>false
mutual
def Yx:DV->Option DV
 | .bool b=>some (.bool b)
 | .int k n=>some (.int k n)
 | .str s=>some (.str s)
 | .sl es=>some (.slen es.length)
 | .tup vs=>(Z5d vs).bind fun vs=>some (.tup vs)
 | _=>none
def Z5d:List DV->Option (List DV)
 | []=>some []
 | d::ds=>(Yx d).bind fun d=>(Z5d ds).bind fun ds=>some (d::ds)
end
def Z8W (E:Env) (h:Nat->Option Zd):DV->Option DV
 | .rv id v i n e=>(h id).bind fun
  | .row t es _ u=>bif Nat.beq u v&&Nat.beq (match E.ty t with|some ti=>ti.size|none=>0) e then some (.sl ((es.drop i).take n))else none
  | _=>none
 | d=>frz h d
def Z3M (E:Env) (h:Nat->Option Zd):List DV->Option (List DV)
 | []=>some []
 | d::ds=>(Z8W E h d).bind fun c=>(Z3M E h ds).bind fun cs=>some (c::cs)
def Z4M (E:Env) (call:Nat->List DV->Option DV) (ρ:Nat->Option DV) (h:Nat->Option Zd) (c:Call):Option Out :=
 (target E ρ c).bind fun
 | (.fn (.func g) _ _,as)=>(Z3M E h as).bind fun fs=>(call g fs).bind fun r=>bif as.any Zgr then(Yx r).bind ret else some ⟨some r,Zu h (Zk as)⟩
 | _=>none
def Z3b (op:Op):Option Call:=match op with
 | .call c=>(match c.callee with | .value _=>some c | .invoke _ _=>some c|_=>none)
 | _=>none
def Z7N (E:Env) (call:Nat->List DV->Option DV) (nid:Nat) (ρ:Nat->Option DV) (h:Nat->Option Zd) (op:Op):Option Out :=
 match Z3b op with
 | some c=>Z4M E call ρ h c
 | none=>ZE E nid ρ h op
def Ze0 (E:Env):DV×List DV->Bool
 | (.fn (.func g) _ _,_)=>match E.fn g with
  | some F=>F.pur
  | none=>false
 | _=>false
def Z42 (E:Env) (call:Nat->List DV->Option DV) (nid:Nat) (ρ:Nat->Option DV) (h:Nat->Option Zd) (op:Op):Option (Option Out) :=
 match Z3b op with
 | none=>(ZE E nid ρ h op).bind fun r=>some (some r)
 | some c=>(target E ρ c).bind fun tgt=>bif Ze0 E tgt then(Z4M E call ρ h c).bind fun r=>some (some r)else some none
structure St where
 base:Tr DV
 objs:Tr Zd
 next:Nat
abbrev Loc:=List (Nat×Option DV)
def Loc.find (l:Loc) (t:Nat):Option (Option DV):=match l with
 | []=>none
 | (s,v)::l=>bif Nat.beq s t then some v else Loc.find l t
def ZZ (V:Nat) (base:Tr DV) (loc:Loc) (t:Nat):Option DV :=
 bif Nat.testBit V t then base.get t else(match loc.find t with|some v=>v|none=>none)
def Ya (o:Tr Zd):List (Nat×Option Zd)->Tr Zd
 | []=>o
 | (i,x)::us=>Ya (o.set i x) us
def Z1y (ops:Array Oper) (ρ:Nat->Option DV) (o:Oper):Option Bool :=
 match o.guard with
 | none=>some true
 | some (j,want)=>match(ops[j]?).bind (·.dst)with
  | some t=>(match ρ t with|some (.bool b)=>some (b==want)|some _=>some false|none=>none)
  | none=>none
abbrev Yi:=Nat->List DV->Tr Zd->Nat->Option (DV×Tr Zd×Nat)
structure Mid where
 base:Tr DV
 loc:Loc
 objs:Tr Zd
 next:Nat
def Mid.put (V nt:Nat) (m:Mid) (dst:Option Tmp) (v:Option DV):Mid :=
 match dst with
 | none=>m
 | some d=>bif !Nat.blt d nt then m else bif Nat.testBit V d then { m with base:=m.base.set d v }else { m with loc:=(d,v)::m.loc }
structure YJ where
 dst:Option Tmp
 anc:Nat
 touch:List Nat
 out:Out
 new:Option (Nat×Nat)
mutual
def ZA:DV->List Nat
 | .ptr i _ | .rptr i _ _ _ _ | .rs i _ | .rv i _ _ _ _ | .map i | .iter i | .yld i=>[i]
 | .agg cs=>ZI cs
 | .tup cs=>ZI cs
 | .fn _ a b=>ZI a++ZI b
 | .iface _ v=>ZA v
 | _=>[]
def ZI:List DV->List Nat
 | []=>[]
 | c::cs=>ZA c++ZI cs
end
def touch (ρ:Nat->Option DV) (op:Op):List Nat:=op.operands.toList.flatMap fun x=>match Y0 ρ x with|some d=>ZA d|none=>[]
def Z6e (anc:Nat) (ρ:Nat->Option DV):List (Nat×YJ)->Nat->Option DV
 | [],t=>ρ t
 | (j,d)::ds,t=>bif(match d.dst with|some s=>Nat.beq s t|none=>false)then(bif Nat.testBit anc j then d.out.val else none)else Z6e anc ρ ds t
def Zw (id:Nat):List (Nat×Option Zd)->Option (Option Zd)
 | []=>none
 | (i,x)::us=>match Zw id us with
  | some y=>some y
  | none=>bif Nat.beq i id then some x else none
def Z5L (anc:Nat) (h:Nat->Option Zd):List (Nat×YJ)->Nat->Option Zd
 | [],id=>h id
 | (j,d)::ds,id=>match Zw id d.out.upd with
  | some x=>bif Nat.testBit anc j then x else none
  | none=>Z5L anc h ds id
def Z1O (ops:Array Oper) (ds:List (Nat×YJ)) (o:Oper) (k:Nat):Nat :=
 o.after.toList.foldl (fun m e=>bif Region.binds .any e&&Nat.blt e.on k then m ||| (1 <<< e.on) ||| ((ds.find? (fun d=>Nat.beq d.1 e.on)).map (·.2.anc)).getD 0 else m) 0
def YV (V nt:Nat):List (Nat×YJ)->Mid->Mid
 | [],m=>m
 | (_,d)::ds,m=>let m:=YV V nt ds m;{ m with objs:=Ya m.objs d.out.upd }.put V nt d.dst d.out.val
mutual
def rid:DV->List Nat
 | .ptr i _ | .rptr i _ _ _ _ | .rs i _ | .rv i _ _ _ _ | .map i | .iter i | .yld i=>[i]
 | .agg cs=>Z1u cs
 | .tup cs=>Z1u cs
 | .fn _ a b=>Z1u a++Z1u b
 | _=>[]
def Z1u:List DV->List Nat
 | []=>[]
 | c::cs=>rid c++Z1u cs
end
def Tr.ents {α:Type}:Tr α->(a b:Nat)->List (Nat×α)
 | .leaf,_,_=>[]
 | .node l v r,a,b=>Tr.ents l (2*a) (a+b)++((match v with|some x=>[(b,x)]|none=>[])++Tr.ents r (2*a) (2*a+b))
def Zin:Zd->List Nat
 | .cells _ cs=>Z1u cs
 | .loop _ b _ _ _ _ _=>(b.ents 1 0).flatMap fun p=>rid p.2
 | _=>[]
def Z1h (h:Nat->Option Zd):Nat->List Nat->List Nat->List Nat
 | 0,_,acc=>acc
 | _+1,[],acc=>acc
 | n+1,i::todo,acc=>bif acc.any (Nat.beq i)then Z1h h n todo acc else match h i with
  | some o=>Z1h h n (Zin o++todo) (i::acc)
  | none=>Z1h h n todo acc
def Z2z (h:Nat->Option Zd):List Nat->Tr Zd
 | []=>.leaf
 | i::is=>(Z2z h is).set i (h i)
def Z4L (o:Tr Zd) (R:List Nat) (nx:Nat):List (Nat×Option Zd):=(R++((o.ents 1 0).map (·.1)).filter (Nat.ble nx)).map fun i=>(i,o.get i)
def Z3z (run:Tr Zd->Option (DV×Tr Zd×Nat)) (h:Nat->Option Zd) (nx:Nat) (is R:List Nat):Option (Out×List Nat×Nat) :=
 (run (Z2z h R)).bind fun x=>bif Nat.ble nx x.2.2 then some (⟨some x.1,Z4L x.2.1 R nx⟩,is++R,x.2.2)else none
def Z5Y (h:Nat->Option Zd):DV->DV
 | .rs id v=>(match h id with
  | some (.row _ es p u)=>bif Nat.beq p 1&&Nat.beq u v then .sl es else .rs id v
  | _=>.rs id v)
 | d=>d
def Z3s (h:Nat->Option Zd):DV->DV
 | .agg cs=>.agg (cs.map (Z5Y h))
 | d=>Z5Y h d
def YY (callH callY:Yi) (h:Nat->Option Zd) (nx:Nat):DV×List DV->Option (Out×List Nat×Nat)
 | (.fn (.func g) _ _,as)=>Z3z (fun o=>callH g (as.map (Z3s h)) o nx) h nx (Zk as) (Z1h h 4096 (Z1u (as.map (Z3s h))) [])
 | (.yld id,as)=>Z3z (fun o=>callY id (as.map (Z3s h)) o nx) h nx (Zk as) (Z1h h 4096 (id::Z1u (as.map (Z3s h))) [])
 | _=>none
mutual
def rn (f:Nat->Nat):DV->DV
 | .ptr i o=>.ptr (f i) o
 | .rptr i v j e o=>.rptr (f i) v j e o
 | .rs i v=>.rs (f i) v
 | .rv i v k n e=>.rv (f i) v k n e
 | .agg cs=>.agg (rns f cs)
 | .tup cs=>.tup (rns f cs)
 | .fn g a c=>.fn g (rns f a) (rns f c)
 | .map i=>.map (f i)
 | .iface t v=>.iface t (rn f v)
 | .iter i=>.iter (f i)
 | .yld i=>.yld (f i)
 | .bool b=>.bool b
 | .int k n=>.int k n
 | .str s=>.str s
 | .nilp=>.nilp
 | .pub cs=>.pub cs
 | .nils=>.nils
 | .sl es=>.sl es
 | .slen n=>.slen n
 | .nilfn=>.nilfn
 | .nilmap=>.nilmap
 | .nilif=>.nilif
def rns (f:Nat->Nat):List DV->List DV
 | []=>[]
 | c::cs=>rn f c::rns f cs
end
mutual
def okD (p:Nat->Bool):DV->Bool
 | .ptr i _ | .rptr i _ _ _ _ | .rs i _ | .rv i _ _ _ _ | .map i | .iter i | .yld i=>p i
 | .agg cs=>Z1l p cs
 | .tup cs=>Z1l p cs
 | .fn _ a b=>Z1l p a&&Z1l p b
 | .iface _ v=>okD p v
 | _=>true
def Z1l (p:Nat->Bool):List DV->Bool
 | []=>true
 | c::cs=>okD p c&&Z1l p cs
end
def Tr.allV {α:Type} (p:α->Bool):Tr α->Bool
 | .leaf=>true
 | .node l v r=>l.allV p&&((match v with|some x=>p x|none=>true)&&r.allV p)
def rnO (f:Nat->Nat):Zd->Zd
 | .cells t cs=>.cells t (rns f cs)
 | .loop fid b ps as bo bid ex=>.loop fid (b.mapv (rn f)) ps as bo bid ex
 | .row t es p u=>.row t es p u
 | .map es=>.map es
 | .siter s pos=>.siter s pos
def okO (p:Nat->Bool):Zd->Bool
 | .cells _ cs=>Z1l p cs
 | .loop _ b _ _ _ _ _=>b.allV (okD p)
 | _=>true
def okH (p:Nat->Bool) (h:Nat->Option Zd):List Nat->Bool
 | []=>true
 | i::is=>(match h i with|some o=>okO p o|none=>true)&&okH p h is
def Z3D (i:Nat):List Nat->Bool
 | []=>false
 | j::js=>bif Nat.beq i j then true else Z3D i js
def Z9K:List Nat->Bool
 | []=>true
 | i::is => !Z3D i is&&Z9K is
def Z1Q (i:Nat):List Nat->Nat
 | []=>0
 | j::js=>bif Nat.beq i j then 0 else Z1Q i js+1
def Z61 (d:Nat):Nat->List Nat->Nat
 | _,[]=>d
 | 0,j::_=>j
 | n+1,_::js=>Z61 d n js
def Z2t:List Nat->Nat
 | []=>0
 | _::l=>Z2t l+1
def geN (k:Nat):List Nat->List Nat
 | []=>[]
 | i::is=>bif Nat.ble k i then i::geN k is else geN k is
def upN:Nat->Nat->List Nat
 | _,0=>[]
 | i,n+1=>i::upN (i+1) n
def Z3k (f:Nat->Nat) (h:Nat->Option Zd):List Nat->Tr Zd
 | []=>.leaf
 | i::is=>(Z3k f h is).set (f i) ((h i).map (rnO f))
def Z3Y (f:Nat->Nat) (h:Nat->Option Zd):List Nat->List (Nat×Option Zd)
 | []=>[]
 | i::is=>(f i,(h i).map (rnO f))::Z3Y f h is
def Z2s (k:Nat) (R:List Nat) (j:Nat):Nat:=bif Nat.blt j k then j else k+Z1Q j R
def Z7P (k:Nat) (x:DV×Tr Zd×Nat):Option (DV×Tr Zd×Nat) :=
 let R:=geN k (Z1h x.2.1.get 4096 (rid x.1++upN 0 k) [])
 let ok:=fun j=>Nat.blt j k||Z3D j R
 bif Z9K R&&(okD ok x.1&&okH ok x.2.1.get (upN 0 k++R))then some (rn (Z2s k R) x.1,Z3k (Z2s k R) x.2.1.get (upN 0 k++R),k+Z2t R)else none
def Z4z (R:List Nat) (i:Nat):Nat:=Z1Q i R
def ZM (k nx:Nat) (R:List Nat) (j:Nat):Nat:=bif Nat.blt j k then Z61 0 j R else nx+(j-k)
def Z48 (E:Env) (callH:Yi):Yi:=fun g as o nx=>(E.fn g).bind fun F=>bif F.can then
  let fs:=as.map fun d=>(frz o.get d).getD d
  let o1:=Ya o (Zu o.get (Zk as))
  let R:=Z1h o1.get 4096 (Z1u fs) []
  let k:=Z2t R
  bif Z9K R&&(Z1l (fun i=>Z3D i R) fs&&okH (fun i=>Z3D i R) o1.get R)then
   (callH g (rns (Z4z R) fs) (Z3k (Z4z R) o1.get R) k).bind fun x=>(Z7P k x).bind fun y =>
    some (rn (ZM k nx R) y.1,Ya o1 (Z3Y (ZM k nx R) y.2.1.get (upN 0 y.2.2)),nx+(y.2.2-k))
  else none
 else callH g as o nx
def Z5k (E:Env) (df:Bool) (ρ:Nat->Option DV):Op->Bool
 | .defer c=>df&&c.args.isEmpty&&(match c.callee with
  | .value f=>(match Y0 ρ f with
   | some (.fn (.func g) [] _)=>E.dfr g
   | _=>false)
  | _=>false)
 | _=>false
def Z2N (E:Env) (df:Bool) (call:Nat->List DV->Option DV) (callH callY:Yi) (V nt:Nat) (ops:Array Oper) (b:Nat):Nat->List Oper->Mid->Option Mid
 | _,[],m=>some m
 | k,o::os,m =>
  (Z1y ops (ZZ V m.base m.loc) o).bind fun want=>bif want then
   bif Z5k E df (ZZ V m.base m.loc) o.op then Z2N E df call callH callY V nt ops b (k+1) os (m.put V nt o.dst (some (.tup [])))else
   (Z42 E call (b+k) (ZZ V m.base m.loc) m.objs.get o.op).bind fun
   | some r=>Z2N E df call callH callY V nt ops b (k+1) os ({ m with objs:=Ya m.objs r.upd }.put V nt o.dst r.val)
   | none=>(Z3b o.op).bind fun cl=>(target E (ZZ V m.base m.loc) cl).bind fun tgt=>(YY callH callY m.objs.get m.next tgt).bind fun x =>
     Z2N E df call callH callY V nt ops b (k+1) os ({ m with objs:=Ya m.objs x.1.upd,next:=x.2.2 }.put V nt o.dst x.1.val)
  else Z2N E df call callH callY V nt ops b (k+1) os (m.put V nt o.dst (some (.tup [])))
def Z19 (E:Env) (call:Nat->List DV->Option DV) (callH callY:Yi) (V nt:Nat) (ops:Array Oper) (b:Nat):Nat->List Oper->Mid->List (Nat×YJ)->Option Mid
 | _,[],m,ds=>some (YV V nt ds m)
 | k,o::os,m,ds =>
  let anc:=Z1O ops ds o k
  let ρ:=Z6e anc (ZZ V m.base m.loc) ds
  let h:=Z5L anc m.objs.get ds
  bif o.after.all (fun e => !Region.binds .any e||Nat.blt e.on k)&&(match o.dst with|none=>true|some t=>Nat.blt t nt)&&ds.all (fun d=>Nat.testBit anc d.1||(match o.dst with
    | none=>true
    | some t => !((ops.getD d.1 o).looksAt ops).contains t && !(match d.2.dst with|some s=>Nat.beq s t|none=>false)))then
   (Z1y ops ρ o).bind fun want=>bif want then
    (Z42 E call (b+k) ρ h o.op).bind fun
    | some r=>bif r.upd.all (fun u=>ds.all (fun d=>Nat.testBit anc d.1 || !d.2.touch.contains u.1&&(Zw u.1 d.2.out.upd).isNone))then
      Z19 E call callH callY V nt ops b (k+1) os m ((k,⟨o.dst,anc,touch ρ o.op,r,none⟩)::ds)
     else none
    | none=>(Z3b o.op).bind fun cl=>(target E ρ cl).bind fun tgt=>(YY callH callY h m.next tgt).bind fun x =>
      bif ds.all (fun d=>Nat.testBit anc d.1||d.2.new.isNone&&x.1.upd.all (fun u => !d.2.touch.contains u.1&&(Zw u.1 d.2.out.upd).isNone))then
       Z19 E call callH callY V nt ops b (k+1) os { m with next:=x.2.2 } ((k,⟨o.dst,anc,x.2.1,x.1,some (m.next,x.2.2)⟩)::ds)
      else none
   else Z19 E call callH callY V nt ops b (k+1) os m ((k,⟨o.dst,anc,[],⟨some (.tup []),[]⟩,none⟩)::ds)
  else none
def Z2r (E:Env) (df:Bool) (call:Nat->List DV->Option DV) (callH callY:Yi) (V nt:Nat) (ops:Array Oper) (draw:Bool) (s:St):Option St :=
  (bif draw then Z19 E call callH callY V nt ops s.next 0 ops.toList ⟨s.base,[],s.objs,s.next+ops.size⟩ []
   else Z2N E df call callH callY V nt ops s.next 0 ops.toList ⟨s.base,[],s.objs,s.next+ops.size⟩).bind fun m=>some ⟨m.base,m.objs,m.next⟩
def Z5R (o:Tr Zd) (b0:Tr DV):Acc->Option (Nat×Nat)
 | .slot t _=>(match b0.get t with
  | some (.rs id v)=>some (id,v)
  | _=>none)
 | .cell t off _=>(match b0.get t with
  | some (.ptr q 0)=>(match o.get q with
   | some (.cells _ cs)=>(match cs[off]? with
    | some (.rs id v)=>some (id,v)
    | _=>none)
   | _=>none)
  | _=>none)
def Z5A (id v:Nat):Nat->List (Option (Nat×Nat))->Option Nat
 | _,[]=>none
 | j,some (i,u)::l=>bif Nat.beq i id&&Nat.beq u v then some j else Z5A id v (j+1) l
 | j,none::l=>Z5A id v (j+1) l
def Z3f (id:Nat):List (Option (Nat×Nat))->Bool
 | []=>false
 | some (i,_)::l=>Nat.beq i id||Z3f id l
 | none::l=>Z3f id l
mutual
def ren (n0:Nat) (L:List (Option (Nat×Nat))):DV->Option DV
 | .rs id v=>match Z5A id v 0 L with
  | some j=>some (.rs (n0+j) 0)
  | none=>bif Nat.blt id n0 && !Z3f id L then some (.rs id v)else none
 | .agg cs=>(Z2y n0 L cs).bind fun cs=>some (.agg cs)
 | .tup cs=>(Z2y n0 L cs).bind fun cs=>some (.tup cs)
 | d=>bif bdd n0 d then some d else none
def Z2y (n0:Nat) (L:List (Option (Nat×Nat))):List DV->Option (List DV)
 | []=>some []
 | c::cs=>(ren n0 L c).bind fun c=>(Z2y n0 L cs).bind fun cs=>some (c::cs)
end
def Z3E (n0:Nat) (L:List (Option (Nat×Nat))):Zd->Option Zd
 | .cells t cs=>(Z2y n0 L cs).bind fun cs=>some (.cells t cs)
 | .loop fid b ps as bo bid ex=>(b.tm (fun _ d=>(ren n0 L d).bind fun d=>some (some d)) 1 0).bind fun b=>some (.loop fid b ps as bo bid ex)
 | o=>some o
def Zdi:List (Option (Nat×Nat))->Bool
 | []=>true
 | none::l=>Zdi l
 | some (i,_)::l=>l.all (fun|some (k,_) => !Nat.beq k i|none=>true)&&Zdi l
def Z2c (o:Tr Zd) (n0:Nat):Nat->List (Option (Nat×Nat))->Tr Zd->Option (Tr Zd)
 | _,[],no=>some no
 | j,none::l,no=>Z2c o n0 (j+1) l no
 | j,some (id,v)::l,no=>(match o.get id with
  | some (.row e es p u)=>bif Nat.beq u v then Z2c o n0 (j+1) l (no.set (n0+j) (some (.row e es p 0)))else none
  | _=>none)
def Ym (E:Env) (n0:Nat):Nat->List Acc->Tr DV×Tr Zd->Option (Tr DV×Tr Zd)
 | _,[],r=>some r
 | j,.slot t e::as,(b,no)=>(match b.get t with
  | some .nils=>(E.ty e).bind fun ei=>bif Nat.blt 0 ei.size&&(no.get (n0+j)).isNone then Ym E n0 (j+1) as (b.set t (some (.rs (n0+j) 0)),no.set (n0+j) (some (.row e [] 0 0)))else none
  | _=>Ym E n0 (j+1) as (b,no))
 | j,.cell t off e::as,(b,no)=>(match b.get t with
  | some (.ptr q 0)=>(match no.get q with
   | some (.cells ct cs)=>(match cs[off]? with
    | some .nils=>(E.ty e).bind fun ei=>bif Nat.blt 0 ei.size&&(no.get (n0+j)).isNone then Ym E n0 (j+1) as (b,(no.set q (some (.cells ct (cs.set off (.rs (n0+j) 0))))).set (n0+j) (some (.row e [] 0 0)))else none
    | _=>Ym E n0 (j+1) as (b,no))
   | _=>Ym E n0 (j+1) as (b,no))
  | _=>Ym E n0 (j+1) as (b,no))
mutual
def YG:DV->List (Nat×Nat)
 | .rs id v=>[(id,v)]
 | .agg cs=>YP cs
 | .tup cs=>YP cs
 | .fn _ a b=>YP a++YP b
 | .iface _ v=>YG v
 | _=>[]
def YP:List DV->List (Nat×Nat)
 | []=>[]
 | c::cs=>YG c++YP cs
end
def ZgN:Zd->List (Nat×Nat)
 | .cells _ cs=>YP cs
 | .loop _ b _ _ _ _ _=>(b.ents 1 0).flatMap fun p=>YG p.2
 | _=>[]
def Ze9 (o:Nat->Option Zd) (p:Nat×Nat):Bool:=match o p.1 with
 | some (.row _ _ _ u)=>Nat.beq u p.2
 | _=>false
def Z8d (ok:Nat×Nat->Bool) (A:List (Option (Nat×Nat))):List (Nat×Nat)->List (Nat×Nat)->List (Nat×Nat)
 | [],acc=>acc
 | p::ps,acc=>bif ok p && !Z3f p.1 A && !Z3f p.1 (acc.map some)then Z8d ok A ps (acc++[p])else Z8d ok A ps acc
def Zb3 (o:Tr Zd) (b:Tr DV) (n0 keep:Nat) (A:List (Option (Nat×Nat))):List (Nat×Nat) :=
 Z8d (Ze9 o.get) A (((o.ents 1 0).flatMap fun p=>bif Nat.blt p.1 n0 then ZgN p.2 else [])++((b.ents 1 0).flatMap fun p=>bif Nat.testBit keep p.1 then YG p.2 else [])) []
def ZcH (E:Env) (hint:Z3G) (n0:Nat) (s:St):Option St :=
 let A:=hint.accs.map (Z5R s.objs s.base)
 let X:=Zb3 s.objs s.base n0 hint.keep A
 let L:=X.map some++A
 bif Zdi L then
  (s.base.tm (fun t d=>bif Nat.testBit hint.keep t then(ren n0 L d).bind fun d=>some (some d)else some none) 1 0).bind fun b =>
  (s.objs.tm (fun i x=>bif Nat.blt i n0 && !Z3f i L then(Z3E n0 L x).bind fun x=>some (some x)else some none) 1 0).bind fun o =>
  (Z2c s.objs n0 0 L o).bind fun o=>(Ym E n0 X.length (hint.accs) (b,o)).bind fun r=>some ⟨r.1,r.2,n0+X.length+hint.accs.length⟩
 else none
def ZcG (E:Env) (hint:Z3G) (n0:Nat) (s:St):Option St :=
 (ZcH E hint n0 s).bind fun s=>some (bif hint.raw then s else { s with objs:=s.objs.mapv Z4U })
def St.keep (m:Nat) (s:St):St:={ s with base:=s.base.filt m 1 0 }
def St.keepX (F:FI) (id:Nat) (s:St):St:=match F.xm.find? fun p=>Nat.beq p.1 id with
 | some p=>s.keep p.2
 | none=>s
def iter (nrm:St->Option St) (step:St->Option (Ex×St)):Nat->St->Option (Ex×St)
 | 0,_=>none
 | n+1,s=>(nrm s).bind fun s=>(step s).bind fun r=>match r.1 with
  | .normal=>iter nrm step n r.2
  | _=>some r
def Z6z (rnd:Option Nat) (h:Nat->Option Zd):Bool:=match rnd with
 | none=>true
 | some l=>(match h l with|some (.loop ..)=>true|_=>false)
def evC (E:Env) (rnd:Option Nat) (fid:Nat) (F:FI) (call:Nat->List DV->Option DV) (callH callY:Yi) (fuel:Nat):Nat->Code->St->Option (Ex×St)
 | _,.skip,s=>some (.normal,s)
 | _,.region _ ops draw,s=>(Z2r E rnd.isNone call callH callY F.vmask F.nt ops draw s).bind fun s=>some (.normal,s)
 | bid,.seq x y,s=>(evC E rnd fid F call callH callY fuel bid x s).bind fun r=>match r.1 with
  | .normal=>evC E rnd fid F call callH callY fuel bid y r.2
  | _=>some r
 | bid,.cond c x y,s=>(match Y0 s.base.get c with
  | some (.bool t)=>bif t then evC E rnd fid F call callH callY fuel bid x s else evC E rnd fid F call callH callY fuel bid y s
  | _=>none)
 | _,.block id c,s=>(evC E rnd fid F call callH callY fuel id c s).bind fun r=>match r.1 with
  | .exit i=>bif Nat.beq i id then some (.normal,r.2)else some r
  | _=>some r
 | bid,.loop c,s=>((F.hints.find? fun h=>Nat.beq h.bid bid):Option Z3G).bind fun hint =>
   iter (ZcG E hint s.next) (evC E rnd fid F call callH callY fuel bid c) fuel s
 | _,.exit id,s=>some (.exit id,s.keepX F id)
 | bid,.scope c,s=>evC E rnd fid F call callH callY fuel bid c s
 | _,.label _,s=>some (.normal,s)
 | _,.ret,s=>some (.ret,s.keep F.rm)
 | bid,.rangeFunc f ps assign body,s0=>bif Z6z rnd s0.objs.get then Option.bind (match(F.hints.find? fun h=>Nat.beq h.bid bid:Option Z3G)with
   | some hint=>(Ym E s0.next 0 hint.accs (s0.base,s0.objs)).bind fun r=>some (St.mk r.1 r.2 (s0.next+hint.accs.length))
   | none=>some s0) fun(s:St)=>(Y0 s.base.get f).bind fun fv=>(match fv with
  | .fn (.func g) first caps =>
   (callH g (first++[.yld s.next]++caps) (s.objs.set s.next (some (.loop fid s.base ps.toList assign body bid .normal))) (s.next+1)).bind fun x =>
    (match x.2.1.get s.next with
    | some (.loop _ _ _ _ _ _ ex)=>(match ex with | .busy=>none|_=>some (ex,{ s with objs:=x.2.1.set s.next none,next:=x.2.2 }))
    | _=>none)
  | _=>none)else none
 | _,_,_=>none
def Z4o (E:Env) (base:Nat->Option DV) (h:Nat->Option Zd):List ResultVar->Option (List DV)
 | []=>some []
 | .tmp t::rs=>(base t).bind fun v=>(Z4o E base h rs).bind fun vs=>some (v::vs)
 | .cell a t::rs=>(E.ty t).bind fun ti=>(base a).bind fun a=>(Z3d ti h a).bind fun v=>(Z4o E base h rs).bind fun vs=>some (v::vs)
def Z6G:List DV->DV
 | [v]=>v
 | vs=>.tup vs
def Z2d (V:Nat):Nat->List DV->Tr DV->Tr DV
 | _,[],b=>b
 | k,v::vs,b=>Z2d V (k+1) vs (bif Nat.testBit V k then b.set k (some v)else b)
def YW (V nt:Nat):List Nat->List DV->Tr DV->Option (Tr DV)
 | [],[],b=>some b
 | p::ps,v::vs,b=>bif Nat.blt p nt then YW V nt ps vs (bif Nat.testBit V p then b.set p (some v)else b)else none
 | _,_,_=>none
def Z9s (E:Env) (call:Nat->List DV->Option DV) (callH callY:Yi) (n:Nat):Yi:=fun f args objs next =>
 (E.fn f).bind fun F=>bif Nat.ble args.length F.nt then
  (evC E none f F call callH callY n 0 F.body ⟨Z2d F.vmask 0 args .leaf,objs,next⟩).bind fun r =>
   match r.1 with
   | .exit _ | .busy=>none
   | _=>(Z4o E r.2.base.get r.2.objs.get F.nres).bind fun vs=>some (Z6G vs,r.2.objs,r.2.next)
  else none
def ccD (t:TypeId):List DV->Tr Zd->Nat->Option (DV×Tr Zd×Nat)
 | [.ptr id 0],o,nx=>(match o.get id with
  | some (.cells t' [c0,c1])=>bif Nat.beq t' t&&(match c0 with | .nilp=>true | .ptr j 0=>Nat.beq j id|_=>false)then some (.tup [],o.set id (some (.cells t' [.ptr id 0,c1])),nx)else none
  | _=>none)
 | _,_,_=>none
def Z6X (E:Env) (f:Nat) (run:Yi):Yi:=fun g as o nx=>match E.leaf f with
 | some L=>bif Zc as then(L as).bind fun r=>bif Zh r then some (r,o,nx)else none else none
 | none=>match E.cc f with
  | some t=>ccD t as o nx
  | none=>run g as o nx
def Zdh (E:Env) (f:Nat):Bool:=(E.leaf f).isSome||(E.cc f).isSome
def evX (E:Env):Nat->Bool->Yi
 | 0,_,_,_,_,_=>none
 | n+1,false,f,args,objs,next=>Z6X E f (Z48 E (Z9s E (fun g as=>(evX E n false g as .leaf 0).bind fun x=>frz x.2.1.get x.1) (evX E n false) (evX E n true) n)) f args objs next
 | n+1,true,l,args,objs,next=>(match objs.get l with
  | some (.loop fid base ps assign body bid .normal)=>(E.fn fid).bind fun F=>(YW F.vmask F.nt ps args base).bind fun b =>
    let run:=evC E (some l) fid F (fun g as=>(evX E n false g as .leaf 0).bind fun x=>frz x.2.1.get x.1) (evX E n false) (evX E n true) n bid
    (run assign ⟨b,objs,next⟩).bind fun r=>(match r.1,r.2.objs.get l with
    | .normal,some (.loop fid2 base2 ps2 assign2 body2 bid2 .normal)=>(run body { r.2 with objs:=r.2.objs.set l (some (.loop fid2 base2 ps2 assign2 body2 bid2 .busy)) }).bind fun r=>(match r.1,r.2.objs.get l with
     | .busy,_=>none
     | ex,some (.loop fid3 base3 ps3 assign3 body3 bid3 .busy)=>some (.bool (match ex with | .normal=>true|_=>false),r.2.objs.set l (some (.loop fid3 base3 ps3 assign3 body3 bid3 ex)),r.2.next)
     | _,_=>none)
    | _,_=>none)
  | _=>none)
def evF (E:Env) (n f:Nat) (args:List DV):Option DV:=(evX E n false f args .leaf 0).bind fun x=>frz x.2.1.get x.1
end Go.Ab
namespace Go.Ab
open Go.RowKit
abbrev Gh:=Nat->Nat->Option Value
structure Bi where
 blk:Nat->Option Nat
 hdr:Nat->Nat->Option Value
mutual
def Rep (β:Bi) (G:Gh):DV->Value->Prop
 | .bool b,v=>v=.bool b
 | .int k n,v=>v=.int k n
 | .str s,v=>v=.string s
 | .nilp,v=>v=.pointer none
 | .ptr id off,v=>∃b,β.blk id=some b/\v=.pointer (some ⟨b,off,none⟩)
 | .rptr id w i e off,v=>∃b n c,β.hdr id w=some (.slice (some ⟨b,0,none⟩) n c)/\v=.pointer (some ⟨b,i*e+off,none⟩)
 | .pub cs,v=>Zc cs=true/\∃b o,v=.pointer (some ⟨b,o,none⟩)/\Pub β G b o cs
 | .nils,v=>v=.slice none 0 0
 | .sl es,v=>∃a c,(v=.slice a es.length c/\es.length<=c)/\(es=[]\/∃b o e,a=some ⟨b,o,none⟩/\Yv β G b e o es)
 | .rs id w,v=>β.hdr id w=some v/\∃a n c,v=.slice a n c
 | .rv id w i n e,v=>∃a m c a' c',β.hdr id w=some (.slice a m c)/\v=.slice a' n c'/\n<=c'/\i+n<=m/\(n=0\/∃b,a=some ⟨b,0,none⟩/\a'=some ⟨b,i*e,none⟩)
 | .slen n,v=>∃a c,v=.slice a n c/\n<=c
 | .agg cs,v=>∃vs,v=.agg vs.toArray/\Zi β G cs vs
 | .tup cs,v=>∃vs,v=.tuple vs.toArray/\Zi β G cs vs
 | .fn f a c,v=>∃as cs,v=.func f as.toArray cs.toArray/\Zi β G a as/\Zi β G c cs
 | .nilfn,v=>v=.nilFunc
 | .map id,v=>∃b,β.blk id=some b/\v=.map (some b)
 | .nilmap,v=>v=.map none
 | .iface t d,v=>∃u,v=.iface t u/\Rep β G d u
 | .nilif,v=>v=.nilIface
 | .iter id,v=>∃b,β.blk id=some b/\v=.pointer (some ⟨b,0,none⟩)
 | .yld id,v=>∃b,β.blk id=some b/\v=.func (.yield b) #[] #[]
def Zi (β:Bi) (G:Gh):List DV->List Value->Prop
 | [],vs=>vs=[]
 | d::ds,vs=>∃v vs',vs=v::vs'/\Rep β G d v/\Zi β G ds vs'
def Pub (β:Bi) (G:Gh) (b o:Nat):List DV->Prop
 | []=>True
 | d::ds=>(∃u,G b o=some u/\Rep β G d u)/\Pub β G b (o+1) ds
def Yv (β:Bi) (G:Gh) (b e o:Nat):List (List DV)->Prop
 | []=>True
 | c::cs=>c.length=e/\(Zc c=true/\c.all ZH=true)/\Pub β G b o c/\Yv β G b e (o+e) cs
end
structure Ext (β:Bi) (G:Gh) (β':Bi) (G':Gh):Prop where
 g:∀b o v,G b o=some v->G' b o=some v
 blk:∀id b,β.blk id=some b->β'.blk id=some b
 hdr:∀id u v,β.hdr id u=some v->β'.hdr id u=some v
theorem Ext.refl (β:Bi) (G:Gh):Ext β G β G:=⟨fun _ _ _ h=>h,fun _ _ h=>h,fun _ _ _ h=>h⟩
theorem Ext.trans {β β' β'':Bi} {G G' G'':Gh} (h:Ext β G β' G') (k:Ext β' G' β'' G''):Ext β G β'' G'' :=
 ⟨fun b o v x=>k.g b o v (h.g b o v x),fun id b x=>k.blk id b (h.blk id b x),fun id u v x=>k.hdr id u v (h.hdr id u v x)⟩
section mono
variable {β β':Bi} {G G':Gh}
mutual
theorem Rep.mono (i:Ext β G β' G'):∀(d:DV) (v:Value),Rep β G d v->Rep β' G' d v
 | .bool _,_,h=>by unfold Rep at h⊢;exact h
 | .int _ _,_,h=>by unfold Rep at h⊢;exact h
 | .str _,_,h=>by unfold Rep at h⊢;exact h
 | .nilp,_,h=>by unfold Rep at h⊢;exact h
 | .ptr _ _,_,h=>by unfold Rep at h⊢;obtain⟨b,g,f⟩:=h;exact⟨b,i.blk _ _ g,f⟩
 | .rptr _ _ _ _ _,_,h=>by unfold Rep at h⊢;obtain⟨b,n,c,g,f⟩:=h;exact⟨b,n,c,i.hdr _ _ _ g,f⟩
 | .pub cs,_,h=>by unfold Rep at h⊢;obtain⟨k,b,o,g,f⟩:=h;exact⟨k,b,o,g,Pub.mono i cs b o f⟩
 | .nils,_,h=>by unfold Rep at h⊢;exact h
 | .sl es,_,h=>by
  unfold Rep at h⊢;obtain⟨a,c,g,f⟩:=h;refine⟨a,c,g,?_⟩;rcases f with f|⟨b,o,e,f,j⟩
  ·exact .inl f
  ·exact .inr ⟨b,o,e,f,Yv.mono i es b e o j⟩
 | .rs _ _,_,h=>by unfold Rep at h⊢;exact⟨i.hdr _ _ _ h.1,h.2⟩
 | .rv _ _ _ _ _,_,h=>by unfold Rep at h⊢;obtain⟨a,m,c,a',c',g,f⟩:=h;exact⟨a,m,c,a',c',i.hdr _ _ _ g,f⟩
 | .slen _,_,h=>by unfold Rep at h⊢;exact h
 | .agg cs,_,h=>by unfold Rep at h⊢;obtain⟨vs,g,f⟩:=h;exact⟨vs,g,Zi.mono i cs vs f⟩
 | .tup cs,_,h=>by unfold Rep at h⊢;obtain⟨vs,g,f⟩:=h;exact⟨vs,g,Zi.mono i cs vs f⟩
 | .fn _ a c,_,h=>by unfold Rep at h⊢;obtain⟨as,cs,g,f,j⟩:=h;exact⟨as,cs,g,Zi.mono i a as f,Zi.mono i c cs j⟩
 | .nilfn,_,h=>by unfold Rep at h⊢;exact h
 | .map _,_,h=>by unfold Rep at h⊢;obtain⟨b,g,f⟩:=h;exact⟨b,i.blk _ _ g,f⟩
 | .nilmap,_,h=>by unfold Rep at h⊢;exact h
 | .iface _ d,_,h=>by unfold Rep at h⊢;obtain⟨u,g,f⟩:=h;exact⟨u,g,Rep.mono i d u f⟩
 | .nilif,_,h=>by unfold Rep at h⊢;exact h
 | .iter _,_,h=>by unfold Rep at h⊢;obtain⟨b,g,f⟩:=h;exact⟨b,i.blk _ _ g,f⟩
 | .yld _,_,h=>by unfold Rep at h⊢;obtain⟨b,g,f⟩:=h;exact⟨b,i.blk _ _ g,f⟩
theorem Zi.mono (a:Ext β G β' G'):∀(ds:List DV) (vs:List Value),Zi β G ds vs->Zi β' G' ds vs
 | [],_,h=>by unfold Zi at h⊢;exact h
 | d::ds,_,h=>by unfold Zi at h⊢;obtain⟨v,vs',b,e,c⟩:=h;exact⟨v,vs',b,Rep.mono a d v e,Zi.mono a ds vs' c⟩
theorem Pub.mono (a:Ext β G β' G'):∀(ds:List DV) (b o:Nat),Pub β G b o ds->Pub β' G' b o ds
 | [],_,_,_=>by unfold Pub;trivial
 | d::ds,b,o,h=>by unfold Pub at h⊢;obtain⟨⟨u,c,f⟩,e⟩:=h;exact⟨⟨u,a.g _ _ _ c,Rep.mono a d u f⟩,Pub.mono a ds b (o+1) e⟩
theorem Yv.mono (a:Ext β G β' G'):∀(es:List (List DV)) (b e o:Nat),Yv β G b e o es->Yv β' G' b e o es
 | [],_,_,_,_=>by unfold Yv;trivial
 | c::cs,b,e,o,h=>by unfold Yv at h⊢;obtain⟨d,f,g,i⟩:=h;exact⟨d,f,Pub.mono a c b o g,Yv.mono a cs b e (o+e) i⟩
end
end mono
section free
variable {β β':Bi} {G:Gh}
mutual
theorem Rep.free:∀(d:DV) (v:Value),Zh d=true->Rep β G d v->Rep β' G d v
 | .bool _,_,_,h=>by unfold Rep at h⊢;exact h
 | .int _ _,_,_,h=>by unfold Rep at h⊢;exact h
 | .str _,_,_,h=>by unfold Rep at h⊢;exact h
 | .nilp,_,_,h=>by unfold Rep at h⊢;exact h
 | .ptr _ _,_,hf,_=>by simp[Zh]at hf
 | .rptr _ _ _ _ _,_,hf,_=>by simp[Zh]at hf
 | .pub _,_,hf,_=>by simp[Zh]at hf
 | .nils,_,_,h=>by unfold Rep at h⊢;exact h
 | .sl es,_,_,h=>by
  unfold Rep at h⊢;obtain⟨a,c,g,f⟩:=h;refine⟨a,c,g,?_⟩;rcases f with f|⟨b,o,e,f,j⟩
  ·exact .inl f
  ·exact .inr ⟨b,o,e,f,Yv.free es b e o j⟩
 | .rs _ _,_,hf,_=>by simp[Zh]at hf
 | .rv _ _ _ _ _,_,hf,_=>by simp[Zh]at hf
 | .slen _,_,hf,_=>by simp[Zh]at hf
 | .agg cs,_,hf,h=>by unfold Rep at h⊢;obtain⟨vs,g,f⟩:=h;exact⟨vs,g,Zi.free cs vs (by simpa[Zh]using hf) f⟩
 | .tup cs,_,hf,h=>by unfold Rep at h⊢;obtain⟨vs,g,f⟩:=h;exact⟨vs,g,Zi.free cs vs (by simpa[Zh]using hf) f⟩
 | .fn _ a c,_,hf,h=>by
  unfold Rep at h⊢;obtain⟨as,cs,g,f,j⟩:=h;have i:Zc a=true/\Zc c=true:=by simpa[Zh]using hf
  exact⟨as,cs,g,Zi.free a as i.1 f,Zi.free c cs i.2 j⟩
 | .nilfn,_,_,h=>by unfold Rep at h⊢;exact h
 | .map _,_,hf,_=>by simp[Zh]at hf
 | .nilmap,_,_,h=>by unfold Rep at h⊢;exact h
 | .iface _ d,_,hf,h=>by unfold Rep at h⊢;obtain⟨u,g,f⟩:=h;exact⟨u,g,Rep.free d u (by simpa[Zh]using hf) f⟩
 | .nilif,_,_,h=>by unfold Rep at h⊢;exact h
 | .iter _,_,hf,_=>by simp[Zh]at hf
 | .yld _,_,hf,_=>by simp[Zh]at hf
theorem Zi.free:∀(ds:List DV) (vs:List Value),Zc ds=true->Zi β G ds vs->Zi β' G ds vs
 | [],_,_,h=>by unfold Zi at h⊢;exact h
 | d::ds,_,hf,h=>by
  unfold Zi at h⊢;have a:Zh d=true/\Zc ds=true:=by simpa[Zc]using hf
  obtain⟨v,vs',b,e,c⟩:=h;exact⟨v,vs',b,Rep.free d v a.1 e,Zi.free ds vs' a.2 c⟩
theorem Pub.free:∀(ds:List DV) (b o:Nat),Zc ds=true->Pub β G b o ds->Pub β' G b o ds
 | [],_,_,_,_=>by unfold Pub;trivial
 | d::ds,b,o,hf,h=>by
  unfold Pub at h⊢;have a:Zh d=true/\Zc ds=true:=by simpa[Zc]using hf
  obtain⟨⟨u,c,f⟩,e⟩:=h;exact⟨⟨u,c,Rep.free d u a.1 f⟩,Pub.free ds b (o+1) a.2 e⟩
theorem Yv.free:∀(es:List (List DV)) (b e o:Nat),Yv β G b e o es->Yv β' G b e o es
 | [],_,_,_,_=>by unfold Yv;trivial
 | c::cs,b,e,o,h=>by unfold Yv at h⊢;obtain⟨d,a,f,g⟩:=h;exact⟨d,a,Pub.free c b o a.1 f,Yv.free cs b e (o+e) g⟩
end
end free
section lists
variable {β:Bi} {G:Gh}
theorem Zm {vs:List Value}:Zi β G [] vs↔vs=[]:=by unfold Zi;exact Iff.rfl
theorem Zb {d:DV} {ds:List DV} {vs:List Value}:Zi β G (d::ds) vs↔∃v vs',vs=v::vs'/\Rep β G d v/\Zi β G ds vs':=by
 conv=>lhs;unfold Zi
theorem ZP:∀{ds:List DV} {vs:List Value},Zi β G ds vs->vs.length=ds.length
 | [],_,h=>by rw[Zm]at h;simp[h]
 | d::ds,_,h=>by
  obtain⟨v,vs',rfl,_,h⟩:=Zb.1 h;simp[ZP h]
theorem Z3T:∀{ds:List DV} {vs:List Value},Zi β G ds vs->∀{i:Nat} {d:DV},ds[i]? = some d->∃v,vs[i]? = some v/\Rep β G d v
 | [],_,_,i,d,hi=>by simp at hi
 | x::ds,_,h,i,d,hi=>by
  obtain⟨v,vs',rfl,a,h⟩:=Zb.1 h;cases i with
  | zero=>simp at hi;subst hi;exact⟨v,rfl,a⟩
  | succ i=>simpa using Z3T h (i:=i) (d:=d) (by simpa using hi)
theorem Y8:∀{ds es:List DV} {vs:List Value},Zi β G (ds++es) vs↔∃as bs,vs=as++bs/\Zi β G ds as/\Zi β G es bs
 | [],es,vs=>by
  constructor
  ·intro h;exact⟨[],vs,rfl,Zm.2 rfl,h⟩
  ·rintro⟨as,bs,rfl,a,b⟩;rw[Zm]at a;subst a;exact b
 | d::ds,es,vs=>by
  constructor
  ·intro h;obtain⟨v,vs',rfl,a,b⟩:=Zb.1 h;obtain⟨as,bs,rfl,c,e⟩:=Y8.1 b;exact⟨v::as,bs,rfl,Zb.2 ⟨v,as,rfl,a,c⟩,e⟩
  ·rintro⟨as,bs,rfl,a,b⟩;obtain⟨v,as',rfl,c,e⟩:=Zb.1 a;exact Zb.2 ⟨v,as'++bs,rfl,c,Y8.2 ⟨as',bs,rfl,e,b⟩⟩
theorem Yz:∀{ds:List DV} {vs:List Value} (n:Nat),Zi β G ds vs->Zi β G (ds.drop n) (vs.drop n)
 | [],_,n,h=>by rw[Zm]at h;subst h;simp[Zm]
 | d::ds,_,0,h=>by simpa using h
 | d::ds,_,n+1,h=>by
  obtain⟨v,vs',rfl,b,a⟩:=Zb.1 h;simpa using Yz n a
theorem YA:∀{ds:List DV} {vs:List Value} (n:Nat),Zi β G ds vs->Zi β G (ds.take n) (vs.take n)
 | [],_,n,h=>by rw[Zm]at h;subst h;simp[Zm]
 | d::ds,_,0,h=>by simp[Zm]
 | d::ds,_,n+1,h=>by
  obtain⟨v,vs',rfl,a,b⟩:=Zb.1 h;simpa using Zb.2 ⟨v,_,rfl,a,YA n b⟩
theorem ZgR {d:DV} {v:Value} (hc:ZH d=true) (h:Rep β G d v):v.oneCell'=true:=by
 cases d<;>simp[ZH]at hc<;>unfold Rep at h
 all_goals first
  | (subst h;rfl)
  | (obtain⟨b,_,rfl⟩:=h;rfl)
  | (obtain⟨b,n,c,_,rfl⟩:=h;rfl)
  | (obtain⟨_,b,o,rfl,_⟩:=h;rfl)
  | (obtain⟨a,c,⟨rfl,_⟩,_⟩:=h;rfl)
  | (obtain⟨_,a,n,c,rfl⟩:=h;rfl)
  | (obtain⟨_,_,rfl,_,_⟩:=h;rfl)
  | (obtain⟨_,_,_,_,_,_,rfl,_⟩:=h;rfl)
  | (obtain⟨_,_,rfl,_⟩:=h;rfl)
  | (obtain⟨_,rfl,_⟩:=h;rfl)
theorem Z3V {d:DV} {v:Value} (h:Rep β G d v):Zi β G (cellsOf d) v.cells.toList:=by
 have single:∀{d:DV} {v:Value},Rep β G d v->v.cells = #[v]->Zi β G [d] v.cells.toList:=fun h e=>by
  rw[e];exact Zb.2 ⟨_,[],rfl,h,Zm.2 rfl⟩
 cases d with
 | agg cs=>unfold Rep at h;obtain⟨vs,rfl,h⟩:=h;simpa[cellsOf,Value.cells]using h
 | _ =>
  refine single h ?_;unfold Rep at h
  first
  | (subst h;rfl)
  | (obtain⟨b,_,rfl⟩:=h;rfl)
  | (obtain⟨b,n,c,_,rfl⟩:=h;rfl)
  | (obtain⟨_,b,o,rfl,_⟩:=h;rfl)
  | (obtain⟨a,c,⟨rfl,_⟩,_⟩:=h;rfl)
  | (obtain⟨_,a,n,c,rfl⟩:=h;rfl)
  | (obtain⟨_,_,rfl,_,_⟩:=h;rfl)
  | (obtain⟨_,_,_,_,_,_,rfl,_⟩:=h;rfl)
  | (obtain⟨_,_,rfl,_⟩:=h;rfl)
  | (obtain⟨_,rfl,_⟩:=h;rfl)
theorem Z6a:∀{ds:List DV} {vs:List Value},ds.all ZH=true->Zi β G ds vs->∀v∈vs,v.oneCell'=true
 | [],_,_,h,v,hv=>by rw[Zm]at h;subst h;cases hv
 | d::ds,_,hc,h,v,hv=>by
  obtain⟨u,vs',rfl,a,b⟩:=Zb.1 h;simp only[jt,jn]at hc;cases hv with
  | head=>exact ZgR hc.1 a
  | tail _ hv=>exact Z6a hc.2 b v hv
end lists
end Go.Ab
namespace Go.Ab
open Go.RowKit
structure ZW (P:Program) (t:TypeId) (ti:TI):Prop where
 info:∃i z,P.info? t=some i/\i.size=ti.size/\i.bytes=ti.bytes/\i.zero=some z/\z.cells.size=ti.size/\∀β G,Zi β G ti.zero z.cells.toList
 zc:ti.zero.all ZH=true
 eqr:ti.eqOk=true->(∀(xs ys:List DV) (r:Bool),Zl xs ys=some r->Zg ti.zero xs=true->Zg ti.zero ys=true->∀(β:Bi) (G:Gh) (vx vy:List Value) (w:World),Zi β G xs vx->Zi β G ys vy →
  (Op.equal t (.agg vx.toArray) (.agg vy.toArray)).run P w=.ok r w)/\P.eqGuardType P.depth t=false
 zf:Zc ti.zero=true
 zr:ti.isAgg=false->∀d,ti.zero=[d]->∀i z,P.info? t=some i->i.zero=some z->∀β G,Rep β G d z
 zn:ti.isAgg=false->ti.zero.length=1
 za:ti.isAgg=true->∀i z,P.info? t=some i->i.zero=some z->∃cs,z=.agg cs
 meth:∀m g,Z7k m ti.meths=some g->∀(v:Value) (args:Array Value) (w:World),(callMethod (.iface t v) m args).run P w=(callFunc g (#[v]++args)).run P w
 key:ti.keyOk=true->∀(xs:List DV),Zg ti.zero xs=true->∀(b:Bool) (β:Bi) (G:Gh) (vx:List Value) (w:World),Zi β G xs vx->(Instr.checkKey b 10000 t (.agg vx.toArray)).run P w=.ok () w
 desc:match ti.k with
  | .bool=>P.underlying t=some .bool
  | .int k=>P.underlying t=some (.int k)
  | .string=>P.underlying t=some .string
  | .struct fs=>∃fields,P.underlying t=some (.struct fields)/\fields.toList.map (fun f=>(f.type,f.offset))=fs ∧
    ∃places,fields.toList.mapM (fun f=>(P.info? f.type).map fun i=>(f.offset,i.size))=some places
  | .array n e=>P.underlying t=some (.array n e)
  | .slice e=>P.underlying t=some (.slice e)
  | .map k e=>P.underlying t=some (.map k e)
  | .ptr e=>P.underlying t=some (.pointer e)
  | .func=>∃a b c,P.underlying t=some (.func a b c)
  | .iface=>∃ms,P.underlying t=some (.interface ms)
  | .other=>False
def YD (E:Env) (t:TypeId):Nat:=match E.ty t with|some ti=>ti.size|none=>0
def Yu (β:Bi) (id:Nat) (o:Zd) (b:Nat):Prop :=
 match o with
 | .row _ _ _ u=>∃n c,β.hdr id u=some (.slice (some ⟨b,0,none⟩) n c)
 | _=>β.blk id=some b
def Z70 (β:Bi) (G:Gh):List (DV×DV)->List MapEntry->Prop
 | [],ms=>ms=[]
 | (k,v)::es,ms=>∃m ms',ms=m::ms'/\Rep β G k m.key/\Rep β G v m.val/\keyOk k=true/\Zh v=true/\Z70 β G es ms'
def YU:Ex->Option Code
 | .normal | .busy=>none
 | .exit id=>some (.exit id)
 | .ret=>some .ret
def FrM (β:Bi) (G:Gh) (ρ:Nat->Option DV) (tmps:Array Value):Prop:=∀t d,ρ t=some d->∃v,tmps[t]? = some v/\Rep β G d v
theorem Z9g (p n:Nat):pn p n<=n:=by unfold pn;split<;>omega
theorem ZhL (p:Nat) {n m:Nat} (h:n<=m):pn p n<=pn p m:=by unfold pn;split<;>omega
def Z2p (E:Env) (base:Nat) (w:World) (β:Bi) (G:Gh) (id:Nat):Zd->Prop
 | .cells t cs=>∃b vs,β.blk id=some b/\w.heap[b]? = some (.cells vs t (0,0))/\Zi β G cs vs.toList/\cs.all ZH=true/\∀o,G b o=none
 | .row t es p u=>∃hdr vals,β.hdr id u=some hdr/\w.ownsRow base t (YD E t) hdr es.length vals/\Zi β G es.flatten vals ∧
   (∀c∈es,c.length=YD E t/\Zc c=true/\c.all ZH=true)/\(0<YD E t/\pn p es.length<=es.length) ∧
   (∀b,hdr.ownBlock=some b->∀o,pn p es.length*YD E t<=o->G b o=none)/\∀u',u<u'->β.hdr id u'=none
 | .map es=>∃b ms clock,β.blk id=some b/\w.heap[b]? = some (.map ms clock)/\Z70 β G es ms.toList
 | .siter s pos=>∃b,β.blk id=some b/\w.heap[b]? = some (.stringIter s pos)
 | .loop fid bs ps assign body _ ex=>∃b tmps df fn F,β.blk id=some b ∧
   w.heap[b]? = some (.loop { state:=(match ex with | .normal=>.ready | .busy=>.busy|_=>.done),pending:=YU ex,fn:=fn,tmps:=tmps,params:=ps.toArray,assign:=assign,body:=body,defers:=df }) ∧
   FrM β G bs.get tmps/\E.fn fid=some F/\tmps.size=F.nt/\∀t d,bs.get t=some d->Nat.testBit F.vmask t=true
abbrev DD:=Nat->Option (Obj×(Nat->Option Value))
def mkD:Obj×(Nat->Option Value):=(.deferred (some []),fun _=>none)
def YQ (own:List Nat) (D:DD):DD:=fun b=>if b∈own then some mkD else D b
def ZaO (own:List Nat) (D:DD):Prop:=own.Nodup/\∀b∈own,D b=none
theorem Z4k {own:List Nat} {D:DD} {b:Nat} (h:YQ own D b=none):b∉own/\D b=none:=by
 unfold YQ at h
 by_cases e:b∈own
 ·rw[if_pos e]at h;cases h
 ·rw[if_neg e]at h;exact⟨e,h⟩
theorem Z7q (D:DD):YQ [] D=D:=by funext b;simp[YQ]
theorem Z5F (d:Nat) (own:List Nat) (D:DD):YQ (d::own) D=YQ [d] (YQ own D):=by
 funext b;unfold YQ
 by_cases e:b=d
 ·simp[e]
 ·simp[e]
theorem Ze2 {d:Nat} {own:List Nat} {D:DD}:YQ (d::own) D d=some mkD:=by simp[YQ]
structure HR (E:Env) (w0:World) (G0:Gh) (D:DD) (w:World) (β:Bi) (G:Gh) (h:Nat->Option Zd):Prop where
 below:Below w0.heap.size w0 w
 g0:∀b,b<w0.heap.size->G b=G0 b
 agree:∀b o v,G b o=some v->w.cell? ⟨b,o,none⟩=some v
 obj:∀id o,h id=some o->Z2p E w0.heap.size w β G id o
 own:∀id o b,h id=some o->Yu β id o b->w0.heap.size<=b/\b<w.heap.size/\D b=none
 inj:∀id id' o o' b,h id=some o->h id'=some o'->Yu β id o b->Yu β id' o' b->id=id'
 marks:∀d x,D d=some x->w0.heap.size<=d/\w.heap[d]? = some x.1/\∀o,G d o=x.2 o
 inv0:E.inv w0
structure ZR (β:Bi) (h:Nat->Option Zd) (id:Nat):Prop where
 blk:β.blk id=none
 hdr:∀u,β.hdr id u=none
 h:h id=none
def ZJ (h:Nat->Option Zd) (u:List (Nat×Option Zd)) (id:Nat):Option Zd :=
 match Zw id u with
 | some x=>x
 | none=>h id
theorem glt {E:Env} {w0:World} {G0:Gh} {D:DD} {w:World} {β:Bi} {G:Gh} {h:Nat->Option Zd} (hh:HR E w0 G0 D w β G h) {b:Nat} (c:w.heap.size<=b) (o:Nat):G b o=none:=by
 cases hg:G b o with
 | none=>rfl
 | some v =>
  have:=hh.agree b o v hg;have a:=block_lt_of_cell this;simp at a;omega
theorem HR.inv {E:Env} {w0:World} {G0:Gh} {D:DD} {w:World} {β:Bi} {G:Gh} {h:Nat->Option Zd} (hh:HR E w0 G0 D w β G h):E.inv w:=E.stays w0 w hh.inv0 hh.below
theorem HR.dfree {E:Env} {w0:World} {G0:Gh} {D:DD} {w:World} {β:Bi} {G:Gh} {h:Nat->Option Zd} (hh:HR E w0 G0 D w β G h) {b:Nat} (a:w.heap.size<=b):D b=none:=by
 cases hd:D b with
 | none=>rfl
 | some x =>
  have:=(ja.1 (hh.marks _ x hd).2.1).1;omega
theorem Z8C {w:World} {β:Bi} {G:Gh} (c:∀b o v,G b o=some v->w.cell? ⟨b,o,none⟩=some v) {b:Nat} :
  ∀(ds:List DV) (o:Nat),Pub β G b o ds->∃vs,Zi β G ds vs/\∀j v,vs[j]? = some v->w.cell? ⟨b,o+j,none⟩=some v
 | [],_,_=>⟨[],Zm.2 rfl,by simp⟩
 | d::ds,o,h=>by
  unfold Pub at h;obtain⟨⟨u,e,g⟩,i⟩:=h;obtain⟨vs,k,f⟩:=Z8C c ds (o+1) i;refine⟨u::vs,Zb.2 ⟨u,vs,rfl,g,k⟩,fun j v a=>?_⟩;cases j with
  | zero=>simp at a;subst a;exact c _ _ _ e
  | succ j =>
   have:=f j v (by simpa using a)
   rwa [show o+1+j=o+(j+1) by omega]at this
theorem Yn (b o j:Nat):(⟨b,o,none⟩:Addr).add j=⟨b,o+j,none⟩:=by
 unfold Addr.add;split<;>simp_all
section tyfacts
variable {P:Program} {t:TypeId} {ti:TI} (ht:ZW P t ti)
include ht
theorem ZW.size:(P.info? t).map (·.size)=some ti.size:=by
 obtain⟨i,z,a,b,_⟩:=ht.info;simp[a,b]
theorem ZW.run_sizeOf (w:World):(sizeOf t).run P w=.ok ti.size w:=by
 obtain⟨i,z,a,b,_⟩:=ht.info;simp[sizeOf,typeInfo,a,b]
theorem ZW.run_zero (w:World):∃z,(zeroValue t).run P w=.ok z w/\z.cells.size=ti.size/\∀β G,Zi β G ti.zero z.cells.toList:=by
 obtain⟨i,z,a,e,_,c,b,d⟩:=ht.info;exact⟨z,by simp[zeroValue,typeInfo,a,c],b,d⟩
theorem ZW.ko:ti.k≠.other:=fun h=>by have:=ht.desc;rw[h]at this;exact this
theorem ZW.run_isAgg (e:ti.k≠.other) (w:World):(isAgg t).run P w=.ok ti.isAgg w:=by
 have d:=ht.desc;unfold isAgg TI.isAgg;cases hkk:ti.k<;>rw[hkk]at d<;>simp only at d
 all_goals first
  | (exact absurd hkk e)
  | (rw[jy,ji d w];rfl)
  | (obtain⟨f,d,_⟩:=d;rw[jy,ji d w];rfl)
  | (obtain⟨a,b,c,d⟩:=d;rw[jy,ji d w];rfl)
  | (obtain⟨a,d⟩:=d;rw[jy,ji d w];rfl)
end tyfacts
theorem Zq {β:Bi} {G:Gh} {ρ:Nat->Option DV} {a:Act} (b:FrM β G ρ a.tmps) {x:Operand} {d:DV} (h:Y0 ρ x=some d):Rep β G d (a.eval x):=by
 cases x with
 | tmp t =>
  obtain⟨v,hv,hr⟩:=b t d h;simpa[Act.eval,hv]using hr
 | const v =>
  simp only[Y0]at h;simp only[Act.eval];unfold ZeS at h;split at h<;>first|(cases h;unfold Rep;rfl)|cases h
 | func f=>simp only[Y0,jh]at h;subst h;unfold Rep;exact⟨[],[],rfl,Zm.2 rfl,Zm.2 rfl⟩
 | global g=>cases h
theorem Z1F {β:Bi} {G:Gh} {ρ:Nat->Option DV} {a:Act} (b:FrM β G ρ a.tmps):∀{xs:List Operand} {ds:List DV},Z1s ρ xs=some ds->Zi β G ds (xs.map a.eval)
 | [],ds,h=>by simp[Z1s]at h;subst h;exact Zm.2 rfl
 | x::xs,ds,h=>by
  simp only[Z1s,Option.bind_eq_some_iff]at h;obtain⟨d,c,ds',e,f⟩:=h;cases f;exact Zb.2 ⟨_,_,rfl,Zq b c,Z1F b e⟩
theorem FrM.mono {β β':Bi} {G G':Gh} (c:Ext β G β' G') {ρ:Nat->Option DV} {tm:Array Value} (h:FrM β G ρ tm):FrM β' G' ρ tm:=fun t d ht=>by
 obtain⟨v,a,b⟩:=h t d ht;exact⟨v,a,Rep.mono c d v b⟩
end Go.Ab
namespace Go.Ab
open Go.RowKit
theorem Z1w {β β':Bi} {id:Nat} (a:β'.blk id=β.blk id) (hh:∀u,β'.hdr id u=β.hdr id u) (o:Zd) (b:Nat):Yu β' id o b↔Yu β id o b:=by
 cases o<;>simp only[Yu,a,hh]
theorem Z7l {w w':World} {base:Nat} {e:TypeId} {size:Nat} {v:Value} {n:Nat} {xs:List Value} (h:w.ownsRow base e size v n xs)
  (c:∀g,v.ownBlock=some g->w'.heap[g]? = w.heap[g]?):w'.ownsRow base e size v n xs:=by
 obtain⟨b,a⟩:=h;refine⟨b,?_⟩;rcases a with a|⟨g,cap,cur,hv,d,hh,r⟩
 ·exact Or.inl a
 ·exact Or.inr ⟨g,cap,cur,hv,d,by rw[c g (by rw[hv];rfl)];exact hh,r⟩
theorem Z5E {w:World} {base:Nat} {e:TypeId} {size:Nat} {v:Value} {n:Nat} {xs:List Value} (h:w.ownsRow base e size v n xs) {g:Nat} (a:v.ownBlock=some g) :
  ∃c,v=.slice (some ⟨g,0,none⟩) n c:=by
 rcases h.2 with⟨rfl,_⟩|⟨g',cap,cur,rfl,_⟩
 ·cases a
 ·simp[Value.ownBlock]at a;subst a;exact⟨cap,rfl⟩
theorem Zah {β β':Bi} {G G':Gh} (a:Ext β G β' G'):∀{es:List (DV×DV)} {ms:List MapEntry},Z70 β G es ms->Z70 β' G' es ms
 | [],_,h=>h
 | _::_,_,⟨m,ms',h1,h2,h3,h4,h5,h6⟩=>⟨m,ms',h1,Rep.mono a _ _ h2,Rep.mono a _ _ h3,h4,h5,Zah a h6⟩
theorem Z2p.keep {E:Env} {base:Nat} {w w':World} {β β':Bi} {G G':Gh} {id:Nat} {o:Zd} (e:Ext β G β' G') (k:∀u,β'.hdr id u=β.hdr id u)
  (i:∀b,Yu β id o b->w'.heap[b]? = w.heap[b]? /\ ∀off,G' b off=G b off) (h:Z2p E base w β G id o):Z2p E base w' β' G' id o:=by
 cases o with
 | cells t cs =>
  obtain⟨b,vs,a,d,f,j,n⟩:=h;obtain⟨k1,k2⟩:=i b a;exact⟨b,vs,e.blk _ _ a,k1.trans d,Zi.mono e _ _ f,j,fun o=>(k2 o).trans (n o)⟩
 | row t es p u =>
  obtain⟨hdr,vals,a,d,f,j,n,x,r⟩:=h;have l:∀g,hdr.ownBlock=some g->Yu β id (.row t es p u) g:=fun g q=>by
   obtain⟨c,hc⟩:=Z5E d q;exact⟨es.length,c,by rw[a,hc]⟩
  refine⟨hdr,vals,e.hdr _ _ _ a,Z7l d (fun g q=>(i g (l g q)).1),Zi.mono e _ _ f,j,n,fun b m o v=>?_,fun u' y=>(k u').trans (r u' y)⟩;exact((i b (l b m)).2 o).trans (x b m o v)
 | map es =>
  obtain⟨b,ms,clock,a,d,f⟩:=h;obtain⟨k1,_⟩:=i b a;exact⟨b,ms,clock,e.blk _ _ a,k1.trans d,Zah e f⟩
 | siter s pos =>
  obtain⟨b,a,d⟩:=h;exact⟨b,e.blk _ _ a,((i b a).1).trans d⟩
 | loop fid bs ps assign body bid ex =>
  obtain⟨b,tmps,df,fn,F,a,d,f,j⟩:=h;exact⟨b,tmps,df,fn,F,e.blk _ _ a,((i b a).1).trans d,FrM.mono e f,j⟩
theorem ZU (h:Nat->Option Zd) (id:Nat) (x:Option Zd) (i:Nat):ZJ h [(id,x)] i=if i=id then x else h i:=by
 unfold ZJ
 by_cases e:i=id
 ·subst e;simp[Zw]
 ·have:Nat.beq id i=false:=by
   cases hq:Nat.beq id i with
   | false=>rfl
   | true=>exact absurd (jf hq).symm e
  simp[Zw,this,e]
theorem HR.move {E:Env} {w0:World} {G0:Gh} {D:DD} {w w':World} {β β':Bi} {G G':Gh} {h:Nat->Option Zd} (hh:HR E w0 G0 D w β G h)
  (T:Nat->Prop) (id:Nat) (o':Zd) (hx:Ext β G β' G') (hbe:Below w0.heap.size w0 w')
  (hw:∀b,¬T b->b<w.heap.size->w'.heap[b]? = w.heap[b]?) (hG:∀b,¬T b->G' b=G b) (hsz:w.heap.size<=w'.heap.size)
  (hT:∀b,T b->w0.heap.size<=b/\D b=none) (hTo:∀b id' o,T b->h id'=some o->Yu β id' o b->id'=id)
  (hag:∀b,T b->∀o v,G' b o=some v->w'.cell? ⟨b,o,none⟩=some v)
  (hob:Z2p E w0.heap.size w' β' G' id o') (s:∀b,Yu β' id o' b->T b\/∃o,h id=some o/\Yu β id o b) (n:∀b,Yu β' id o' b->b<w'.heap.size)
  (hβ:∀i,i≠id->β'.blk i=β.blk i/\∀u,β'.hdr i u=β.hdr i u):HR E w0 G0 D w' β' G' (ZJ h [(id,some o')]):=by
 have t:∀i o b,i≠id->h i=some o->Yu β i o b->¬T b:=fun i o b hi y f ht=>hi (hTo b i o ht y f);have k:∀i o,ZJ h [(id,some o')] i=some o->(i=id/\o=o')\/(i≠id/\h i=some o):=fun i o hi=>by
  rw[ZU]at hi
  by_cases e:i=id
  ·rw[if_pos e]at hi;cases hi;exact .inl ⟨e,rfl⟩
  ·rw[if_neg e]at hi;exact .inr ⟨e,hi⟩
 have m:∀b,Yu β' id o' b->w0.heap.size<=b/\D b=none:=fun b f=>by
  rcases s b f with ht|⟨o,y,l⟩
  ·exact hT b ht
  ·obtain⟨k1,_,k3⟩:=hh.own id o b y l;exact⟨k1,k3⟩
 have r:∀i o b,i≠id->h i=some o->Yu β i o b->Yu β' id o' b->False:=fun i o b hi y f l=>by
  rcases s b l with ht|⟨o2,ho2,hb2⟩
  ·exact t i o b hi y f ht
  ·exact hi (hh.inj i id o o2 b y ho2 f hb2)
 constructor
 ·exact hbe
 ·intro b f;rw[<-hh.g0 b f];refine hG b fun ht=>?_;have:=(hT b ht).1;omega
 ·intro b o v hg
  by_cases ht:T b
  ·exact hag b ht o v hg
  ·rw[hG b ht]at hg;have hc:=hh.agree b o v hg;have n:=block_lt_of_cell hc;exact(World.cell?_of_block (w:=w) (w':=w') (a:=⟨b,o,none⟩) (hw b ht n)).trans hc
 ·intro i o hi;rcases k i o hi with⟨rfl,rfl⟩|⟨c,hi⟩
  ·exact hob
  ·refine Z2p.keep hx (hβ i c).2 (fun b f=>?_) (hh.obj i o hi);have q:=t i o b c hi f;exact⟨hw b q (hh.own i o b hi f).2.1,fun off=>by rw[hG b q]⟩
 ·intro i o b hi f;rcases k i o hi with⟨rfl,rfl⟩|⟨c,hi⟩
  ·exact⟨(m b f).1,n b f,(m b f).2⟩
  ·have l:=(Z1w (hβ i c).1 (hβ i c).2 o b).1 f;obtain⟨k1,k2,k3⟩:=hh.own i o b hi l;exact⟨k1,by omega,k3⟩
 ·intro i j o p b hi hj f hc;rcases k i o hi with⟨e1,e2⟩|⟨c,z⟩<;>rcases k j p hj with⟨e3,e4⟩|⟨g,a0⟩
  ·exact e1.trans e3.symm
  ·subst e1 e2;exact(r j p b g a0 ((Z1w (hβ j g).1 (hβ j g).2 p b).1 hc) f).elim
  ·subst e3 e4;exact(r i o b c z ((Z1w (hβ i c).1 (hβ i c).2 o b).1 f) hc).elim
  ·exact hh.inj i j o p b z a0 ((Z1w (hβ i c).1 (hβ i c).2 o b).1 f) ((Z1w (hβ j g).1 (hβ j g).2 p b).1 hc)
 ·intro d x hd;obtain⟨k1,k2,k3⟩:=hh.marks d x hd;have n:d<w.heap.size:=(ja.1 k2).1;have q:¬T d:=fun ht=>by rw[(hT d ht).2]at hd;cases hd
  exact⟨k1,(hw d q n).trans k2,fun o=>by rw[hG d q];exact k3 o⟩
 ·exact hh.inv0
theorem HR.less {E:Env} {w0:World} {G0:Gh} {D:DD} {w:World} {β:Bi} {G:Gh} {h h':Nat->Option Zd} (hh:HR E w0 G0 D w β G h) (a:∀i o,h' i=some o->h i=some o) :
  HR E w0 G0 D w β G h' :=
 ⟨hh.below,hh.g0,hh.agree,fun i o hi=>hh.obj i o (a i o hi),fun i o b hi=>hh.own i o b (a i o hi),fun i j o p b hi c=>hh.inj i j o p b (a i o hi) (a j p c),hh.marks,hh.inv0⟩
theorem HR.eq {E:Env} {w0:World} {G0:Gh} {D:DD} {w:World} {β:Bi} {G:Gh} {h h':Nat->Option Zd} (hh:HR E w0 G0 D w β G h) (a:∀i,h' i=h i):HR E w0 G0 D w β G h' :=
 hh.less fun i o hi=>by rw[<-a i];exact hi
theorem HR.drew {E:Env} {w0:World} {G0:Gh} {D:DD} {w:World} {β:Bi} {G:Gh} {h:Nat->Option Zd} (hh:HR E w0 G0 D w β G h) (n:Nat) :
  HR E w0 G0 D { w with drawn:=n } β G h :=
 ⟨⟨hh.below.os,hh.below.tape,hh.below.output,hh.below.size,hh.below.block⟩,hh.g0,hh.agree,fun i o hi=>by
  have:=hh.obj i o hi;cases o<;>exact this,hh.own,hh.inj,hh.marks,hh.inv0⟩
def Z15 (β β':Bi) (h h':Nat->Option Zd) (id:Nat):Prop:=h id=none->h' id=none/\β'.blk id=β.blk id/\∀u,β'.hdr id u=β.hdr id u
theorem Z15.refl (β:Bi) (h:Nat->Option Zd) (id:Nat):Z15 β β h h id:=fun h=>⟨h,rfl,fun _=>rfl⟩
theorem Z15.trans {β β' β'':Bi} {h h' d:Nat->Option Zd} {id:Nat} (x:Z15 β β' h h' id) (y:Z15 β' β'' h' d id):Z15 β β'' h d id:=fun e=>by
 obtain⟨a,b,c⟩:=x e;obtain⟨a',b',c'⟩:=y a;exact⟨a',b'.trans b,fun u=>(c' u).trans (c u)⟩
theorem Z15.fresh {β β':Bi} {h h':Nat->Option Zd} {id:Nat} (x:Z15 β β' h h' id) (d:ZR β h id):ZR β' h' id:=by
 obtain⟨a,b,c⟩:=x d.h;exact⟨b.trans d.blk,fun u=>(c u).trans (d.hdr u),a⟩
def Z2E (β β':Bi) (h h':Nat->Option Zd) (nid:Nat):Prop:=∀id,id≠nid->Z15 β β' h h' id
theorem Z2E.refl (β:Bi) (h:Nat->Option Zd) (nid:Nat):Z2E β β h h nid:=fun id _=>Z15.refl β h id
theorem HR.lay {E:Env} {w0:World} {G0:Gh} {D:DD} {w:World} {β:Bi} {G:Gh} {h:Nat->Option Zd} (hh:HR E w0 G0 D w β G h) {nid:Nat} (k:ZR β h nid) (ob:Obj) (o':Zd)
  (d:∀t es p u,o'≠.row t es p u)
  (g:∀β',Ext β G β' G->β'.blk nid=some w.heap.size->Z2p E w0.heap.size (w.alloc ob) β' G nid o') :
  ∃β',Ext β G β' G/\β'.blk nid=some w.heap.size/\HR E w0 G0 D (w.alloc ob) β' G (ZJ h [(nid,some o')])/\Z2E β β' h (ZJ h [(nid,some o')]) nid:=by
 refine⟨{ β with blk:=fun i=>if i=nid then some w.heap.size else β.blk i },?_,?_,?_,?_⟩
 ·exact⟨fun _ _ _ h=>h,fun i b a=>by
   by_cases e:i=nid
   ·subst e;rw[k.blk]at a;cases a
   ·simp[e,a],fun _ _ _ h=>h⟩
 ·simp
 ·have m:Ext β G { β with blk:=fun i=>if i=nid then some w.heap.size else β.blk i } G:=⟨fun _ _ _ h=>h,fun i b a=>by
   by_cases e:i=nid
   ·subst e;rw[k.blk]at a;cases a
   ·simp[e,a],fun _ _ _ h=>h⟩
  have c:∀b,Yu { β with blk:=fun i=>if i=nid then some w.heap.size else β.blk i } nid o' b->b=w.heap.size:=fun b a=>by
   cases o' with
   | row t es p u=>exact absurd rfl (d t es p u)
   | _=>simp[Yu]at a;exact a.symm
  refine hh.move (fun b=>b=w.heap.size) nid o' m (hh.below.alloc hh.below.size ob) (fun b _ j=>Below.heap_alloc w ob b j) (fun _ _=>rfl) (by simp) ?_ ?_ ?_ (g _ m (by simp)) (fun b a=>.inl (c b a)) ?_ ?_
  ·rintro b rfl;refine⟨hh.below.size,?_⟩;cases q:D w.heap.size with
   | none=>rfl
   | some x =>
    have:=(ja.1 (hh.marks _ x q).2.1).1;omega
  ·rintro b id' o rfl n a;have:=(hh.own id' o _ n a).2.1;omega
  ·rintro b rfl o v l;rw[glt hh (Nat.le_refl _)]at l;cases l
  ·intro b a;rw[c b a];simp
  ·intro i hi;exact⟨by simp[hi],fun _=>rfl⟩
 ·intro id f r;exact⟨by rw[ZU,if_neg f];exact r,by simp[f],fun _=>rfl⟩
end Go.Ab
namespace Go.Ab
open Go.RowKit
def Yb (P:Program) (E:Env) (w0:World) (G0:Gh) (D:DD) (o:Oper) (a:Act) (w:World) (β:Bi) (G:Gh) (h:Nat->Option Zd) (nid:Nat) (r:Out):Prop :=
 ∃nx v w' β' G',(execOp a.eval o).run P w=.ok nx w'/\(nx=.value v\/nx=.skip/\v=undef)/\(∀d,r.val=some d->Rep β' G' d v) ∧
  Ext β G β' G'/\HR E w0 G0 D w' β' G' (ZJ h r.upd)/\Z2E β β' h (ZJ h r.upd) nid
section
variable {P:Program} {E:Env} {w0:World} {G0:Gh} {D:DD} {o:Oper} {a:Act} {w:World} {β:Bi} {G:Gh} {h:Nat->Option Zd} {nid:Nat}
theorem Zdj (h:Nat->Option Zd):ZJ h []=h:=rfl
theorem Yb.pure (hh:HR E w0 G0 D w β G h) {d:DV} {v:Value} (hr:(execOp a.eval o).run P w=.ok (.value v) w) (hv:Rep β G d v):Yb P E w0 G0 D o a w β G h nid ⟨some d,[]⟩ :=
 ⟨.value v,v,w,β,G,hr,.inl rfl,fun d' b=>by cases b;exact hv,Ext.refl β G,by rw[Zdj];exact hh,Z2E.refl β h nid⟩
theorem Z1t {d:DV} {r:Out} (h:ret d=some r):r=⟨some d,[]⟩:=by cases h;rfl
theorem Z0 {α γ:Type} {x:Option α} {f:α->Option γ} {r:γ} (h:x.bind f=some r):∃y,x=some y/\f y=some r:=Option.bind_eq_some_iff.1 h
theorem Z3 {α:Type} {c:Bool} {x:Option α} {r:α} (h:(bif c then x else none)=some r):c=true/\x=some r:=by
 cases c
 ·cases h
 ·exact⟨rfl,h⟩
theorem ZG {k:IntKind} {n:Int} {v:Value}:Rep β G (.int k n) v↔v=.int k n:=by conv=>lhs;unfold Rep
theorem ZL {b:Bool} {v:Value}:Rep β G (.bool b) v↔v=.bool b:=by conv=>lhs;unfold Rep
theorem Y9 {s:ByteArray} {v:Value}:Rep β G (.str s) v↔v=.string s:=by conv=>lhs;unfold Rep
theorem YL {cs:List DV} {v:Value}:Rep β G (.agg cs) v↔∃vs,v=.agg vs.toArray/\Zi β G cs vs:=by conv=>lhs;unfold Rep
theorem YM {cs:List DV} {v:Value}:Rep β G (.tup cs) v↔∃vs,v=.tuple vs.toArray/\Zi β G cs vs:=by conv=>lhs;unfold Rep
theorem Z1x {i n:Nat} {v:Value}:Rep β G (.ptr i n) v↔∃b,β.blk i=some b/\v=.pointer (some ⟨b,n,none⟩):=by conv=>lhs;unfold Rep
theorem Z5s {cs:List DV} {v:Value}:Rep β G (.pub cs) v↔Zc cs=true/\∃b o,v=.pointer (some ⟨b,o,none⟩)/\Pub β G b o cs:=by conv=>lhs;unfold Rep
theorem Z1V {i w j e n:Nat} {v:Value}:Rep β G (.rptr i w j e n) v↔∃b m c,β.hdr i w=some (.slice (some ⟨b,0,none⟩) m c)/\v=.pointer (some ⟨b,j*e+n,none⟩):=by conv=>lhs;unfold Rep
theorem Zbz {i w k n e:Nat} {v:Value}:Rep β G (.rv i w k n e) v↔∃a m c a' c',β.hdr i w=some (.slice a m c)/\v=.slice a' n c'/\n<=c'/\k+n<=m/\(n=0\/∃b,a=some ⟨b,0,none⟩/\a'=some ⟨b,k*e,none⟩):=by conv=>lhs;unfold Rep
theorem ZcV {n:Nat} {v:Value}:Rep β G (.slen n) v↔∃a c,v=.slice a n c/\n<=c:=by conv=>lhs;unfold Rep
theorem Z2K {i w:Nat} {v:Value}:Rep β G (.rs i w) v↔β.hdr i w=some v/\∃a n c,v=.slice a n c:=by conv=>lhs;unfold Rep
theorem Z4n {es:List (List DV)} {v:Value}:Rep β G (.sl es) v↔∃a c,(v=.slice a es.length c/\es.length<=c)/\(es=[]\/∃b o e,a=some ⟨b,o,none⟩/\Yv β G b e o es):=by conv=>lhs;unfold Rep
theorem Z1U {v:Value}:Rep β G .nils v↔v=.slice none 0 0:=by conv=>lhs;unfold Rep
theorem Zby {f:Fn} {x c:List DV} {v:Value}:Rep β G (.fn f x c) v↔∃as cs,v=.func f as.toArray cs.toArray/\Zi β G x as/\Zi β G c cs:=by conv=>lhs;unfold Rep
theorem Z8m {i:Nat} {v:Value}:Rep β G (.map i) v↔∃b,β.blk i=some b/\v=.map (some b):=by conv=>lhs;unfold Rep
theorem ZcU {i:Nat} {v:Value}:Rep β G (.iter i) v↔∃b,β.blk i=some b/\v=.pointer (some ⟨b,0,none⟩):=by conv=>lhs;unfold Rep
theorem Zf1 {i:Nat} {v:Value}:Rep β G (.yld i) v↔∃b,β.blk i=some b/\v=.func (.yield b) #[] #[]:=by conv=>lhs;unfold Rep
theorem Z6b {v:Value}:Rep β G .nilmap v↔v=.map none:=by conv=>lhs;unfold Rep
theorem Z6M {v:Value}:Rep β G .nilp v↔v=.pointer none:=by conv=>lhs;unfold Rep
theorem ZdB {op:BinOp} {x y:Int} {d:DV} (a:Zhh op x y=some d):∃v,(Op.intCmp op x y).run P w=.ok v w/\Rep β G d v:=by
 unfold Zhh at a;split at a<;>cases a<;>exact⟨_,rfl,ZL.2 rfl⟩
theorem Zc1 {op:BinOp} {k:IntKind} {x y:Int} {d:DV} (a:Zev op k x y=some d):∃v,(Op.intBits op k x y).run P w=.ok v w/\Rep β G d v:=by
 unfold Zev at a;simp only at a;split at a<;>cases a<;>exact⟨_,rfl,ZG.2 rfl⟩
theorem ZbL {op:BinOp} {k k':IntKind} {x y:Int} {d:DV} (a:ZbK op k x y=some d):∃v,(Op.shift op k x k' y).run P w=.ok v w/\Rep β G d v:=by
 unfold ZbK at a;cases hy:decide (y<0)with
 | true=>rw[hy]at a;cases a
 | false =>
  rw[hy]at a;have b:¬y<0:=by simpa using hy
  simp only[jA]at a;split at a
  ·cases a;exact⟨_,by simp only[Op.shift,if_neg b];rfl,ZG.2 rfl⟩
  ·cases a;exact⟨_,by simp only[Op.shift,if_neg b];rfl,ZG.2 rfl⟩
  ·cases a
theorem ZdK {op:BinOp} {k:IntKind} {x y:Int} {t:TypeId} {d:DV} (f:Z5l op=false) (a:Zhw op k x y=some d) :
  ∃v,(binOp op t (.int k x) (.int k y)).run P w=.ok v w/\Rep β G d v:=by
 cases op<;>simp only[Z5l,Bool.true_eq_false]at f<;>simp only[Zhw]at a
 case add=>cases a;exact⟨_,by simp[binOp,Op.intArith],ZG.2 rfl⟩
 case sub=>cases a;exact⟨_,by simp[binOp,Op.intArith],ZG.2 rfl⟩
 case mul=>cases a;exact⟨_,by simp[binOp,Op.intArith],ZG.2 rfl⟩
 case quo =>
  cases hy:y==0 with
  | true=>rw[hy]at a;cases a
  | false =>
   rw[hy]at a;have c:¬y=0:=by simpa using hy
   cases a;exact⟨_,by simp only[binOp,Op.intDiv,if_neg c];simp,ZG.2 rfl⟩
 case rem =>
  cases hy:y==0 with
  | true=>rw[hy]at a;cases a
  | false =>
   rw[hy]at a;have c:¬y=0:=by simpa using hy
   cases a;exact⟨_,by simp only[binOp,Op.intDiv,if_neg c];simp,ZG.2 rfl⟩
 all_goals first
  | (obtain⟨v,b,e⟩:=Zc1 (P:=P) (w:=w) (β:=β) (G:=G) a;exact⟨v,by simpa[binOp]using b,e⟩)
  | (obtain⟨v,b,e⟩:=ZdB (P:=P) (w:=w) (β:=β) (G:=G) a;exact⟨v,by simpa[binOp]using b,e⟩)
theorem Zei {op:BinOp} {x y:ByteArray} {t:TypeId} {d:DV} (a:ZhU op x y=some d):∃v,(binOp op t (.string x) (.string y)).run P w=.ok v w/\Rep β G d v:=by
 cases op<;>simp only[ZhU,reduceCtorEq]at a
 case add =>
  obtain⟨b,e⟩:=Z3 a;cases e;have f:x.size+y.size<=1099511627776:=je b;refine⟨_,?_,Y9.2 rfl⟩;have c:¬(((x.size+y.size:Nat):Int)>IntKind.i64.max):=by
   have:IntKind.i64.max=9223372036854775807:=by decide
   omega
  simp only[binOp,Op.stringOp,if_neg c];rfl
 all_goals (cases a;exact⟨_,by simp only[binOp,Op.stringOp];rfl,ZL.2 rfl⟩)
theorem Z2q {op:BinOp} {t:TypeId} {x y:Operand} {u v:Value} (a:u≠.nilIface) (b:∀cs,u≠.agg cs):(eqGuard op t x y u v).run P w=.ok () w:=by
 unfold eqGuard;cases u<;>first|exact absurd rfl a|exact absurd rfl (b _)|(cases op<;>rfl)
theorem Zcb {op:BinOp} {t:TypeId} {x y:Operand} {u v:Array Value} (a:P.eqGuardType P.depth t=false):(eqGuard op t x y (.agg u) (.agg v)).run P w=.ok () w:=by
 unfold eqGuard;cases op<;>first|rfl|(simp[a,jy])
theorem Z7v {t:TypeId} (a:P.underlying t=some .bool) (d:Nat) (x y:Bool):(Op.equalIn (d+1) t (.bool x) (.bool y)).run P w=.ok (x==y) w:=by
 simp[Op.equalIn,ji a]
theorem Z7x {t e:TypeId} (a:P.underlying t=some (.slice e)) (d:Nat) (A:Addr) (n c:Nat):(Op.equalIn (d+1) t (.slice (some A) n c) (.slice none 0 0)).run P w=.ok false w:=by
 simp[Op.equalIn,ji a]
theorem Z58 {t e:TypeId} (a:P.underlying t=some (.slice e)) (A:Addr) (n c:Nat):(Op.equal t (.slice (some A) n c) (.slice none 0 0)).run P w=.ok false w :=
 Z7x a 9999 A n c
theorem Z7w {t:TypeId} {ms:_} (c:P.underlying t=some (.interface ms)) (d:Nat) (a:TypeId) (b:Value):(Op.equalIn (d+1) t (.iface a b) .nilIface).run P w=.ok false w:=by
 simp[Op.equalIn,ji c]
theorem Z57 {t:TypeId} {ms:_} (c:P.underlying t=some (.interface ms)) (a:TypeId) (b:Value):(Op.equal t (.iface a b) .nilIface).run P w=.ok false w:=Z7w c 9999 a b
theorem Z9u {t:TypeId} {ms:_} (a:P.underlying t=some (.interface ms)) (d:Nat):(Op.equalIn (d+1) t .nilIface .nilIface).run P w=.ok true w:=by
 simp[Op.equalIn,ji a]
theorem Z4q {t:TypeId} {ms:_} (a:P.underlying t=some (.interface ms)):(Op.equal t .nilIface .nilIface).run P w=.ok true w:=Z9u a 9999
theorem ZdR (hE:∀t ti,E.ty t=some ti->ZW P t ti) {op:BinOp} {t:TypeId} {x y:Operand} (hc:(Zcv x||Zcv y)=true) {d:DV} (b:Zig E op t=some d) :
  ∃r,(do eqGuard op t x y .nilIface .nilIface;binOp op t .nilIface .nilIface:Sem Value).run P w=.ok r w/\Rep β G d r:=by
 unfold Zig at b;obtain⟨ti,ht,b⟩:=Z0 b;have a:=(hE t ti ht).desc;have e:(eqGuard op t x y .nilIface .nilIface).run P w=.ok () w:=by
  unfold eqGuard;cases op<;>first|rfl|(cases x<;>cases y<;>first|rfl|simp[Zcv]at hc)
 split at b
 ·rename_i c _;rw[c]at a;obtain⟨ms,a⟩:=a;cases b;exact⟨_,by rw[jy,e];simp[Result.andThen,binOp,Z4q a],ZL.2 rfl⟩
 ·rename_i c _;rw[c]at a;obtain⟨ms,a⟩:=a;cases b;exact⟨_,by rw[jy,e];simp[Result.andThen,binOp,Z4q a],ZL.2 rfl⟩
 ·cases b
theorem Z56 {t:TypeId} (a:P.underlying t=some .bool) (x y:Bool):(Op.equal t (.bool x) (.bool y)).run P w=.ok (x==y) w :=
 Z7v a 9999 x y
theorem Zdy (hE:∀t ti,E.ty t=some ti->ZW P t ti) {op:BinOp} {t:TypeId} {x y:Operand} {dx dy d:DV} {u v:Value} (f:ZaS E op t dx dy=some d)
  (i:Rep β G dx u) (hy:Rep β G dy v):∃r,(do eqGuard op t x y u v;binOp op t u v:Sem Value).run P w=.ok r w/\Rep β G d r:=by
 unfold ZaS at f;split at f
 ·rename_i k n k' m;rw[ZG]at i hy;subst i hy;have l:(eqGuard op t x y (.int k n) (.int k' m)).run P w=.ok () w:=Z2q (by simp) (by simp)
  cases hs:Z5l op with
  | true =>
   rw[hs]at f;obtain⟨r,p,z⟩:=ZbL (P:=P) (w:=w) (β:=β) (G:=G) (k':=k') f;refine⟨r,?_,z⟩;rw[jy,l];cases op<;>simp[Z5l]at hs<;>simpa[binOp,Result.andThen]using p
  | false =>
   rw[hs]at f;simp only[jA]at f;obtain⟨j,a5⟩:=Z3 f;clear f;have j:k=k':=by simpa using j
   subst j;obtain⟨r,p,z⟩:=ZdK (P:=P) (w:=w) (β:=β) (G:=G) (t:=t) hs a5;refine⟨r,?_,z⟩;rw[jy,l];simpa[Result.andThen]using p
 ·rename_i s s';rw[Y9]at i hy;subst i hy;obtain⟨r,p,z⟩:=Zei (P:=P) (w:=w) (β:=β) (G:=G) (t:=t) f;refine⟨r,?_,z⟩;rw[jy,Z2q (by simp) (by simp)]
  simpa[Result.andThen]using p
 ·rename_i b b';obtain⟨ti,ht,f⟩:=Z0 f;have g:=(hE t ti ht).desc;rw[ZL]at i hy;subst i hy;have l:(eqGuard op t x y (.bool b) (.bool b')).run P w=.ok () w:=Z2q (by simp) (by simp)
  split at f
  ·rename_i j _;rw[j]at g;cases f;exact⟨_,by rw[jy,l];simp[Result.andThen,binOp,Z56 g],ZL.2 rfl⟩
  ·rename_i j _;rw[j]at g;cases f;exact⟨_,by rw[jy,l];simp[Result.andThen,binOp,Z56 g],ZL.2 rfl⟩
  ·cases f
 ·rename_i cs cs';obtain⟨ti,ht,f⟩:=Z0 f;obtain⟨hc,f⟩:=Z3 f;simp only[jn]at hc;obtain⟨⟨a4,a2⟩,a3⟩:=hc;obtain⟨a0,l⟩:=(hE t ti ht).eqr a4;rw[YL]at i hy;obtain⟨vx,rfl,i⟩:=i;obtain⟨vy,rfl,hy⟩:=hy;have a1:(eqGuard op t x y (.agg vx.toArray) (.agg vy.toArray)).run P w=.ok () w:=Zcb l;split at f
  ·obtain⟨r,p,z⟩:=Z0 f;cases z;have:=a0 cs cs' r p a2 a3 β G vx vy w i hy;exact⟨_,by rw[jy,a1];simp[Result.andThen,binOp,this],ZL.2 rfl⟩
  ·obtain⟨r,p,z⟩:=Z0 f;cases z;have:=a0 cs cs' r p a2 a3 β G vx vy w i hy;exact⟨_,by rw[jy,a1];simp[Result.andThen,binOp,this],ZL.2 rfl⟩
  ·cases f
 ·rename_i c cs;obtain⟨ti,ht,f⟩:=Z0 f;have g:=(hE t ti ht).desc;unfold Rep at i;obtain⟨a,cp,⟨rfl,_⟩,h|⟨b,o,e,rfl,_⟩⟩:=i
  ·cases h
  rw[Z1U]at hy;subst hy;have l:(eqGuard op t x y (.slice (some ⟨b,o,none⟩) (c::cs).length cp) (.slice none 0 0)).run P w=.ok () w:=Z2q (by simp) (by simp)
  split at f
  ·rename_i j _;rw[j]at g;cases f;exact⟨_,by rw[jy,l];simp[Result.andThen,binOp,Z58 g],ZL.2 rfl⟩
  ·rename_i j _;rw[j]at g;cases f;exact⟨_,by rw[jy,l];simp[Result.andThen,binOp,Z58 g],ZL.2 rfl⟩
  ·cases f
 ·rename_i t' d';obtain⟨ti,ht,f⟩:=Z0 f;have g:=(hE t ti ht).desc;unfold Rep at i hy;obtain⟨q,rfl,_⟩:=i;subst hy;have l:(eqGuard op t x y (.iface t' q) .nilIface).run P w=.ok () w:=Z2q (by simp) (by simp)
  split at f
  ·rename_i j _;rw[j]at g;obtain⟨ms,g⟩:=g;cases f;exact⟨_,by rw[jy,l];simp[Result.andThen,binOp,Z57 g],ZL.2 rfl⟩
  ·rename_i j _;rw[j]at g;obtain⟨ms,g⟩:=g;cases f;exact⟨_,by rw[jy,l];simp[Result.andThen,binOp,Z57 g],ZL.2 rfl⟩
  ·cases f
 ·cases f
end
end Go.Ab
namespace Go.Ab
open Go.RowKit
section
variable {P:Program} {E:Env} {w0:World} {G0:Gh} {D:DD} {o:Oper} {a:Act} {w:World} {β:Bi} {G:Gh} {h:Nat->Option Zd} {nid:Nat} {ρ:Nat->Option DV}
theorem ZfU {op:UnOp} {dx d:DV} {u:Value} (a:unD op dx=some d) (b:Rep β G dx u):∃r,(Op.unary op u).run P w=.ok r w/\Rep β G d r:=by
 unfold unD at a;split at a
 ·rw[ZG]at b;subst b;split at a
  ·cases a;exact⟨_,by simp[Op.unary,Op.intArith],ZG.2 rfl⟩
  ·cases a
 ·rw[ZL]at b;subst b;split at a
  ·cases a;exact⟨_,by simp[Op.unary],ZL.2 rfl⟩
  ·cases a
 ·cases a
theorem ZdQ {x y d:DV} {u v:Value} (a:ZcE x y=some d) (b:Rep β G x u) (hy:Rep β G y v):∃r,(Builtin.min2 u v).run P w=.ok r w/\Rep β G d r:=by
 unfold ZcE at a;split at a
 ·rw[ZG]at b hy;subst b hy;cases a;refine⟨_,rfl,ZG.2 ?_⟩;rename_i k x _ y
  by_cases hl:y<x<;>simp[hl]
 ·cases a
theorem ZdP {x y d:DV} {u v:Value} (a:ZcD x y=some d) (b:Rep β G x u) (hy:Rep β G y v):∃r,(Builtin.max2 u v).run P w=.ok r w/\Rep β G d r:=by
 unfold ZcD at a;split at a
 ·rw[ZG]at b hy;subst b hy;cases a;refine⟨_,rfl,ZG.2 ?_⟩;rename_i k x _ y
  by_cases hl:y>x<;>simp[hl]
 ·cases a
theorem Z4N {f:DV->DV->Option DV} {g:Value->Value->Sem Value}
  (b:∀{x y d:DV} {u v:Value},f x y=some d->Rep β G x u->Rep β G y v->∃r,(g u v).run P w=.ok r w/\Rep β G d r) :
  ∀{ds:List DV} {vs:List Value} {x d:DV} {u:Value},Z6u f x ds=some d->Rep β G x u->Zi β G ds vs->∃r,(vs.foldlM g u).run P w=.ok r w/\Rep β G d r
 | [],vs,x,d,u,hd,hx,a=>by
  rw[Zm]at a;subst a;simp only[Z6u,jh]at hd;subst hd;exact⟨u,rfl,hx⟩
 | y::ds,vs,x,d,u,hd,hx,a=>by
  obtain⟨v,vs',rfl,hy,a⟩:=Zb.1 a;simp only[Z6u]at hd;obtain⟨z,c,e⟩:=Z0 hd;obtain⟨r,i,j⟩:=b c hx hy;obtain⟨r',h,k⟩:=Z4N b e j a;exact⟨r',by simp[List.foldlM_cons,jy,i,h],k⟩
theorem Z9e {t:TypeId} {ti:TI} (ht:ZW P t ti) (e:ti.k≠.other) {cs:List DV} {vs:List Value} {off:Nat} {d:DV} (hc:Zi β G cs vs) (a:YO ti cs off=some d) :
  ∃r,(part t vs.toArray off).run P w=.ok r w/\Rep β G d r:=by
 unfold YO at a;unfold part;rw[jy,ht.run_isAgg e];cases ha:ti.isAgg with
 | true =>
  rw[ha]at a;simp only[jB]at a;obtain⟨_,a⟩:=Z3 a;cases a;refine⟨.agg (((vs.drop off).take ti.size)).toArray,?_,YL.2 ⟨_,rfl,YA _ (Yz _ hc)⟩⟩;simp[Result.andThen,ht.run_sizeOf]
 | false =>
  rw[ha]at a;simp only[jA]at a;obtain⟨v,b,c⟩:=Z3T hc a;exact⟨v,by simp[Result.andThen,b],c⟩
theorem Z3C {t:TypeId} {ti:TI} (ht:ZW P t ti) (p:ti.k≠.other) {cs:List DV} {vs:List Value} {b o:Nat} {n:Nat} {d:DV} (hc:Zi β G cs vs)
  (a:∀j v,vs[j]? = some v->w.cell? ⟨b,o+j,none⟩=some v) (c:YO ti cs n=some d):∃r,(loadVar t ⟨b,o+n,none⟩).run P w=.ok r w/\Rep β G d r:=by
 unfold YO at c;unfold loadVar;rw[jy,ht.run_isAgg p];cases ha:ti.isAgg with
 | true =>
  rw[ha]at c;simp only[jB]at c;obtain⟨g,c⟩:=Z3 c;cases c;have g:n+ti.size<=cs.length:=je g;have q:=ZP hc;have e:=run_loadCells_list (P:=P) w ⟨b,o+n,none⟩ ((vs.drop n).take ti.size) (fun j v h=>by
   rw[Yn];have i:vs[n+j]? = some v:=by
    rw[List.getElem?_take]at h;split at h
    ·simpa using h
    ·cases h
   rw[show o+n+j=o+(n+j) by omega]
   exact a _ _ i)
  have f:((vs.drop n).take ti.size).length=ti.size:=by simp;omega
  rw[f]at e;exact⟨_,by simp[Result.andThen,jy,ht.run_sizeOf,e],YL.2 ⟨_,rfl,YA _ (Yz _ hc)⟩⟩
 | false =>
  rw[ha]at c;simp only[jA]at c;obtain⟨v,l,m⟩:=Z3T hc c;exact⟨v,by simp[Result.andThen,load,Sem.run,a _ _ l],m⟩
theorem Zcd:∀{es:List (List DV)} {i e:Nat} {c:List DV},(∀x∈es,x.length=e)->es[i]? = some c->(es.flatten.drop (i*e)).take e=c
 | [],i,e,c,_,h=>by simp at h
 | x::es,0,e,c,he,h=>by
  simp at h;subst h;have:=he x (by simp)
  simp[this]
 | x::es,i+1,e,c,he,h=>by
  have a:=he x (by simp)
  have:=Zcd (es:=es) (i:=i) (e:=e) (c:=c) (fun y hy=>he y (by simp[hy])) (by simpa using h)
  rw[<-this,List.flatten_cons,Nat.add_mul,Nat.one_mul];rw[show i*e+e=x.length+i*e by omega,List.drop_append,jd (as:=x) (by omega)]
  simp
theorem Z97 (hE:∀t ti,E.ty t=some ti->ZW P t ti) (hh:HR E w0 G0 D w β G h) {t:TypeId} {ti:TI} (ht:ZW P t ti) (hk:ti.k≠.other) {da d:DV} {u:Value} (hx:Rep β G da u) (a:Z3d ti h da=some d) :
  ∃r,(Instr.loadAt t u).run P w=.ok r w/\Rep β G d r:=by
 unfold Z3d at a;split at a
 ·rename_i id off;obtain⟨b,hb,rfl⟩:=Z1x.1 hx;obtain⟨ob,ho,a⟩:=Z0 a;split at a
  ·rename_i t' cs;obtain⟨b',vs,q,z,h3,y,h5⟩:=hh.obj id _ ho;rw[hb]at q;cases q;obtain⟨r,h6,h7⟩:=Z3C (w:=w) ht hk (b:=b) (o:=0) (n:=off) h3 (fun j v s=>by
    rw[Nat.zero_add,cell_of_row w b j vs t' (0,0) z];simpa using s) a
   rw[Nat.zero_add]at h6;exact⟨r,by simp[Instr.loadAt,Instr.sureAddr,h6],h7⟩
  ·cases a
 ·rename_i id v i e off;obtain⟨b,m,c,hb,rfl⟩:=Z1V.1 hx;obtain⟨ob,ho,a⟩:=Z0 a;split at a
  ·rename_i t' es p uu;obtain⟨cc,hc,a⟩:=Z0 a;obtain⟨hq,hd2⟩:=Z3 a;clear a;simp only[jn]at hq;have hu:uu=v:=jf hq.1;have hce:cc.length=e:=jf hq.2;subst hu;obtain⟨hdr,vals,q,z,h3,y,h5,h6,h7⟩:=hh.obj id _ ho;rw[hb]at q;cases q;have hee:e=YD E t':=by rw[<-hce];exact(y cc (List.mem_of_getElem? hc)).1
   have f:=z.cells (g:=b) rfl;have l:=YA e (Yz (i*e) h3);rw[Zcd (e:=e) (fun x hx=>by rw[hee];exact(y x hx).1) hc]at l
   obtain⟨r,h8,h9⟩:=Z3C (w:=w) ht hk (b:=b) (o:=i*e) (n:=off) l (fun j v s=>by
    have:=f (i*e+j) v (by
     rw[List.getElem?_take]at s;split at s
     ·simpa using s
     ·cases s)
    rwa [Yn,Nat.zero_add]at this) hd2
   exact⟨r,by simp[Instr.loadAt,Instr.sureAddr,h8],h9⟩
  ·cases a
 ·rename_i cs;obtain⟨_,b,off,rfl,hp⟩:=Z5s.1 hx;obtain⟨vs,q,z⟩:=Z8C hh.agree cs off hp;obtain⟨r,h3,y⟩:=Z3C (w:=w) ht hk (b:=b) (o:=off) (n:=0) q z a;exact⟨r,by simp[Instr.loadAt,Instr.sureAddr];exact h3,y⟩
 ·cases a
theorem Z6H:∀{cs:List DV} {b o:Nat} (n:Nat),Pub β G b o cs->Pub β G b (o+n) (cs.drop n)
 | [],_,_,n,_=>by simp[Pub]
 | _::_,_,_,0,h=>h
 | c::cs,b,o,n+1,h=>by
  unfold Pub at h;have:=Z6H n h.2;rw[show o+(n+1)=o+1+n by omega]
  exact this
theorem Z6x:∀{cs:List DV} (n:Nat),Zc cs=true->Zc (cs.drop n)=true
 | [],n,_=>by simp[Zc]
 | _::_,0,h=>h
 | c::cs,n+1,h=>by
  have h':Zh c=true/\Zc cs=true:=by simpa[Zc]using h
  exact Z6x n h'.2
theorem Z5x {da d:DV} {u:Value} {n:Nat} (f:Rep β G da u) (a:Z1g da n=some d):∃b,u=.pointer (some b)/\Rep β G d (.pointer (some (b.add n))):=by
 unfold Z1g at a;split at a
 ·obtain⟨b,e,rfl⟩:=Z1x.1 f;cases a;exact⟨_,rfl,Z1x.2 ⟨b,e,by rw[Yn]⟩⟩
 ·obtain⟨b,m,c,e,rfl⟩:=Z1V.1 f;cases a;exact⟨_,rfl,Z1V.2 ⟨b,m,c,e,by rw[Yn,Nat.add_assoc]⟩⟩
 ·obtain⟨g,b,off,rfl,h⟩:=Z5s.1 f;cases a;exact⟨_,rfl,Z5s.2 ⟨Z6x n g,b,off+n,by rw[Yn],Z6H n h⟩⟩
 ·cases a
theorem Z6V {t:TypeId} {ti:TI} (ht:ZW P t ti) {fs:List (Nat×Nat)} (e:ti.k=.struct fs) {f ft off:Nat} (a:fs[f]? = some (ft,off)) :
  ∃fields fd,P.underlying t=some (.struct fields)/\fields[f]? = some fd/\fd.type=ft/\fd.offset=off:=by
 have b:=ht.desc;rw[e]at b;obtain⟨fields,c,d,_⟩:=b;rw[<-d,List.getElem?_map]at a;cases hq:fields.toList[f]? with
 | none=>rw[hq]at a;cases a
 | some fd =>
  rw[hq]at a;simp only[jq,jh,Prod.mk.injEq]at a;exact⟨fields,fd,c,by simpa using hq,a.1,a.2⟩
theorem Z9V (hE:∀t ti,E.ty t=some ti->ZW P t ti) {t:TypeId} {ti:TI} (ht:ZW P t ti) {fs:List (Nat×Nat)} (n:ti.k=.struct fs) {f ft off:Nat} (i:fs[f]? = some (ft,off))
  {fi:TI} (c:E.ty ft=some fi) (p:0<fi.size) {da d:DV} {u:Value} (g:Rep β G da u) (j:Z1g da off=some d) :
  ∃r,(Instr.fieldAt t u f).run P w=.ok r w/\Rep β G d r:=by
 obtain⟨fields,fd,e,l,m,o⟩:=Z6V ht n i;obtain⟨b,rfl,hr⟩:=Z5x g j;have hz:=(hE ft fi c).run_sizeOf w;refine⟨_,?_,hr⟩;have a:(sizeOf fd.type).run P w=.ok fi.size w:=by rw[m];exact hz
 have h:fi.size≠0:=by omega
 simp[Instr.fieldAt,jy,ji e,l,Instr.sureAddr,fieldPlace,a,h,o]
end
end Go.Ab
namespace Go.Ab
open Go.RowKit
section
variable {P:Program} {E:Env} {w0:World} {G0:Gh} {D:DD} {o:Oper} {a:Act} {w:World} {β:Bi} {G:Gh} {h:Nat->Option Zd} {nid:Nat} {ρ:Nat->Option DV}
theorem Zef:∀(cs:List DV) (n:Nat),Yg cs n []=cs
 | [],0=>rfl
 | [],_+1=>rfl
 | _::_,0=>rfl
 | _::_,_+1=>rfl
theorem YI:∀(cs:List DV) (n:Nat) (vs:List DV),n+vs.length<=cs.length->Yg cs n vs=cs.take n++vs++cs.drop (n+vs.length)
 | cs,n,[],_=>by rw[Zef];simp
 | [],n,v::vs,h=>by simp at h
 | c::cs,0,v::vs,h=>by
  have:=YI cs 0 vs (by simp at h⊢;omega)
  simp only[Yg,this];simp
 | c::cs,n+1,v::vs,h=>by
  have:=YI cs n (v::vs) (by simp at h⊢;omega)
  simp only[Yg,this];simp[show n+1+(vs.length+1)=n+(vs.length+1)+1 by omega]
theorem Z4u (w:World) (g:Nat) (cs:Array Value) {k:Nat} (a:k≠g):(w.setRow g cs).heap[k]? = w.heap[k]? := by
 simp only[World.setRow,Array.getElem?_modify];rw[if_neg (fun e=>a e.symm)]
theorem Z6i {B:Nat} {x w:World} (a:Below B x w) {g:Nat} (b:B<=g) (cs:Array Value):Below B x (w.setRow g cs) :=
 a.trans ⟨rfl,rfl,rfl,by simp,fun k c=>Z4u w g cs (by omega)⟩
theorem Z5N {t:TypeId} {ti:TI} (ht:ZW P t ti) {v:Value} (h:v.cells.size=ti.size) (b n:Nat) {vs:Array Value} {t':TypeId} (e:w.heap[b]? = some (.cells vs t' (0,0)))
  (f:n+ti.size<=vs.size) (d:∀x∈v.cells.toList,x.oneCell'=true) :
  (Instr.storeAt t (.pointer (some ⟨b,n,none⟩)) v).run P w=.ok () (w.setRow b (vs.toList.take n++v.cells.toList++vs.toList.drop (n+v.cells.toList.length)).toArray):=by
 have g:=ht.run_sizeOf w;have c:=run_storeCells_at P b n t' v.cells.toList 0 vs w e (by simp;omega) d
 have a:¬v.cells.size≠ti.size:=by omega
 simp only[Instr.storeAt,Instr.sureAddr,storeVar,jy,Sem.run_pure,Result.andThen_ok,g,a,if_false];simpa using c
theorem Zed (xs cs:List DV) (n:Nat) (vs:List DV) (h:n+vs.length<=cs.length):Yg (xs++cs) (xs.length+n) vs=xs++Yg cs n vs:=by
 rw[YI _ _ _ (by rw[List.length_append];omega),YI _ _ _ h,List.take_length_add_append,show xs.length+n+vs.length=xs.length+(n+vs.length) by omega,List.drop_length_add_append]
 simp
theorem Zda (cs ds:List DV) (n:Nat) (vs:List DV) (h:n+vs.length<=cs.length):Yg (cs++ds) n vs=Yg cs n vs++ds:=by
 rw[YI _ _ _ (by rw[List.length_append];omega),YI _ _ _ h,List.take_append_of_le_length (by omega),List.drop_append_of_le_length h]
 simp
theorem Zee (cs:List DV) (n:Nat) (vs:List DV) (h:n+vs.length<=cs.length):(Yg cs n vs).length=cs.length:=by
 rw[YI _ _ _ h];simp;omega
theorem Z7R {e:Nat}:∀{es:List (List DV)} {i:Nat} {c:List DV} (vs:List DV) {off:Nat},(∀y∈es,y.length=e)->es[i]? = some c->off+vs.length<=e →
  (es.set i (Yg c off vs)).flatten=Yg es.flatten (i*e+off) vs
 | [],i,c,vs,off,_,h,_=>by simp at h
 | x::es,0,c,vs,off,he,h,a=>by
  simp only[List.getElem?_cons_zero,jh]at h;subst h;rw[List.set_cons_zero,List.flatten_cons,List.flatten_cons,Nat.zero_mul,Nat.zero_add,Zda _ _ _ _ (by rw[he x (by simp)];exact a)]
 | x::es,i+1,c,vs,off,he,h,a=>by
  have d:x.length=e:=he x (by simp)
  have hc:es[i]? = some c:=by simpa using h
  have ih:=Z7R vs (fun y hy=>he y (by simp[hy])) hc a
  rw[List.set_cons_succ,List.flatten_cons,List.flatten_cons,ih,show(i+1)*e+off=x.length+(i*e+off) by rw[d,Nat.succ_mul];omega,Zed]
  have hi:i<es.length:=(jc.1 hc).1;have b:es.flatten.length=es.length*e:=by
   have:∀(l:List (List DV)),(∀y∈l,y.length=e)->l.flatten.length=l.length*e:=fun l=>by
    induction l with
    | nil=>intro _;simp
    | cons y l ih=>intro a;rw[List.flatten_cons,List.length_append,ih (fun z hz=>a z (by simp[hz])),a y (by simp),List.length_cons,Nat.succ_mul];omega
   exact this es fun y hy=>he y (by simp[hy])
  rw[b];have:=Nat.mul_le_mul_right e hi;rw[Nat.succ_mul]at this;omega
theorem Zh3 {α:Type} (cur V:List α) (k N:Nat) (b:k+V.length<=N) (c:N<=cur.length) :
  List.take N (cur.take k++V++cur.drop (k+V.length))=(cur.take N).take k++V++(cur.take N).drop (k+V.length):=by
 have a:(cur.take k).length=k:=by rw[List.length_take];omega
 have e1:(cur.take N).take k=cur.take k:=by rw[List.take_take,Nat.min_eq_left (by omega)]
 have e2:(cur.take N).drop (k+V.length)=(cur.drop (k+V.length)).take (N-(k+V.length)):=List.drop_take;rw[e1,e2,List.take_append,List.length_append,a,List.take_of_length_le (l:=cur.take k++V) (by rw[List.length_append,a];exact b)]
theorem Z1b:∀{cs:List DV},Zc cs=true↔∀c∈cs,Zh c=true
 | []=>by simp[Zc]
 | c::cs=>by simp[Zc,Z1b (cs:=cs)]
theorem Zdd (hh:HR E w0 G0 D w β G h) {t:TypeId} {ti:TI} (ht:ZW P t ti) {da dv:DV} {u v:Value} (a:Rep β G da u) (hy:Rep β G dv v) {us:List (Nat×Option Zd)}
  (d:Z5a ti h da dv=some us):∃w',(Instr.storeAt t u v).run P w=.ok () w'/\HR E w0 G0 D w' β G (ZJ h us)/\Z2E β β h (ZJ h us) nid:=by
 unfold Z5a at d;obtain⟨hq,d⟩:=Z3 d;simp only[jn]at hq;have hlen:(cellsOf dv).length=ti.size:=jf hq.1;have hcs:=Z3V hy;have hvl:v.cells.size=ti.size:=by have:=ZP hcs;simp at this;omega
 have hone:∀x∈v.cells.toList,x.oneCell'=true:=Z6a hq.2 hcs;have l:∀{id:Nat} {o':Zd} {o:Zd},h id=some o->Z2E β β h (ZJ h [(id,some o')]) nid:=fun {id o' o} f i _ hf=>by
  refine⟨?_,rfl,fun _=>rfl⟩;rw[ZU]
  by_cases e:i=id
  ·subst e;rw[hf]at f;cases f
  ·rw[if_neg e];exact hf
 split at d
 ·rename_i id off _;obtain⟨b,k,rfl⟩:=Z1x.1 a;obtain⟨ob,f,d⟩:=Z0 d;split at d
  ·rename_i t' cs;obtain⟨s,d⟩:=Z3 d;cases d;have s:off+ti.size<=cs.length:=je s;obtain⟨b',vs,h1,h2,h3,h4,h5⟩:=hh.obj id _ f;rw[k]at h1;cases h1;have hvs:vs.size=cs.length:=by have:=ZP h3;simpa using this
   refine⟨_,Z5N ht hvl b off h2 (by omega) hone,?_,l f⟩
   have a0:=YI cs off (cellsOf dv) (by omega)
   refine hh.move (fun x=>x=b) id _ (Ext.refl β G) (Z6i hh.below (hh.own id _ b f k).1 _) (fun x a _=>Z4u w b _ a) (fun _ _=>rfl) (by simp) ?_ ?_ ?_ ?_ ?_ ?_ (fun _ _=>⟨rfl,fun _=>rfl⟩)
   ·rintro x rfl;exact⟨(hh.own id _ _ f k).1,(hh.own id _ _ f k).2.2⟩
   ·rintro x id' o2 rfl ho2 hb2;exact hh.inj id' id o2 _ _ ho2 f hb2 k
   ·rintro x rfl n y hg;rw[h5]at hg;cases hg
   ·refine⟨b,_,k,setRow_heap w b vs _ t' (0,0) h2,?_,?_,h5⟩
    ·rw[a0];simp only[jj];refine Y8.2 ⟨_,_,rfl,YA _ h3,Y8.2 ⟨_,_,rfl,hcs,?_⟩⟩;have:v.cells.toList.length=(cellsOf dv).length:=ZP hcs;rw[this];exact Yz _ h3
    ·rw[a0];simp only[List.all_append,jn];refine⟨⟨?_,hq.2⟩,?_⟩
     ·rw[List.all_eq_true]at h4⊢;exact fun x a=>h4 x (List.mem_of_mem_take a)
     ·rw[List.all_eq_true]at h4⊢;exact fun x a=>h4 x (List.mem_of_mem_drop a)
   ·intro x a;exact .inr ⟨_,f,a⟩
   ·intro x a;have:=(hh.own id _ x f a).2.1;simpa using this
  ·cases d
 ·rename_i id ver i e off _;obtain⟨b,m,c,k,rfl⟩:=Z1V.1 a;obtain⟨ob,f,d⟩:=Z0 d;split at d
  ·rename_i t' es p uu;obtain⟨cc,hc,d⟩:=Z0 d;obtain⟨hq2,hd2⟩:=Z3 d;clear d;cases hd2;simp only[jn]at hq2;obtain⟨⟨⟨⟨hu,hce⟩,hp0⟩,q⟩,s⟩:=hq2;have hu:uu=ver:=jf hu;have hce:cc.length=e:=jf hce;have hp0:p=0:=jf hp0;have s:off+ti.size<=cc.length:=je s;subst hu hp0;obtain⟨hdr,vals,h1,h2,h3,h4,h5,h6,h7⟩:=hh.obj id _ f;rw[k]at h1;cases h1;have hee:e=YD E t':=by rw[<-hce];exact(h4 cc (List.mem_of_getElem? hc)).1
   have hi:i<es.length:=(jc.1 hc).1;have hfl:=Z7R (e:=e) (off:=off) (cellsOf dv) (fun y hy=>by rw[hee];exact(h4 y hy).1) hc (by omega)
   rcases h2.2 with⟨e1,_⟩|⟨g,cap,cur,e1,hg1,hg2,hg3,hg4,hg5,hg6⟩
   ·cases e1
   ·cases e1;have hlen:vals.length=es.length*YD E t':=h2.1;have hflen:es.flatten.length=vals.length:=(ZP h3).symm;have hin:=Nat.mul_le_mul_right e hi;rw[Nat.succ_mul]at hin;have hcm:=Nat.mul_le_mul_right e hg3;have j:Yu β id (.row t' es 0 uu) b:=⟨_,_,k⟩;have hgn:∀o,G b o=none:=fun o=>h6 b rfl o (by simp[pn])
    have hvc:v.cells.toList.length=(cellsOf dv).length:=ZP hcs;have hmul:es.length*YD E t'=es.length*e:=by rw[hee]
    have r:c*YD E t'=c*e:=by rw[hee]
    refine⟨_,Z5N ht hvl b (i*e+off) hg2 (by rw[hg5,r];omega) hone,?_,l f⟩
    have a0:=YI es.flatten (i*e+off) (cellsOf dv) (by omega)
    refine hh.move (fun x=>x=b) id _ (Ext.refl β G) (Z6i hh.below hg1 _) (fun x a _=>Z4u w b _ a) (fun _ _=>rfl) (by simp) ?_ ?_ ?_ ?_ ?_ ?_ (fun _ _=>⟨rfl,fun _=>rfl⟩)
    ·rintro x rfl;exact⟨(hh.own id _ _ f j).1,(hh.own id _ _ f j).2.2⟩
    ·rintro x id' o2 rfl ho2 hb2;exact hh.inj id' id o2 _ _ ho2 f hb2 j
    ·rintro x rfl n y hg;rw[hgn]at hg;cases hg
    ·refine⟨_,vals.take (i*e+off)++v.cells.toList++vals.drop (i*e+off+v.cells.toList.length),k,⟨?_,.inr ⟨b,c,_,?_,hg1,setRow_heap w b cur _ t' (0,0) hg2,?_,hg4,?_,?_⟩⟩,?_,?_,⟨h5.1,Z9g _ _⟩,fun b' hb' o _=>?_,h7⟩
     ·simp only[List.length_append,List.length_take,List.length_drop,List.length_set];omega
     ·rw[List.length_set]
     ·rw[List.length_set];exact hg3
     ·simp only[List.size_toArray,List.length_append,List.length_take,List.length_drop,Array.length_toList];omega
     ·rw[List.length_set,<-hg6];have hcl:cur.toList.length=c*e:=by rw[Array.length_toList,hg5,r]
      exact Zh3 cur.toList v.cells.toList (i*e+off) _ (by omega) (by omega)
     ·rw[hfl,a0];simp only[jj];refine Y8.2 ⟨_,_,rfl,YA _ h3,Y8.2 ⟨_,_,rfl,hcs,?_⟩⟩;rw[hvc];exact Yz _ h3
     ·intro y hy;rcases List.mem_or_eq_of_mem_set hy with hy|rfl
      ·exact h4 y hy
      ·obtain⟨q1,q2,q3⟩:=h4 cc (List.mem_of_getElem? hc);refine⟨by rw[Zee _ _ _ (by omega)];exact q1,?_,?_⟩
       ·rw[Z1b]at q2 q⊢;rw[YI _ _ _ (by omega)]
        intro z hz;simp only[List.mem_append]at hz;rcases hz with(hz|hz)|hz
        ·exact q2 z (List.mem_of_mem_take hz)
        ·exact q z hz
        ·exact q2 z (List.mem_of_mem_drop hz)
       ·rw[YI _ _ _ (by omega)]
        simp only[List.all_append,jn];refine⟨⟨?_,hq.2⟩,?_⟩
        ·rw[List.all_eq_true]at q3⊢;exact fun x a=>q3 x (List.mem_of_mem_take a)
        ·rw[List.all_eq_true]at q3⊢;exact fun x a=>q3 x (List.mem_of_mem_drop a)
     ·simp only[Value.ownBlock,jh]at hb';subst hb';exact hgn o
    ·rintro x ⟨n',c',a⟩;rw[k]at a;cases a;exact .inl rfl
    ·rintro x ⟨n',c',a⟩;rw[k]at a;cases a;have:=(hh.own id _ _ f j).2.1;simpa using this
  ·cases d
 ·cases d
theorem Zag (hh:HR E w0 G0 D w β G h) (a:ZR β h nid) {t:TypeId} {cs:List DV} {vs:Array Value} (hr:Zi β G cs vs.toList) (hc:cs.all ZH=true) :
  ∃β',Ext β G β' G/\β'.blk nid=some w.heap.size/\HR E w0 G0 D (w.alloc (.cells vs t)) β' G (ZJ h [(nid,some (.cells t cs))])/\Z2E β β' h (ZJ h [(nid,some (.cells t cs))]) nid:=by
 refine hh.lay a (.cells vs t) (.cells t cs) (by intros;simp) (fun β' hx hb=>?_)
 exact⟨w.heap.size,vs,hb,heap_alloc_new w _,Zi.mono hx _ _ hr,hc,fun o=>glt hh (Nat.le_refl _) o⟩
theorem Z9v (t:TypeId) (v:Value):(newVar t v).run P w=.ok ⟨w.heap.size,0,none⟩ (w.alloc (.cells v.cells t)):=by
 rfl
theorem ZbV (hh:HR E w0 G0 D w β G h) (e:ZR β h nid) {t:TypeId} {ti:TI} (ht:ZW P t ti) (j:o.op=.alloc t) :
  Yb P E w0 G0 D o a w β G h nid ⟨some (.ptr nid 0),[(nid,some (.cells t ti.zero))]⟩:=by
 obtain⟨z,hz,_,hr⟩:=ht.run_zero w;obtain⟨β',i,g,b,f⟩:=Zag (t:=t) hh e (hr β G) ht.zc;refine⟨.value (.pointer (some ⟨w.heap.size,0,none⟩)),_,w.alloc (.cells z.cells t),β',G,?_,.inl rfl,?_,i,b,f⟩
 ·unfold execOp;rw[j];simp[Instr.alloc,jy,hz,Z9v]
 ·intro d c;cases c;exact Z1x.2 ⟨_,g,rfl⟩
theorem Zfi (hh:HR E w0 G0 D w β G h) (f:ZR β h nid) {t:TypeId} {x:Operand} {d:DV} (k:o.op=.box t x) (j:Rep β G d (a.eval x)) (hc:(cellsOf d).all ZH=true) :
  Yb P E w0 G0 D o a w β G h nid ⟨some (.ptr nid 0),[(nid,some (.cells t (cellsOf d)))]⟩:=by
 obtain⟨β',b,i,c,g⟩:=Zag (t:=t) hh f (Z3V j) hc;refine⟨.value (.pointer (some ⟨w.heap.size,0,none⟩)),_,w.alloc (.cells (a.eval x).cells t),β',G,?_,.inl rfl,?_,b,c,g⟩
 ·unfold execOp;rw[k];simp[Instr.box,Z9v]
 ·intro d e;cases e;exact Z1x.2 ⟨_,i,rfl⟩
end
end Go.Ab
namespace Go.Ab
open Go.RowKit
section
variable {P:Program} {E:Env} {w0:World} {G0:Gh} {D:DD} {o:Oper} {a:Act} {w:World} {β:Bi} {G:Gh} {h:Nat->Option Zd} {nid:Nat} {ρ:Nat->Option DV}
theorem Zcg:∀(us:List Value) (off k:Nat) (cells:Array Value),off+k+us.length<=cells.size →
  ((us.zipIdx k).foldl (fun cs (c,j)=>cs.setIfInBounds (off+j) c) cells).toList=cells.toList.take (off+k)++us++cells.toList.drop (off+k+us.length)
 | [],off,k,cells,_=>by simp
 | u::us,off,k,cells,h=>by
  have ih:=Zcg us off (k+1) (cells.setIfInBounds (off+k) u) (by simp at h⊢;omega)
  simp only[List.zipIdx_cons,List.foldl_cons];rw[ih];have:=list_seg_step cells.toList (off+k) u us (by simp at h⊢;omega)
  simpa[Array.toList_setIfInBounds,Nat.add_assoc]using this
theorem Z4c (us:Array Value) (off:Nat) (cells:Array Value) (h:off+us.size<=cells.size) :
  (us.zipIdx.foldl (fun cs (c,j)=>cs.setIfInBounds (off+j) c) cells).toList=cells.toList.take off++us.toList++cells.toList.drop (off+us.size):=by
 have:=Zcg us.toList off 0 cells (by simpa using h)
 rw[<-Array.foldl_toList,Array.toList_zipIdx];simpa using this
def Z4E (β:Bi) (G:Gh):List (Nat×DV)->List (Nat×Value)->Prop
 | [],ps=>ps=[]
 | (i,d)::ds,ps=>∃v ps',ps=(i,v)::ps'/\Rep β G d v/\Z4E β G ds ps'
theorem Z7m (c:FrM β G ρ a.tmps):∀{ps:List (Nat×Operand)} {ds:List (Nat×DV)},Z27 ρ ps=some ds->Z4E β G ds (ps.map fun(i,x)=>(i,a.eval x))
 | [],ds,b=>by simp only[Z27,jh]at b;subst b;rfl
 | (i,x)::ps,ds,b=>by
  simp only[Z27]at b;obtain⟨d,e,b⟩:=Z0 b;obtain⟨ds',f,g⟩:=Z0 b;cases g;exact⟨_,_,rfl,Zq c e,Z7m c f⟩
theorem Z7Z {cs us:List DV} {vs xs:List Value} {off:Nat} (hc:Zi β G cs vs) (a:Zi β G us xs) (b:off+us.length<=cs.length) :
  Zi β G (Yg cs off us) (vs.take off++xs++vs.drop (off+xs.length)):=by
 rw[YI cs off us b,ZP a,jj,jj];exact Y8.2 ⟨_,_,rfl,YA _ hc,Y8.2 ⟨_,_,rfl,a,Yz _ hc⟩⟩
theorem Z4y {size:Nat}:∀{ds:List (Nat×DV)} {ps:List (Nat×Value)} {cs res:List DV} {vs:Array Value},Z4E β G ds ps->Zi β G cs vs.toList →
  Z1G size ds cs=some res->∃out,Instr.fill (fun i=>some (i*size,size)) vs ps=some out/\Zi β G res out.toList
 | [],ps,cs,res,vs,hp,hc,b=>by
  simp only[Z4E]at hp;subst hp;simp only[Z1G,jh]at b;subst b;exact⟨vs,rfl,hc⟩
 | (i,d)::ds,_,cs,res,vs,⟨v,ps',hps,hv,hp⟩,hc,b=>by
  subst hps;simp only[Z1G]at b;obtain⟨g,b⟩:=Z3 b;simp only[jn]at g;have p:(cellsOf d).length=size:=jf g.1;have q:i*size+size<=cs.length:=je g.2;have f:=Z3V hv;have k:v.cells.size=size:=by have:=ZP f;simp at this;omega
  have l:vs.size=cs.length:=by have:=ZP hc;simpa using this
  have e:=Z7Z (off:=i*size) hc f (by omega)
  have h:=Z4c v.cells (i*size) vs (by omega)
  have a:Zi β G (Yg cs (i*size) (cellsOf d)) (v.cells.zipIdx.foldl (fun cs (c,j)=>cs.setIfInBounds (i*size+j) c) vs).toList:=by
   rw[h];simpa using e
  obtain⟨out,n,o⟩:=Z4y hp a b;refine⟨out,?_,o⟩;have m:(v.cells.size≠size||i*size+v.cells.size>vs.size)=false:=by simp;omega
  simp only[Instr.fill,m,jg,if_false];exact n
theorem Z3L {fs:List (Nat×Nat)} (place:Nat->Option (Nat×Nat)) (f:∀i ft off ti,fs[i]? = some (ft,off)->E.ty ft=some ti->place i=some (off,ti.size)) :
  ∀{ds:List (Nat×DV)} {ps:List (Nat×Value)} {cs res:List DV} {vs:Array Value},Z4E β G ds ps->Zi β G cs vs.toList →
  Z1a fs E ds cs=some res->∃out,Instr.fill place vs ps=some out/\Zi β G res out.toList
 | [],ps,cs,res,vs,hp,hc,a=>by
  simp only[Z4E]at hp;subst hp;simp only[Z1a,jh]at a;subst a;exact⟨vs,rfl,hc⟩
 | (i,d)::ds,_,cs,res,vs,⟨v,ps',hps,hv,hp⟩,hc,a=>by
  subst hps;simp only[Z1a]at a;obtain⟨⟨ft,off⟩,q,a⟩:=Z0 a;obtain⟨ti,k,a⟩:=Z0 a;obtain⟨h,a⟩:=Z3 a;simp only[jn]at h;have s:(cellsOf d).length=ti.size:=jf h.1;have t:off+ti.size<=cs.length:=je h.2;have g:=Z3V hv;have n:v.cells.size=ti.size:=by have:=ZP g;simp at this;omega
  have o:vs.size=cs.length:=by have:=ZP hc;simpa using this
  have e:=Z7Z (off:=off) hc g (by omega)
  have l:=Z4c v.cells off vs (by omega)
  have b:Zi β G (Yg cs off (cellsOf d)) (v.cells.zipIdx.foldl (fun cs (c,j)=>cs.setIfInBounds (off+j) c) vs).toList:=by
   rw[l];simpa using e
  obtain⟨out,r,m⟩:=Z3L place f hp b a;refine⟨out,?_,m⟩;have p:(v.cells.size≠ti.size||off+v.cells.size>vs.size)=false:=by simp;omega
  simp only[Instr.fill,f i ft off ti q k,p,jg,if_false];exact r
theorem ZcA {α γ:Type} {f:α->Option γ}:∀{l:List α} {r:List γ},l.mapM f=some r->∀{i:Nat} {x:α},l[i]? = some x->f x=r[i]?
 | [],_,_,i,x,hx=>by simp at hx
 | y::l,r,h,i,x,hx=>by
  simp only[List.mapM_cons,Option.bind_eq_bind,Option.pure_def]at h;obtain⟨z,a,h⟩:=Z0 h;obtain⟨zs,b,h⟩:=Z0 h;cases h;cases i with
  | zero=>simp at hx;subst hx;simpa using a
  | succ i=>simpa using ZcA b (i:=i) (x:=x) (by simpa using hx)
theorem Zc2 (hE:∀t ti,E.ty t=some ti->ZW P t ti) (hf:FrM β G ρ a.tmps) {t:TypeId} {ps:Array (Nat×Operand)} {d:DV}
  (c:((E.ty t).bind fun ti=>(Z27 ρ ps.toList).bind fun vs=>match ti.k with
   | .struct fs=>(Z1a fs E vs ti.zero).bind fun cs=>ret (.agg cs)
   | .array _ e=>(E.ty e).bind fun ei=>(Z1G ei.size vs ti.zero).bind fun cs=>ret (.agg cs)
   | _=>none)=some ⟨some d,[]⟩) :
  ∃r,(Instr.build t (ps.map fun(i,x)=>(i,a.eval x))).run P w=.ok r w/\Rep β G d r:=by
 obtain⟨ti,p,c⟩:=Z0 c;obtain⟨vs,m,c⟩:=Z0 c;have ht:=hE t ti p;have hp:=Z7m hf m;have h:(ps.map fun(i,x)=>(i,a.eval x)).toList=ps.toList.map fun(i,x)=>(i,a.eval x):=by simp
 obtain⟨it,z,h1,h2,_,v,h5,y⟩:=ht.info;split at c
 ·rename_i fs s;obtain⟨cs,hcs,c⟩:=Z0 c;cases c;have b:=ht.desc;rw[s]at b;obtain⟨fields,hu,l,places,g⟩:=b;obtain⟨out,j,u⟩:=Z3L (E:=E) (fs:=fs) (fun i=>places.toArray[i]?) (fun i ft off fi f o=>by
   rw[<-l,List.getElem?_map]at f;cases hq:fields.toList[i]? with
   | none=>rw[hq]at f;cases f
   | some fd =>
    rw[hq]at f;simp only[jq,jh,Prod.mk.injEq]at f;obtain⟨e1,e2⟩:=f;obtain⟨ii,zz,k1,k2,_⟩:=(hE ft fi o).info;have:=ZcA g hq;rw[e1,k1]at this;simp only[jq,jh]at this;simp[<-this,e2,k2]) hp (y β G) hcs
  refine⟨.agg out,run_build w t _ out ?_,YL.2 ⟨out.toList,by simp,u⟩⟩
  rw[h];simp only[Program.built,h1,hu,v,g];exact j
 ·rename_i n e s;obtain⟨ei,q,c⟩:=Z0 c;obtain⟨cs,hcs,c⟩:=Z0 c;cases c;have b:=ht.desc;rw[s]at b;obtain⟨ie,ze,k1,k2,_⟩:=(hE e ei q).info;obtain⟨out,j,u⟩:=Z4y hp (y β G) hcs;refine⟨.agg out,run_build w t _ out ?_,YL.2 ⟨out.toList,by simp,u⟩⟩
  rw[h];simp only[Program.built,h1,b,v,k1,k2];exact j
 ·cases c
end
end Go.Ab
namespace Go.Ab
open Go.RowKit
section
variable {P:Program} {E:Env} {w0:World} {G0:Gh} {D:DD} {w:World} {β:Bi} {G:Gh} {h:Nat->Option Zd}
def Z2x (G:Gh) (g:Nat) (vals:List Value):Gh:=fun b o=>if b=g then(if o<vals.length then vals[o]? else G b o)else G b o
def Z2M (E:Env) (β:Bi) (G:Gh) (h:Nat->Option Zd) (id:Nat):Prop :=
 ∀t es p u,h id=some (.row t es p u)->∃hdr,β.hdr id u=some hdr/\∃a c,(hdr=.slice a es.length c/\es.length<=c)/\(es=[]\/∃b,a=some ⟨b,0,none⟩/\Yv β G b (YD E t) 0 es)
theorem Z52 {g:Nat}:∀{cs:List DV} {vs:List Value} {o:Nat},Zi β G cs vs->(∀j v,vs[j]? = some v->G g (o+j)=some v)->Pub β G g o cs
 | [],_,_,_,_=>by unfold Pub;trivial
 | c::cs,_,o,hr,hv=>by
  obtain⟨v,vs',rfl,a,b⟩:=Zb.1 hr;unfold Pub;refine⟨⟨v,by simpa using hv 0 v rfl,a⟩,Z52 b (fun j u d=>?_)⟩
  rw[show o+1+j=o+(j+1) by omega]
  exact hv (j+1) u (by simpa using d)
theorem Z4i {g e:Nat}:∀{es:List (List DV)} {vs:List Value} {o:Nat},Zi β G es.flatten vs->(∀c∈es,c.length=e/\Zc c=true/\c.all ZH=true)->(∀j v,vs[j]? = some v->G g (o+j)=some v)->Yv β G g e o es
 | [],_,_,_,_,_=>by unfold Yv;trivial
 | c::cs,_,o,hr,hc,hv=>by
  rw[List.flatten_cons]at hr;obtain⟨as,bs,rfl,f,i⟩:=Y8.1 hr;obtain⟨h,d⟩:=hc c (by simp)
  have k:=ZP f;unfold Yv;refine⟨h,d,Z52 f (fun j v a=>hv j v ?_),Z4i i (fun x l=>hc x (by simp[l])) (fun j v a=>?_)⟩
  ·have b:j<as.length:=(jc.1 a).1;rw[List.getElem?_append_left b];exact a
  ·have:=hv (e+j) v (by rw[List.getElem?_append_right (by omega)];rw[show e+j-as.length=j by omega];exact a)
   rwa [show o+e+j=o+(e+j) by omega]
theorem ZgZ (hh:HR E w0 G0 D w β G h) {id:Nat} {t:TypeId} {es:List (List DV)} {p u:Nat} (y:h id=some (.row t es p u)) :
  ∃G',Ext β G β G'/\HR E w0 G0 D w β G' (ZJ h [(id,some (.row t es 1 u))])/\Z2M E β G' (ZJ h [(id,some (.row t es 1 u))]) id:=by
 obtain⟨hdr,vals,k,x,h3,h4,h5,h6,h7⟩:=hh.obj id _ y;rcases x.2 with⟨rfl,hn⟩|⟨g,cap,cur,rfl,hg1,hg2,hg3,hg4,hg5,hg6⟩
 ·have q:es=[]:=List.eq_nil_of_length_eq_zero hn;refine⟨G,Ext.refl β G,?_,fun t' es' p' u' r=>?_⟩
  ·refine hh.move (fun _=>False) id _ (Ext.refl β G) hh.below (fun _ _ _=>rfl) (fun _ _=>rfl) (Nat.le_refl _) (fun _ s=>s.elim) (fun _ _ _ s=>s.elim) (fun _ s=>s.elim) ?_ ?_ ?_ (fun _ _=>⟨rfl,fun _=>rfl⟩)
   ·exact⟨_,vals,k,x,h3,h4,⟨h5.1,Z9g _ _⟩,fun b a=>by simp[Value.ownBlock]at a,h7⟩
   ·rintro b ⟨n,c,a⟩;rw[k]at a;cases a
   ·rintro b ⟨n,c,a⟩;rw[k]at a;cases a
  ·rw[ZU,if_pos rfl]at r;cases r;exact⟨_,k,none,0,⟨by rw[q];rfl,by rw[q];exact Nat.le_refl _⟩,.inl q⟩
 ·have i:Yu β id (.row t es p u) g:=⟨es.length,cap,k⟩;obtain⟨a0,hb1,l⟩:=hh.own id _ g y i;have hlen:vals.length=es.length*YD E t:=x.1;have d:=x.cells (g:=g) rfl;have z:Ext β G β (Z2x G g vals):=⟨fun b o v f=>by
   unfold Z2x
   by_cases e:b=g
   ·rw[if_pos e]
    by_cases hl:o<vals.length
    ·rw[if_pos hl];have:=hh.agree b o v f;subst e;have hc:=d o (vals[o]) (by simp[hl])
     rw[Yn,Nat.zero_add]at hc;rw[hc]at this;cases this;simp[hl]
    ·rw[if_neg hl];exact f
   ·rw[if_neg e];exact f,fun _ _ h=>h,fun _ _ _ h=>h⟩
  refine⟨Z2x G g vals,z,?_,fun t' es' p' u' r=>?_⟩
  ·refine hh.move (fun b=>b=g) id _ z hh.below (fun _ _ _=>rfl) (fun b a=>by funext o;unfold Z2x;rw[if_neg a]) (Nat.le_refl _) ?_ ?_ ?_ ?_ ?_ ?_ (fun _ _=>⟨rfl,fun _=>rfl⟩)
   ·rintro b rfl;exact⟨a0,l⟩
   ·rintro b id' o2 rfl a1 l;exact hh.inj id' id o2 _ _ a1 y l i
   ·rintro b rfl o v f;unfold Z2x at f;rw[if_pos rfl]at f
    by_cases hl:o<vals.length
    ·rw[if_pos hl]at f;have:=d o v f
     rwa [Yn,Nat.zero_add]at this
    ·rw[if_neg hl]at f;exact hh.agree _ _ _ f
   ·refine⟨_,vals,k,x,Zi.mono z _ _ h3,h4,⟨h5.1,Z9g _ _⟩,fun b a o m=>?_,h7⟩;replace m:es.length*YD E t<=o:=m;simp only[Value.ownBlock,jh]at a;subst a;unfold Z2x;rw[if_pos rfl,if_neg (by omega)]
    refine h6 _ rfl o (Nat.le_trans ?_ m);exact Nat.mul_le_mul_right _ h5.2
   ·intro b a;exact .inr ⟨_,y,a⟩
   ·rintro b ⟨n,c,a⟩;rw[k]at a;cases a;exact hb1
  ·rw[ZU,if_pos rfl]at r;cases r;refine⟨_,k,_,cap,⟨rfl,hg3⟩,.inr ⟨g,rfl,Z4i (Zi.mono z _ _ h3) h4 (fun j v hj=>?_)⟩⟩;have hjl:j<vals.length:=(jc.1 hj).1;unfold Z2x;rw[if_pos rfl,Nat.zero_add,if_pos hjl];exact hj
theorem ZaL (h:Nat->Option Zd) (x:Nat×Option Zd) (us:List (Nat×Option Zd)) (i:Nat) :
  ZJ h (x::us) i=match Zw i us with|some y=>y|none=>if i=x.1 then x.2 else h i:=by
 unfold ZJ;obtain⟨id,o⟩:=x;simp only[Zw];cases hq:Zw i us with
 | some y=>rfl
 | none =>
  by_cases e:i=id
  ·subst e;simp
  ·have:Nat.beq id i=false:=by
    cases hb:Nat.beq id i with
    | false=>rfl
    | true=>exact absurd (jf hb).symm e
   simp[this,e]
theorem Ye (h:Nat->Option Zd):∀(is:List Nat) (i:Nat) (y:Option Zd),Zw i (Zu h is)=some y->∃t es p u,h i=some (.row t es p u)/\y=some (.row t es 1 u)
 | [],i,y,hy=>by simp[Zu,Zw]at hy
 | j::is,i,y,hy=>by
  simp only[Zu]at hy;split at hy
  ·rename_i t es p u a;cases hp1:Nat.beq p 1 with
   | true=>rw[hp1]at hy;exact Ye h is i y (by simpa using hy)
   | false =>
   rw[hp1]at hy;simp only[jA,List.singleton_append,Zw]at hy;cases hq:Zw i (Zu h is)with
   | some z =>
    rw[hq]at hy;cases hy;exact Ye h is i y hq
   | none =>
    rw[hq]at hy;simp only at hy;cases hb:Nat.beq j i with
    | false=>rw[hb]at hy;cases hy
    | true =>
     rw[hb]at hy;cases hy;have:=jf hb;subst this;exact⟨t,es,p,u,a,rfl⟩
  ·exact Ye h is i y (by simpa using hy)
theorem Z2M.mono {β':Bi} {G':Gh} {id:Nat} (e:Ext β G β' G') (j:Z2M E β G h id):Z2M E β' G' h id:=fun t es p u i=>by
 obtain⟨hdr,f,a,c,g,d⟩:=j t es p u i;refine⟨hdr,e.hdr _ _ _ f,a,c,g,?_⟩;rcases d with d|⟨b,d,k⟩
 ·exact .inl d
 ·exact .inr ⟨b,d,Yv.mono e _ _ _ _ k⟩
theorem Z1L (hh:HR E w0 G0 D w β G h):∀(is:List Nat),∃G',Ext β G β G'/\HR E w0 G0 D w β G' (ZJ h (Zu h is))/\∀i∈is,Z2M E β G' (ZJ h (Zu h is)) i
 | []=>⟨G,Ext.refl β G,hh,fun i hi=>by cases hi⟩
 | j::is=>by
  obtain⟨G1,l,o,k⟩:=Z1L hh is;simp only[Zu];split
  ·rename_i t es p u m
   have r:∃p',ZJ h (Zu h is) j=some (.row t es p' u):=by
    unfold ZJ;cases a:Zw j (Zu h is)with
    | none=>exact⟨p,m⟩
    | some y =>
     obtain⟨t',es',p',u',k1,k2⟩:=Ye h is j y a;rw[m]at k1;cases k1;exact⟨_,k2⟩
   obtain⟨p',b⟩:=r;obtain⟨G2,d,n,f⟩:=ZgZ o b;cases g:Nat.beq p 1 with
   | true =>
    have g:p=1:=jf g;subst g;have q:p'=1:=by
     unfold ZJ at b;cases a:Zw j (Zu h is)with
     | none=>rw[a]at b;simp only at b;rw[m]at b;cases b;rfl
     | some y =>
      obtain⟨t',es',p'',u',k1,k2⟩:=Ye h is j y a;rw[a]at b;simp only at b;rw[k2]at b;cases b;rfl
    subst q;simp only[jB,List.nil_append];have c:∀i,ZJ h (Zu h is) i=ZJ (ZJ h (Zu h is)) [(j,some (.row t es 1 u))] i:=fun i=>by
     rw[ZU]
     by_cases e:i=j
     ·rw[if_pos e,e];exact b
     ·rw[if_neg e]
    refine⟨G2,l.trans d,n.eq c,fun i hi=>?_⟩;intro t' es' p'' u' a
    by_cases e:i=j
    ·subst e;exact f t' es' p'' u' ((c i).symm.trans a)
    ·rcases jr.1 hi with rfl|hi
     ·exact absurd rfl e
     ·exact(k i hi).mono d t' es' p'' u' a
   | false =>
   simp only[jA];have c:∀i,ZJ h ([(j,some (.row t es 1 u))]++Zu h is) i=ZJ (ZJ h (Zu h is)) [(j,some (.row t es 1 u))] i:=fun i=>by
    rw[ZU,List.singleton_append,ZaL];unfold ZJ
    by_cases e:i=j
    ·subst e;rw[if_pos rfl];cases a:Zw i (Zu h is)with
     | none=>simp
     | some y =>
      obtain⟨t',es',p',u',k1,k2⟩:=Ye h is i y a;rw[m]at k1;cases k1;simp[k2]
    ·rw[if_neg e];cases a:Zw i (Zu h is)with
     | none=>simp[e]
     | some y=>simp[e]
   refine⟨G2,l.trans d,n.eq c,fun i hi=>?_⟩;have s:Z2M E β G2 (ZJ (ZJ h (Zu h is)) [(j,some (.row t es 1 u))]) i:=by
    rcases jr.1 hi with rfl|hi
    ·exact f
    ·intro t' es' p'' u' a;rw[ZU]at a
     by_cases e:i=j
     ·subst e;exact f t' es' p'' u' (by rw[ZU];exact a)
     ·rw[if_neg e]at a;exact(k i hi).mono d t' es' p'' u' a
   intro t' es' p'' u' a;rw[c i]at a;exact s t' es' p'' u' a
  ·rename_i m;refine⟨G1,l,by simpa using o,fun i hi=>?_⟩
   rw[List.nil_append];rcases jr.1 hi with rfl|hi
   ·intro t es p u a;exfalso;unfold ZJ at a;cases hf:Zw i (Zu h is)with
    | none=>rw[hf]at a;exact m t es p u a
    | some y =>
     obtain⟨t',es',p',u',k1,_⟩:=Ye h is i y hf;exact m t' es' p' u' k1
   ·exact k i hi
theorem Z3P {b e:Nat}:∀{es:List (List DV)} {off:Nat} (n:Nat),Yv β G b e off es->Yv β G b e off (es.take n)
 | [],_,n,_=>by simp[Yv]
 | _::_,_,0,_=>by simp[Yv]
 | x::es,off,n+1,h=>by
  unfold Yv at h;simp only[List.take_succ_cons];unfold Yv;exact⟨h.1,h.2.1,h.2.2.1,Z3P n h.2.2.2⟩
theorem Z3O {b e:Nat}:∀{es:List (List DV)} {off:Nat} (n:Nat),Yv β G b e off es->Yv β G b e (off+n*e) (es.drop n)
 | [],_,n,_=>by simp[Yv]
 | _::_,_,0,h=>by simpa using h
 | x::es,off,n+1,h=>by
  unfold Yv at h;have:=Z3O n h.2.2.2
  rwa [show off+e+n*e=off+(n+1)*e by rw[Nat.add_mul,Nat.one_mul];omega]at this
theorem Z3x {b e e' o:Nat} {es:List (List DV)} (h:Yv β G b e o es) (a:∀c∈es,c.length=e'):es=[]\/Yv β G b e' o es:=by
 cases es with
 | nil=>exact .inl rfl
 | cons c cs =>
  right;have d:=a c (by simp)
  have f:c.length=e:=by unfold Yv at h;exact h.1
  have:e=e':=by omega
  subst this;exact h
mutual
theorem Z5g {h':Nat->Option Zd} {G':Gh} (j:Ext β G β G') (g:∀i t es p u,h i=some (.row t es p u)->∃p',h' i=some (.row t es p' u)) :
  ∀{d d':DV} {v:Value},frz h d=some d'->(∀i∈Zj d,Z2M E β G' h' i)->Rep β G d v->Rep β G' d' v/\Zh d'=true
 | .rs id ver,d',v,e,hs,hr=>by
  simp only[frz]at e;obtain⟨ob,r,e⟩:=Z0 e;split at e
  ·rename_i t es p u;obtain⟨n,e⟩:=Z3 e;cases e;have n:u=ver:=jf n;subst n;obtain⟨p',o⟩:=g _ _ _ _ _ r;obtain⟨hdr,q,a,c,s,l⟩:=hs id (by simp[Zj]) _ _ _ _ o
   obtain⟨m,_⟩:=Z2K.1 hr;rw[q]at m;cases m;refine⟨Z4n.2 ⟨a,c,s,?_⟩,rfl⟩;rcases l with l|⟨b,l,m⟩
   ·exact .inl l
   ·exact .inr ⟨b,0,_,l,m⟩
  ·cases e
 | .rv _ _ _ _ _,_,_,e,_,_=>by simp[frz,Zh]at e
 | .slen _,_,_,e,_,_=>by simp[frz,Zh]at e
 | .agg cs,d',v,e,hs,hr=>by
  simp only[frz]at e;obtain⟨cs',hc,e⟩:=Z0 e;cases e;obtain⟨vs,rfl,k⟩:=YL.1 hr;obtain⟨k1,k2⟩:=Z6v j g hc (by simpa[Zj]using hs) k
  exact⟨YL.2 ⟨vs,rfl,k1⟩,by simpa[Zh]using k2⟩
 | .tup cs,d',v,e,hs,hr=>by
  simp only[frz]at e;obtain⟨cs',hc,e⟩:=Z0 e;cases e;obtain⟨vs,rfl,k⟩:=YM.1 hr;obtain⟨k1,k2⟩:=Z6v j g hc (by simpa[Zj]using hs) k
  exact⟨YM.2 ⟨vs,rfl,k1⟩,by simpa[Zh]using k2⟩
 | .iface t x,d',v,e,hs,hr=>by
  simp only[frz]at e;obtain⟨x',hc,e⟩:=Z0 e;cases e;unfold Rep at hr;obtain⟨u,rfl,k⟩:=hr;obtain⟨k1,k2⟩:=Z5g j g hc (by simpa[Zj]using hs) k
  refine⟨?_,by simpa[Zh]using k2⟩
  unfold Rep;exact⟨u,rfl,k1⟩
 | .bool _,d',v,e,_,hr=>by simp only[frz,Zh,jB,jh]at e;subst e;exact⟨Rep.mono j _ _ hr,rfl⟩
 | .int _ _,d',v,e,_,hr=>by simp only[frz,Zh,jB,jh]at e;subst e;exact⟨Rep.mono j _ _ hr,rfl⟩
 | .str _,d',v,e,_,hr=>by simp only[frz,Zh,jB,jh]at e;subst e;exact⟨Rep.mono j _ _ hr,rfl⟩
 | .nilp,d',v,e,_,hr=>by simp only[frz,Zh,jB,jh]at e;subst e;exact⟨Rep.mono j _ _ hr,rfl⟩
 | .ptr _ _,d',v,e,_,hr=>by simp[frz,Zh]at e
 | .rptr _ _ _ _ _,d',v,e,_,hr=>by simp[frz,Zh]at e
 | .pub _,d',v,e,_,hr=>by simp[frz,Zh]at e
 | .nils,d',v,e,_,hr=>by
  simp only[frz,jh]at e;subst e;unfold Rep at hr;exact⟨Z4n.2 ⟨none,0,⟨hr,Nat.le_refl _⟩,.inl rfl⟩,rfl⟩
 | .sl _,d',v,e,_,hr=>by simp only[frz,Zh,jB,jh]at e;subst e;exact⟨Rep.mono j _ _ hr,rfl⟩
 | .fn f x c,d',v,e,_,hr=>by
  simp only[frz]at e;obtain⟨hi,e⟩:=Z3 e;cases e;exact⟨Rep.mono j _ _ hr,hi⟩
 | .nilfn,d',v,e,_,hr=>by simp only[frz,Zh,jB,jh]at e;subst e;exact⟨Rep.mono j _ _ hr,rfl⟩
 | .map _,d',v,e,_,hr=>by simp[frz,Zh]at e
 | .nilmap,d',v,e,_,hr=>by simp only[frz,Zh,jB,jh]at e;subst e;exact⟨Rep.mono j _ _ hr,rfl⟩
 | .nilif,d',v,e,_,hr=>by simp only[frz,Zh,jB,jh]at e;subst e;exact⟨Rep.mono j _ _ hr,rfl⟩
 | .iter _,d',v,e,_,hr=>by simp[frz,Zh]at e
 | .yld _,d',v,e,_,hr=>by simp[frz,Zh]at e
theorem Z6v {h':Nat->Option Zd} {G':Gh} (f:Ext β G β G') (a:∀i t es p u,h i=some (.row t es p u)->∃p',h' i=some (.row t es p' u)) :
  ∀{ds ds':List DV} {vs:List Value},Z1N h ds=some ds'->(∀i∈Zk ds,Z2M E β G' h' i)->Zi β G ds vs->Zi β G' ds' vs/\Zc ds'=true
 | [],ds',vs,b,_,hr=>by simp only[Z1N,jh]at b;subst b;rw[Zm]at hr;subst hr;exact⟨Zm.2 rfl,rfl⟩
 | d::ds,ds',vs,b,hs,hr=>by
  simp only[Z1N]at b;obtain⟨d1,g,b⟩:=Z0 b;obtain⟨ds1,j,b⟩:=Z0 b;cases b;obtain⟨v,vs',rfl,e,c⟩:=Zb.1 hr;obtain⟨k1,k2⟩:=Z5g f a g (fun i hi=>hs i (by simp[Zk,hi])) e
  obtain⟨k3,k4⟩:=Z6v f a j (fun i hi=>hs i (by simp[Zk,hi])) c
  exact⟨Zb.2 ⟨v,vs',rfl,k1,k3⟩,by simp[Zc,k2,k4]⟩
end
theorem Z2a (h:Nat->Option Zd) (is:List Nat):∀i t es p u,h i=some (.row t es p u)->∃p',ZJ h (Zu h is) i=some (.row t es p' u):=fun i t es p u hi=>by
 unfold ZJ;cases hq:Zw i (Zu h is)with
 | none=>exact⟨p,hi⟩
 | some y =>
  obtain⟨t',es',p',u',k1,k2⟩:=Ye h is i y hq;rw[hi]at k1;cases k1;exact⟨_,k2⟩
theorem Z7z {nid:Nat} (is:List Nat):Z2E β β h (ZJ h (Zu h is)) nid:=fun i _ a=>by
 refine⟨?_,rfl,fun _=>rfl⟩;unfold ZJ;cases hq:Zw i (Zu h is)with
 | none=>exact a
 | some y =>
  obtain⟨t',es',p',u',k1,k2⟩:=Ye h is i y hq;rw[a]at k1;cases k1
theorem Zgp {h':Nat->Option Zd} {G':Gh} (hx:Ext β G β G') (f:∀i t es p u,h i=some (.row t es p u)->∃p',h' i=some (.row t es p' u)) (a1:∀i t es p u,h i=some (.row t es p u)->∀c∈es,c.length=YD E t)
  {d d':DV} {v:Value} (g:Z8W E h d=some d') (z:∀i∈Zj d,Z2M E β G' h' i) (hr:Rep β G d v):Rep β G' d' v/\Zh d'=true:=by
 unfold Z8W at g;split at g
 ·rename_i id ver i n e;obtain⟨ob,ho,g⟩:=Z0 g;split at g
  ·rename_i t es p u;obtain⟨j,x⟩:=Z3 g;clear g;cases x;simp only[jn]at j;obtain⟨j,q⟩:=j;have j:u=ver:=jf j;have q:YD E t=e:=jf q;subst j;obtain⟨p',r⟩:=f _ _ _ _ _ ho;obtain⟨hdr,h1,a,c,h2,k⟩:=z id (by simp[Zj]) _ _ _ _ r
   obtain⟨a0,m,c0,a',c',l,rfl,s,hle,hz⟩:=Zbz.1 hr;rw[h1,h2.1]at l;cases l;have o:((es.drop i).take n).length=n:=by simp;omega
   refine⟨Z4n.2 ⟨_,c',⟨by rw[o],by rw[o];exact s⟩,?_⟩,rfl⟩
   rcases hz with hz|⟨b,y,w⟩
   ·exact .inl (by rw[hz];simp)
   rcases k with k|⟨b',k,l⟩
   ·exact .inl (by rw[k];simp)
   ·rw[y]at k;cases k;rw[q]at l;refine .inr ⟨_,i*e,e,w,?_⟩;have:=Z3P n (Z3O i l)
    rwa [Nat.zero_add]at this
  ·cases g
 ·exact Z5g hx f g z hr
theorem Z7d {h':Nat->Option Zd} {G':Gh} (j:Ext β G β G') (a:∀i t es p u,h i=some (.row t es p u)->∃p',h' i=some (.row t es p' u)) (e:∀i t es p u,h i=some (.row t es p u)->∀c∈es,c.length=YD E t) :
  ∀{ds ds':List DV} {vs:List Value},Z3M E h ds=some ds'->(∀i∈Zk ds,Z2M E β G' h' i)->Zi β G ds vs->Zi β G' ds' vs/\Zc ds'=true
 | [],ds',vs,b,_,hr=>by simp only[Z3M,jh]at b;subst b;rw[Zm]at hr;subst hr;exact⟨Zm.2 rfl,rfl⟩
 | d::ds,ds',vs,b,hs,hr=>by
  simp only[Z3M]at b;obtain⟨c,k,b⟩:=Z0 b;obtain⟨cs,l,b⟩:=Z0 b;cases b;obtain⟨v,vs',rfl,g,f⟩:=Zb.1 hr;obtain⟨k1,k2⟩:=Zgp j a e k (fun i hi=>hs i (by simp[Zk,hi])) g
  obtain⟨k3,k4⟩:=Z7d j a e l (fun i hi=>hs i (by simp[Zk,hi])) f
  exact⟨Zb.2 ⟨v,vs',rfl,k1,k3⟩,by simp[Zc,k2,k4]⟩
end
end Go.Ab
namespace Go.Ab
open Go.RowKit
section
variable {P:Program} {E:Env} {w0:World} {G0:Gh} {D:DD} {o:Oper} {a:Act} {w:World} {β:Bi} {G:Gh} {h:Nat->Option Zd} {nid:Nat} {ρ:Nat->Option DV}
theorem Zac {α:Type} {e:Nat}:∀{es:List (List α)} (i:Nat),(∀c∈es,c.length=e)->(es.drop i).flatten=es.flatten.drop (i*e)
 | [],i,_=>by simp
 | c::es,0,_=>by simp
 | c::es,i+1,h=>by
  have hc:=h c (by simp)
  have a:c.drop ((i+1)*e)=[]:=List.drop_of_length_le (by rw[hc,Nat.add_mul];omega)
  have b:(i+1)*e-c.length=i*e:=by rw[hc,Nat.add_mul];omega
  rw[List.drop_succ_cons,Zac i (fun x d=>h x (List.mem_cons_of_mem _ d)),List.flatten_cons,List.drop_append,a,b,List.nil_append]
theorem Zad {α:Type} {e:Nat}:∀{es:List (List α)} (n:Nat),(∀c∈es,c.length=e)->(es.take n).flatten=es.flatten.take (n*e)
 | [],i,_=>by simp
 | c::es,0,_=>by simp
 | c::es,n+1,h=>by
  have hc:=h c (by simp)
  have a:c.take ((n+1)*e)=c:=List.take_of_length_le (by rw[hc,Nat.add_mul];omega)
  have b:(n+1)*e-c.length=n*e:=by rw[hc,Nat.add_mul];omega
  rw[List.take_succ_cons,List.flatten_cons,Zad n (fun x d=>h x (List.mem_cons_of_mem _ d)),List.flatten_cons,List.take_append,a,b]
theorem ZfJ {e:Nat} {es:List (List DV)} {vals:List Value} (a:∀c∈es,c.length=e) (hr:Zi β G es.flatten vals) (i n:Nat):Zi β G ((es.drop i).take n).flatten ((vals.drop (i*e)).take (n*e)):=by
 rw[Zad n (fun c hc=>a c (List.mem_of_mem_drop hc)),Zac i a];exact YA _ (Yz _ hr)
theorem Z7M (hh:HR E w0 G0 D w β G h) {d:DV} {es:List (List DV)} {v:Value} (a:Y4 h d=some es) (hr:Rep β G d v) :
  ∃A c,v=.slice A es.length c/\es.length<=c/\(es=[]\/∃b off e vals,A=some ⟨b,off,none⟩/\(∀x∈es,x.length=e/\Zc x=true/\x.all ZH=true)/\Zi β G es.flatten vals ∧
   ∀j u,vals[j]? = some u->w.cell? ⟨b,off+j,none⟩=some u):=by
 unfold Y4 at a;split at a
 ·cases a;rw[Z1U]at hr;exact⟨none,0,hr,Nat.le_refl _,.inl rfl⟩
 ·cases a;obtain⟨A,c,⟨rfl,a2⟩,q⟩:=Z4n.1 hr;refine⟨A,c,rfl,a2,?_⟩;rcases q with q|⟨b,off,e,q,s⟩
  ·exact .inl q
  ·refine .inr ⟨b,off,e,?_⟩;have key:∀(es:List (List DV)) (off:Nat),Yv β G b e off es->∃vals,(∀x∈es,x.length=e/\Zc x=true/\x.all ZH=true)/\Zi β G es.flatten vals/\∀j u,vals[j]? = some u->w.cell? ⟨b,off+j,none⟩=some u:=by
    intro es
    induction es with
    | nil=>intro off _;exact⟨[],by simp,Zm.2 rfl,by simp⟩
    | cons x xs ih =>
     intro off hp;unfold Yv at hp;obtain⟨k1,k2,k3,k4⟩:=hp;obtain⟨vs1,k5,k6⟩:=Z8C hh.agree x off k3;obtain⟨vs2,k7,k8,k9⟩:=ih (off+e) k4;refine⟨vs1++vs2,?_,?_,?_⟩
     ·intro y hy;rcases jr.1 hy with rfl|hy
      ·exact⟨k1,k2⟩
      ·exact k7 y hy
     ·rw[List.flatten_cons];exact Y8.2 ⟨_,_,rfl,k5,k8⟩
     ·intro j u k;have hl:=ZP k5
      by_cases hlt:j<vs1.length
      ·rw[List.getElem?_append_left hlt]at k;exact k6 j u k
      ·rw[List.getElem?_append_right (by omega)]at k
       have:=k9 _ u k
       rwa [show off+e+(j-vs1.length)=off+j by omega]at this
   obtain⟨vals,k1,k2,k3⟩:=key es off s;exact⟨vals,q,k1,k2,k3⟩
 ·rename_i id ver;obtain⟨ob,ho,a⟩:=Z0 a;split at a
  ·rename_i t _ p u;obtain⟨o,r⟩:=Z3 a;clear a;cases r;have o:u=ver:=jf o;subst o;obtain⟨hdr,vals,q,s,h3,h4,h5,h6,h7⟩:=hh.obj id _ ho;obtain⟨l,_⟩:=Z2K.1 hr;rw[q]at l;cases l;rcases s.2 with⟨hv,hn⟩|⟨g,cap,cur,hv,hg1,hg2,hg3,hg4,hg5,hg6⟩
   ·have z:es=[]:=List.eq_nil_of_length_eq_zero hn;exact⟨none,0,by rw[hv,z];rfl,by rw[z];exact Nat.le_refl _,.inl z⟩
   ·refine⟨_,cap,hv,hg3,.inr ⟨g,0,YD E t,vals,rfl,h4,h3,fun j u k=>?_⟩⟩;have:=s.cells (g:=g) (by rw[hv];rfl) j u k
    rwa [Yn]at this
  ·cases a
 ·rename_i id ver i n e;obtain⟨ob,ho,a⟩:=Z0 a;split at a
  ·rename_i t es' p u;obtain⟨o,r⟩:=Z3 a;clear a;cases r;simp only[jn,List.all_eq_true]at o;obtain⟨o,f⟩:=o;have f:∀c∈es',c.length=e:=fun c hc=>jf (f c hc);have o:u=ver:=jf o;subst o;obtain⟨hdr,vals,q,s,h3,h4,h5,h6,h7⟩:=hh.obj id _ ho;obtain⟨a0,m,c,a',c',l,rfl,h9,a2,hz⟩:=Zbz.1 hr;rw[q]at l;have l:=Option.some.inj l;have hm:es'.length=m:=by
    rcases s.2 with⟨hv,hn⟩|⟨g,cap,cur,hv,_⟩
    ·rw[hv]at l;cases l;exact hn
    ·rw[hv]at l;cases l;rfl
   have a1:((es'.drop i).take n).length=n:=by simp;omega
   refine⟨_,c',by rw[a1],by rw[a1];exact h9,?_⟩
   rcases hz with hz|⟨b,hz1,hz2⟩
   ·exact .inl (by rw[hz];simp)
   rw[hz1]at l;refine .inr ⟨b,i*e,e,(vals.drop (i*e)).take (n*e),hz2,fun x hx=>?_,ZfJ f h3 i n,fun j u k=>?_⟩
   ·have hx:=List.mem_of_mem_drop (List.mem_of_mem_take hx);exact⟨f x hx,(h4 x hx).2⟩
   ·rw[List.getElem?_take]at k;split at k
    ·rw[List.getElem?_drop]at k;have:=s.cells (g:=b) (by rw[l];rfl) _ u k
     rw[Yn]at this
     rwa [Nat.zero_add]at this
    ·cases k
  ·cases a
 ·cases a
theorem Z4R {n:Nat} {d:DV} {i:Nat} {v:Value} (a:Z3a n d=some i) (hr:Rep β G d v):∃k,v=.int k (i:Int)/\i<n:=by
 unfold Z3a at a;split at a
 ·rename_i k x;rw[ZG]at hr;obtain⟨b,a⟩:=Z3 a;simp only[jn,jl]at b;cases a;refine⟨k,?_,by omega⟩
  rw[hr,Int.toNat_of_nonneg b.1]
 ·cases a
theorem ZcB:∀{es:List (DV×DV)} {ms:List MapEntry},Z70 β G es ms->ms.length=es.length
 | [],_,h=>by simp only[Z70]at h;simp[h]
 | _::_,_,⟨m,ms',h1,_,_,_,_,h6⟩=>by subst h1;simp[ZcB h6]
theorem Zfy (hh:HR E w0 G0 D w β G h) {t:TypeId} {ti:TI} (ht:ZW P t ti) {ts:Array TypeId} (g:ts[0]? = some t) {ty:TypeId} {d r:DV} {v:Value} (f:Z5v ti.k h d=some r) (hr:Rep β G d v) :
  ∃u,(Builtin.len_ ts ty #[v]).run P w=.ok u w/\Rep β G r u:=by
 have a:=ht.desc;unfold Z5v at f;split at f<;>rename_i i
 ·cases f;rw[i]at a;rw[Y9]at hr;subst hr;exact⟨_,by simp[Builtin.len_,g,ji a,goInt],ZG.2 rfl⟩
 ·cases f;rw[i]at a;rw[Z6b]at hr;subst hr;exact⟨_,by simp[Builtin.len_,g,ji a,goInt],ZG.2 rfl⟩
 ·rename_i k e id;rw[i]at a;obtain⟨ob,p,f⟩:=Z0 f;split at f
  ·cases f;obtain⟨b,o,rfl⟩:=Z8m.1 hr;obtain⟨b',ms,clock,m,q,s⟩:=hh.obj id _ p;rw[o]at m;cases m;have n:=ZcB s;simp at n;exact⟨.int .i64 (ms.size:Nat),by simp[Builtin.len_,g,ji a,goInt,getObj,Sem.run,q],ZG.2 (by rw[n])⟩
  ·cases f
 ·rw[i]at a;cases f;obtain⟨A,c,rfl,_⟩:=ZcV.1 hr;exact⟨_,by simp[Builtin.len_,g,ji a,goInt],ZG.2 rfl⟩
 ·rename_i j;rw[j]at a;obtain⟨es,l,f⟩:=Z0 f;cases f;obtain⟨A,c,rfl,_,_⟩:=Z7M hh l hr;exact⟨_,by simp[Builtin.len_,g,ji a,goInt],ZG.2 rfl⟩
 ·rw[i]at a;cases f;exact⟨_,by simp[Builtin.len_,g,ji a,goInt],ZG.2 rfl⟩
 ·cases f
structure Src (P:Program) (w:World) (t t' ty e:TypeId) (i:TypeInfo) (z x:Value) (m:Nat) (news:List Value):Prop where
 none0:m=0->∀(base:Nat) (v:Value) (n:Nat) (xs:List Value),w.ownsRow base e i.size v n xs->(Builtin.append_ #[t,t'] ty #[v,x]).run P w=.ok v w
 nil:0<m->(m:Int)<=9223372036854775807->m*i.bytes<=281474976710656->(Builtin.append_ #[t,t'] ty #[.slice none 0 0,x]).run P w =
   .ok (.slice (some ⟨w.heap.size,0,none⟩) m (grownCap w m 0 e)) (w.drew.alloc (.cells (news.toArray++Builtin.zeroCells z.cells (grownCap w m 0 e-m)) e))
 fits:0<m->∀(base g n cap:Nat) (xs:List Value),w.ownsRow base e i.size (.slice (some ⟨g,0,none⟩) n cap) n xs->n+m<=cap →
  ∃w',(Builtin.append_ #[t,t'] ty #[.slice (some ⟨g,0,none⟩) n cap,x]).run P w=.ok (.slice (some ⟨g,0,none⟩) (n+m) cap) w' ∧
   w'.ownsRow base e i.size (.slice (some ⟨g,0,none⟩) (n+m) cap) (n+m) (xs++news)/\w.grownBy w' (some g)
 grow:0<m->∀(b:Addr) (sLen sCap:Nat) (olds:List Value),olds.length=sLen*i.size->(∀j v,olds[j]? = some v->w.cell? (b.add j)=some v) →
  sCap<sLen+m->((sLen+m:Nat):Int)<=9223372036854775807->Builtin.nextslicecap (sLen+m) sCap*i.bytes<=281474976710656 →
  (Builtin.append_ #[t,t'] ty #[.slice (some b) sLen sCap,x]).run P w =
   .ok (.slice (some ⟨w.heap.size,0,none⟩) (sLen+m) (grownCap w (sLen+m) sCap e))
    (w.drew.alloc (.cells (olds.toArray++news.toArray++Builtin.zeroCells z.cells (grownCap w (sLen+m) sCap e-(sLen+m))) e))
theorem ZaC {t ty e:TypeId} {i:TypeInfo} {z:Value} (ht:P.underlying t=some (.slice e)) (hi:P.info? e=some i) (hz:i.zero=some z) {A:Option Addr} {m c:Nat} {news:List Value} (q:news.length=m*i.size)
  (l:m=0\/∃b off,A=some ⟨b,off,none⟩/\∀j u,news[j]? = some u->w.cell? ⟨b,off+j,none⟩=some u) (h1:∀u∈news,u.oneCell'=true) :
  Src P w t t ty e i z (.slice A m c) m news:=by
 have a:0<m->∃b off,A=some ⟨b,off,none⟩/\∀j u,news[j]? = some u->w.cell? ((⟨b,off,none⟩:Addr).add j)=some u:=fun f=>by
  obtain⟨b,off,rfl,hc⟩:=l.resolve_left (by omega)
  exact⟨b,off,rfl,fun j u hj=>by rw[Yn];exact hc j u hj⟩
 refine⟨fun f base v n xs d=>?_,fun f k s=>?_,fun f base g n cap xs d h=>?_,fun f b sLen sCap olds r y x k o=>?_⟩
 ·subst f;rcases d.2 with⟨rfl,rfl⟩|⟨g,cap,cur,rfl,_,x,p,_,hcs,_⟩
  ·cases A<;>simp[Builtin.append_,ji ht,sizeOf,typeInfo,hi,Builtin.lenOf,Builtin.firstCells,loadCells,loadCellsFrom]
  ·cases A<;>simp[Builtin.append_,ji ht,sizeOf,typeInfo,hi,Builtin.lenOf,Builtin.firstCells,p,loadCells,loadCellsFrom,storeCells]
 ·obtain⟨b,off,rfl,hc⟩:=a f;exact run_append_nil (P:=P) w t ty e i z ht hi hz ⟨b,off,none⟩ m c news q hc f k s
 ·obtain⟨b,off,rfl,hc⟩:=a f;exact run_append_fits (P:=P) w base t ty e i i.size ht hi rfl g n cap xs d ⟨b,off,none⟩ m c news q hc h1 h
 ·obtain⟨b',off,rfl,hc⟩:=a f;exact run_append_grow (P:=P) w t ty e i z ht hi hz b sLen sCap olds r y ⟨b',off,none⟩ m c news q hc x k o
theorem ZhS {t t' ty e:TypeId} {i:TypeInfo} {z:Value} (ht:P.underlying t=some (.slice e)) (j:P.underlying t'=some .string) (hi:P.info? e=some i) (hz:i.zero=some z) (s:ByteArray) (u:0<s.size->i.size=1) :
  Src P w t t' ty e i z (.string s) s.size (Lib.strCells s):=by
 refine⟨fun f base v n xs a=>?_,fun f d o=>?_,fun f base g n cap xs a c=>?_,fun f b sLen sCap olds m r q d h=>?_⟩
 ·have k:s=.empty:=ByteArray.ext (Array.eq_empty_of_size_eq_zero f);subst k;rcases a.2 with⟨rfl,rfl⟩|⟨g,cap,cur,rfl,_,q,l,_,hcs,_⟩
  ·simp[Builtin.append_,ji ht,ji j,sizeOf,typeInfo,hi,Builtin.lenOf,Builtin.firstCells]
  ·simp[Builtin.append_,ji ht,ji j,sizeOf,typeInfo,hi,Builtin.lenOf,Builtin.firstCells,l,storeCells]
 ·have:=run_append_nil_string (P:=P) w t t' ty e i z ht j hi hz s f d o;have e1:(Lib.strCells s).toArray=s.data.map fun b=>Value.int .u8 b.toNat:=by
   apply Array.ext';simp[Lib.strCells]
  rw[e1];exact this
 ·have p:=u f;rw[p]at a⊢;obtain⟨w',k1,k2,k3⟩:=Lib.run_append_fits_string (P:=P) w base t t' ty e i ht j hi p (some ⟨g,0,none⟩) n cap xs a s (by omega) c
  exact⟨w',k1,k2,k3⟩
 ·exact Lib.run_append_grow_string (P:=P) w t t' ty e i z ht j hi hz b sLen sCap olds m r s q d h
theorem Z8x {base:Nat} {t t' ty e:TypeId} {ti:TI} {i:TypeInfo} {z:Value} (hi:P.info? e=some i) (hs:i.size=ti.size) (p:i.bytes=ti.bytes) (hz:i.zero=some z) (l:z.cells.size=ti.size) {v:Value} {n:Nat} {xs:List Value}
  (a:w.ownsRow base e ti.size v n xs) {x:Value} {m:Nat} {news:List Value} (h:news.length=m*ti.size) (c:Src P w t t' ty e i z x m news)
  (hb:(n+m)*(ti.bytes+1)<=200000000000000) (hby2:ti.bytes<=100000000000) (d:base<=w.heap.size) :
  ∃v' w' row,(Builtin.append_ #[t,t'] ty #[v,x]).run P w=.ok v' w'/\w'.ownsRow base e ti.size v' (n+m) (xs++news)/\w.grownBy w' row ∧
   (row=none/\(v'.ownBlock=some w.heap.size\/v'=v)\/row=v.ownBlock/\v'.ownBlock=v.ownBlock):=by
 have hn1:n+m<=200000000000000:=by
  have:=Nat.le_mul_of_pos_right (n+m) (show 0<ti.bytes+1 by omega)
  omega
 have q:(n+m)*ti.bytes<=200000000000000:=by
  have:=Nat.mul_le_mul_left (n+m) (show ti.bytes<=ti.bytes+1 by omega)
  omega
 have j:(n+m+(n+m) / 4+192)*i.bytes<=281474976710656:=by
  rw[p];have h1:=Nat.mul_le_mul_right ti.bytes (Nat.div_mul_le_self (n+m) 4);have h2:(n+m) / 4*4*ti.bytes=(n+m) / 4*ti.bytes*4:=by rw[Nat.mul_assoc,Nat.mul_comm 4,Nat.mul_assoc]
  rw[h2]at h1;rw[Nat.add_mul,Nat.add_mul];omega
 have b:=a;rw[<-hs]at b
 by_cases hm:m=0
 ·subst hm;have hne:news=[]:=List.eq_nil_of_length_eq_zero (by simpa using h)
  subst hne;exact⟨v,w,none,c.none0 rfl base v n xs b,by simpa using a,World.grownBy.refl w _,.inl ⟨rfl,.inr rfl⟩⟩
 ·have f:0<m:=by omega
  have s:((n+m:Nat):Int)<=9223372036854775807:=by omega
  rcases a.2 with⟨rfl,rfl⟩|⟨g,cap,cur,rfl,hgb,hg,hnc,hcm,hcs,r⟩
  ·have hxs:xs=[]:=List.eq_nil_of_length_eq_zero (by simpa using a.1)
   subst hxs;have hr:=c.nil f (by omega) (by rw[p];simp at q;omega)
   have o:=grownCap_ge w m 0 e;refine⟨_,_,none,hr,⟨by simpa using h,.inr ⟨w.heap.size,_,_,by rw[Nat.zero_add],d,heap_alloc_new w.drew _,by omega,grownCap_le_maxLen w m 0 e (by simp only[maxLen];omega),?_,?_⟩⟩,?_,.inl ⟨rfl,.inl rfl⟩⟩
   ·simp only[Array.size_append,List.size_toArray,size_zeroCells,h,l];rw[<-Nat.add_mul];congr 1;omega
   ·simp only[Array.toList_append,List.nil_append,Nat.zero_add];rw[<-h];simp
   ·exact⟨rfl,rfl,rfl,by simp,fun k hk _=>Below.heap_alloc w.drew _ k hk⟩
  ·by_cases hroom:n+m<=cap
   ·obtain⟨w',hr,ho,u⟩:=c.fits f base g n cap xs b hroom;exact⟨_,w',_,hr,by rw[<-hs];exact ho,u,.inr ⟨rfl,rfl⟩⟩
   ·have hxl:xs.length=n*i.size:=by rw[hs];exact a.1
    have y:=a.cells (g:=g) rfl;have hr:=c.grow f ⟨g,0,none⟩ n cap xs hxl y (by omega) s (growslice_fits_wide (by omega) j)
    have o:=grownCap_ge w (n+m) cap e;refine⟨_,_,none,hr,⟨by rw[List.length_append,a.1,h,Nat.add_mul],.inr ⟨w.heap.size,_,_,rfl,d,heap_alloc_new w.drew _,o,grownCap_le_maxLen w (n+m) cap e (by simp only[maxLen];omega),?_,?_⟩⟩,?_,.inl ⟨rfl,.inl rfl⟩⟩
    ·simp only[Array.size_append,List.size_toArray,size_zeroCells,h,a.1,l];rw[<-Nat.add_mul,<-Nat.add_mul];congr 1;omega
    ·simp only[Array.toList_append];rw[Nat.add_mul,<-a.1,<-h];exact List.take_left' (by simp)
    ·exact⟨rfl,rfl,rfl,by simp,fun k hk _=>Below.heap_alloc w.drew _ k hk⟩
end
end Go.Ab
namespace Go.Ab
open Go.RowKit
section
variable {P:Program} {E:Env} {w0:World} {G0:Gh} {D:DD} {o:Oper} {a:Act} {w:World} {β:Bi} {G:Gh} {h:Nat->Option Zd} {nid:Nat} {ρ:Nat->Option DV}
theorem Z6q {t:TypeId} {ti:TI} (ht:E.ty t=some ti):YD E t=ti.size:=by simp[YD,ht]
theorem Z3h {id:Nat} {t:TypeId} {es:List (List DV)} {p u:Nat} {hdr:Value} (d:β.hdr id u=some hdr) {base e:Nat} {n:Nat} {xs:List Value} {size:Nat} (f:w.ownsRow base e size hdr n xs) (b:Nat) :
  Yu β id (.row t es p u) b↔hdr.ownBlock=some b:=by
 constructor
 ·rintro⟨n',c,a⟩;rw[d]at a;cases a;rfl
 ·intro a;obtain⟨c,hc⟩:=Z5E f a;exact⟨n,c,by rw[d,hc]⟩
def Z1m (β:Bi) (id u:Nat) (v:Value):Bi:={ β with hdr:=fun i x=>if i=id/\x=u then some v else β.hdr i x }
theorem Z9B {id u:Nat} {v:Value} (a:β.hdr id u=none):Ext β G (Z1m β id u v) G :=
 ⟨fun _ _ _ h=>h,fun _ _ h=>h,fun i x y hy=>by
  by_cases e:i=id/\x=u
  ·obtain⟨rfl,rfl⟩:=e;rw[a]at hy;cases hy
  ·simp[Z1m,e,hy]⟩
theorem ZbG (hh:HR E w0 G0 D w β G h) (hf:ZR β h nid) {w':World} {hdr:Value} {t:TypeId} {es:List (List DV)} {vals:List Value}
  (s:w.grownBy w' none) (f:w'.ownsRow w0.heap.size t (YD E t) hdr es.length vals) (j:∀b,hdr.ownBlock=some b->b=w.heap.size) (r:∃a n c,hdr=.slice a n c)
  (hr:Zi β G es.flatten vals) (q:∀c∈es,c.length=YD E t/\Zc c=true/\c.all ZH=true) (l:0<YD E t) :
  ∃β',Ext β G β' G/\Rep β' G (.rs nid 0) hdr/\HR E w0 G0 D w' β' G (ZJ h [(nid,some (.row t es 0 0))])/\Z2E β β' h (ZJ h [(nid,some (.row t es 0 0))]) nid:=by
 have z:Ext β G (Z1m β nid 0 hdr) G:=Z9B (hf.hdr 0);have g:(Z1m β nid 0 hdr).hdr nid 0=some hdr:=by simp[Z1m]
 refine⟨Z1m β nid 0 hdr,z,Z2K.2 ⟨g,r⟩,?_,?_⟩
 ·refine hh.move (fun b=>w.heap.size<=b) nid _ z (hh.below.grown s hh.below.size (fun _ e=>by cases e)) (fun b d p=>s.block b p (by simp)) (fun _ _=>rfl) s.size ?_ ?_ ?_ ?_ ?_ ?_ ?_
  ·intro b d;refine⟨Nat.le_trans hh.below.size d,hh.dfree d⟩
  ·intro b id' o2 d m x;have:=(hh.own id' o2 _ m x).2.1;omega
  ·intro b d o v k;rw[glt hh d]at k;cases k
  ·refine⟨hdr,vals,g,f,Zi.mono z _ _ hr,q,⟨l,Z9g _ _⟩,fun b d o _=>?_,fun u' hu'=>?_⟩
   ·rw[j b d];exact glt hh (Nat.le_refl _) o
   ·have:¬u'=0:=by omega
    simp only[Z1m,this,and_false,if_false];exact hf.hdr u'
  ·intro b d;rw[Z3h g f]at d;left;rw[j b d];exact Nat.le_refl _
  ·intro b d;rw[Z3h g f]at d;exact(f.lt b d).2
  ·intro i hi;exact⟨rfl,fun u=>by simp[Z1m,hi]⟩
 ·intro i hi y;exact⟨by rw[ZU,if_neg hi];exact y,rfl,fun u=>by simp[Z1m,hi]⟩
theorem ZgW (hh:HR E w0 G0 D w β G h) {id:Nat} {w':World} {v v':Value} {row:Option Nat} {t:TypeId} {es xs:List (List DV)} {p u:Nat} {vals news:List Value}
  (ho:h id=some (.row t es p u)) (hv:β.hdr id u=some v) (j:w.ownsRow w0.heap.size t (YD E t) v es.length vals) (hrep:Zi β G es.flatten vals)
  (hg:w.grownBy w' row) (f:w'.ownsRow w0.heap.size t (YD E t) v' (es.length+xs.length) (vals++news))
  (r:row=none/\(v'.ownBlock=some w.heap.size\/v'=v)\/row=v.ownBlock/\v'.ownBlock=v.ownBlock)
  (hn:Zi β G xs.flatten news) (hxs:∀c∈xs,c.length=YD E t/\Zc c=true/\c.all ZH=true) :
  ∃β',Ext β G β' G/\Rep β' G (.rs id (u+1)) v'/\HR E w0 G0 D w' β' G (ZJ h [(id,some (.row t (es++xs) p (u+1)))])/\Z2E β β' h (ZJ h [(id,some (.row t (es++xs) p (u+1)))]) nid:=by
 obtain⟨hdr,vals',h1,h2,h3,h4,h5,h6,h7⟩:=hh.obj id _ ho;rw[hv]at h1;cases h1;have hx:Ext β G (Z1m β id (u+1) v') G:=Z9B (h7 (u+1) (by omega))
 have z:(Z1m β id (u+1) v').hdr id (u+1)=some v':=by simp[Z1m]
 have hsl:∃a n c,v'=.slice a n c:=by
  rcases f.2 with⟨e,_⟩|⟨g,cap,cur,e,_⟩<;>exact⟨_,_,_,e⟩
 have l:∀b,row=some b->v.ownBlock=some b:=fun b d=>by
  rcases r with⟨e,_⟩|⟨e,_⟩
  ·rw[e]at d;cases d
  ·rw[<-e];exact d
 have a0:∀b,v'.ownBlock=some b->b=w.heap.size\/v.ownBlock=some b:=fun b d=>by
  rcases r with⟨_,e|e⟩|⟨_,e⟩
  ·rw[e]at d;cases d;exact .inl rfl
  ·subst e;exact .inr d
  ·right;rw[<-e];exact d
 refine⟨Z1m β id (u+1) v',hx,Z2K.2 ⟨z,hsl⟩,?_,?_⟩
 ·refine hh.move (fun b=>w.heap.size<=b\/row=some b) id _ hx (hh.below.grown hg hh.below.size (fun k e=>(j.lt k (l k e)).1))
   (fun b d y=>hg.block b y (fun e=>d (.inr e.symm))) (fun _ _=>rfl) hg.size ?_ ?_ ?_ ?_ ?_ ?_ ?_
  ·rintro b (d|d)
   ·refine⟨Nat.le_trans hh.below.size d,hh.dfree d⟩
   ·have q:Yu β id (.row t es p u) b:=(Z3h hv j b).2 (l b d);exact⟨(hh.own id _ b ho q).1,(hh.own id _ b ho q).2.2⟩
  ·rintro b id' o2 (d|d) ho2 q
   ·have:=(hh.own id' o2 _ ho2 q).2.1;omega
   ·exact hh.inj id' id o2 _ b ho2 ho q ((Z3h hv j b).2 (l b d))
  ·rintro b (d|d) off x s
   ·rw[glt hh d]at s;cases s
   ·have o:=l b d;have hv'b:v'.ownBlock=some b:=by
     rcases r with⟨e,_⟩|⟨_,e⟩
     ·rw[e]at d;cases d
     ·rw[e];exact o
    have m:off<vals.length:=by
     have y:off<pn p es.length*YD E t:=by
      rcases Nat.lt_or_ge off (pn p es.length*YD E t)with y|hge
      ·exact y
      ·rw[h6 b o off hge]at s;cases s
     have:=Nat.mul_le_mul_right (YD E t) h5.2;rw[j.1];omega
    have hc:=j.cells o off (vals[off]) (by simp[m])
    rw[Yn,Nat.zero_add]at hc;have:=hh.agree b off x s;rw[hc]at this;cases this;have hc':=f.cells hv'b off (vals[off]) (by rw[List.getElem?_append_left m];simp[m])
    rwa [Yn,Nat.zero_add]at hc'
  ·refine⟨v',vals++news,z,by rw[List.length_append];exact f,?_,?_,⟨h5.1,Z9g _ _⟩,?_,?_⟩
   ·rw[List.flatten_append];exact Y8.2 ⟨_,_,rfl,Zi.mono hx _ _ hrep,Zi.mono hx _ _ hn⟩
   ·intro c hc;rcases List.mem_append.1 hc with hc|hc
    ·exact h4 c hc
    ·exact hxs c hc
   ·intro b d off m;rcases a0 b d with rfl|o
    ·exact glt hh (Nat.le_refl _) off
    ·exact h6 b o off (Nat.le_trans (Nat.mul_le_mul_right _ (ZhL p (by rw[List.length_append];omega))) m)
   ·intro u' hu';have:¬u'=u+1:=by omega
    simp only[Z1m,this,and_false,if_false];exact h7 u' (by omega)
  ·intro b d;rw[Z3h z f]at d;rcases a0 b d with rfl|o
   ·exact .inl (.inl (Nat.le_refl _))
   ·exact .inr ⟨_,ho,(Z3h hv j b).2 o⟩
  ·intro b d;rw[Z3h z f]at d;exact(f.lt b d).2
  ·intro i hi;exact⟨rfl,fun x=>by simp[Z1m,hi]⟩
 ·intro i hi hfr;have hne:i≠id:=by rintro rfl;rw[hfr]at ho;cases ho
  exact⟨by rw[ZU,if_neg hne];exact hfr,rfl,fun x=>by simp[Z1m,hne]⟩
theorem Zce {e:Nat}:∀{xs:List (List DV)},(∀c∈xs,c.length=e)->xs.flatten.length=xs.length*e
 | [],_=>by simp
 | y::ys,h=>by
  have ih:=Zce (xs:=ys) (fun c hc=>h c (by simp[hc]))
  rw[List.flatten_cons,List.length_append,ih,h y (by simp),List.length_cons,Nat.add_mul,Nat.one_mul,Nat.add_comm]
theorem ZaR (hE:∀t ti,E.ty t=some ti->ZW P t ti) (hh:HR E w0 G0 D w β G h) (hf:ZR β h nid) {t t' ty:TypeId} {ds dx:DV} {s x:Value} (hs:Rep β G ds s) (hx:Rep β G dx x) {r:Out}
  (f:Z3t E nid h t t' ds dx=some r) :
  ∃v w' β',(Builtin.append_ #[t,t'] ty #[s,x]).run P w=.ok v w'/\(∀d,r.val=some d->Rep β' G d v)/\Ext β G β' G/\HR E w0 G0 D w' β' G (ZJ h r.upd)/\Z2E β β' h (ZJ h r.upd) nid:=by
 unfold Z3t at f;obtain⟨ti,hti,f⟩:=Z0 f;have htd:=(hE t ti hti).desc;split at f
 ·rename_i e hk;rw[hk]at htd;obtain⟨ei,hei,f⟩:=Z0 f;obtain⟨xs,j,f⟩:=Z0 f;have m:=(Z3 f).1;replace f:=(Z3 f).2;simp only[jn]at m;have hby2:=je m.2;have m:0<ei.size:=je m.1;have k:=Z6q hei;obtain⟨i,z,hi,hs',hby,hz,hzs,_⟩:=(hE e ei hei).info;have q:∀{xs:List (List DV)},(xs.all fun c=>Nat.beq c.length ei.size)=true->∀c∈xs,c.length=ei.size:=fun h c hc=>jf (List.all_eq_true.1 h c hc)
  have src:(xs.all fun c=>Nat.beq c.length ei.size)=true->∃news,news.length=xs.length*ei.size/\Zi β G xs.flatten news/\Src P w t t' ty e i z x xs.length news/\(∀c∈xs,Zc c=true/\c.all ZH=true):=fun a2=>by
   unfold Z8w at j;cases htt:Nat.beq t t' with
   | true =>
    rw[htt]at j;obtain rfl:=jf htt;obtain⟨A,c,rfl,_,hsrc⟩:=Z7M hh j hx;rcases hsrc with rfl|⟨b,off,e',vals,hA,h1,h2,h3⟩
    ·exact⟨[],by simp,Zm.2 rfl,ZaC htd hi hz (by simp) (.inl rfl) (by simp),by simp⟩
    ·have hfl:xs.flatten.length=xs.length*ei.size:=Zce (q a2);have hvl:vals.length=xs.length*ei.size:=by rw[ZP h2,hfl]
     refine⟨vals,hvl,h2,ZaC htd hi hz (by rw[hs'];exact hvl) (.inr ⟨b,off,hA,h3⟩) (Z6a ?_ h2),fun c hc=>(h1 c hc).2⟩
     rw[List.all_eq_true];intro y hy;obtain⟨c,hc,hy⟩:=List.mem_flatten.1 hy;exact List.all_eq_true.1 (h1 c hc).2.2 y hy
   | false =>
    rw[htt]at j;simp only[jA]at j;split at j
    ·rename_i s0 _ _;obtain⟨ti',hti',j⟩:=Z0 j;have htd':=(hE t' ti' hti').desc;split at j
     ·rename_i hk';rw[hk']at htd';cases j;rw[Y9]at hx;subst hx;have a1:(Z5S s0).length=s0.size:=by simp[Z5S]
      have hsz:0<s0.size->ei.size=1:=fun h0=>by
       have hb:0<(Z5S s0).length:=by rw[a1];exact h0
       have h1:=q a2 _ (jo hb);rw[<-h1];simp[Z5S]
      have hsl:(Lib.strCells s0).length=(Z5S s0).length*ei.size:=by
       rw[a1,Lib.strCells_length]
       by_cases h0:0<s0.size
       ·rw[hsz h0];omega
       ·have:s0.size=0:=by omega
        rw[this];omega
      have hrep:∀l:List UInt8,Zi β G (l.map fun b=>[DV.int .u8 b.toNat]).flatten (l.map fun b=>Value.int .u8 b.toNat):=fun l=>by
       induction l with
       | nil=>exact Zm.2 rfl
       | cons b l ih=>exact Zb.2 ⟨_,_,rfl,ZG.2 rfl,ih⟩
      refine⟨Lib.strCells s0,hsl,by simpa[Z5S,Lib.strCells]using hrep s0.data.toList,by rw[a1];exact ZhS htd htd' hi hz s0 (fun h0=>by rw[hs'];exact hsz h0),fun c hc=>?_⟩
      obtain⟨b,_,rfl⟩:=List.mem_map.1 hc;exact⟨rfl,rfl⟩
     ·cases j
    ·cases j
  cases ds with
  | nils =>
   simp only at f;rw[Z1U]at hs;subst hs;split at f
   ·cases f;refine⟨.slice none 0 0,w,β,?_,fun d f=>by cases f;exact Z1U.2 rfl,Ext.refl β G,by rw[Zdj];exact hh,Z2E.refl β h nid⟩
    obtain⟨news,k1,k2,k3,k4⟩:=src rfl;exact k3.none0 rfl 0 _ 0 [] ⟨by simp,.inl ⟨rfl,rfl⟩⟩
   ·skip
    obtain⟨hq,hdx⟩:=Z3 f;clear f;cases hdx;simp only[jn]at hq;obtain⟨news,k1,k2,k3,k5⟩:=src hq.1;have hown:w.ownsRow w0.heap.size e ei.size (.slice none 0 0) 0 []:=⟨by simp,.inl ⟨rfl,rfl⟩⟩
    have hle:=je hq.2;obtain⟨v',w',row,hr,a0,hg,o⟩:=Z8x (P:=P) (ty:=ty) hi hs' hby hz hzs hown k1 k3 (by rw[Nat.zero_add];exact hle) hby2 hh.below.size
    rw[Nat.zero_add,List.nil_append]at a0;have hg':w.grownBy w' none:=by
     rcases o with⟨e1,_⟩|⟨e1,_⟩<;>rw[e1]at hg<;>exact hg
    have hb:∀b,v'.ownBlock=some b->b=w.heap.size:=fun b hb=>by
     rcases o with⟨_,e1|e1⟩|⟨_,e1⟩
     ·rw[e1]at hb;cases hb;rfl
     ·rw[e1]at hb;cases hb
     ·rw[e1]at hb;cases hb
    have hsl:∃a n c,v'=.slice a n c:=by
     rcases a0.2 with⟨e1,_⟩|⟨g,cap,cur,e1,_⟩<;>exact⟨_,_,_,e1⟩
    obtain⟨β',m1,m2,m3,m4⟩:=ZbG hh hf hg' (by rw[k];exact a0) hb hsl k2 (fun c hc=>⟨by rw[k];exact q hq.1 c hc,(k5 c hc).1,(k5 c hc).2⟩) (by rw[k];exact m)
    exact⟨v',w',β',hr,fun d f=>by cases f;exact m2,m1,m3,m4⟩
  | rs id ver =>
   simp only at f;obtain⟨ob,ho,f⟩:=Z0 f;split at f
   ·rename_i e' es p u;obtain⟨hq,hd2⟩:=Z3 f;clear f;cases hd2;simp only[jn]at hq;obtain⟨⟨⟨hu,he⟩,a2⟩,hle⟩:=hq;have hu:u=ver:=jf hu;have he:e'=e:=jf he;subst hu he;obtain⟨news,k1,k2,k3,k5⟩:=src a2;obtain⟨hv,_⟩:=Z2K.1 hs;obtain⟨hdr,vals,h1,h2,h3,h4,h5,h6,h7⟩:=hh.obj id _ ho;rw[hv]at h1;cases h1;have h2':=h2;rw[k]at h2';obtain⟨v',w',row,hr,a0,hg,o⟩:=Z8x (P:=P) (ty:=ty) hi hs' hby hz hzs h2' k1 k3 (je hle) hby2 hh.below.size;obtain⟨β',m1,m2,m3,m4⟩:=ZgW (nid:=nid) (xs:=xs) (news:=news) hh ho hv h2 h3 hg (by rw[k];exact a0) o k2 (fun c hc=>⟨by rw[k];exact q a2 c hc,(k5 c hc).1,(k5 c hc).2⟩)
    exact⟨v',w',β',hr,fun d f=>by cases f;exact m2,m1,m3,m4⟩
   ·cases f
  | _=>cases f
 ·cases f
end
end Go.Ab
namespace Go.Ab
open Go.RowKit
section
variable {P:Program} {E:Env} {w0:World} {G0:Gh} {D:DD} {o:Oper} {a:Act} {w:World} {β:Bi} {G:Gh} {h:Nat->Option Zd} {nid:Nat} {ρ:Nat->Option DV}
theorem Z8R {size:Nat}:∀(ps:List (Nat×Value)) (k:Nat) (base:Array Value),(∀j p,ps[j]? = some p->p.1=k+j/\p.2.cells.size=size)->(k+ps.length)*size<=base.size →
  ∃out,Instr.fill (fun i=>some (i*size,size)) base ps=some out/\out.size=base.size/\out.toList.take ((k+ps.length)*size)=base.toList.take (k*size)++ps.flatMap (fun p=>p.2.cells.toList)
 | [],k,base,_,_=>⟨base,rfl,rfl,by simp⟩
 | (i,v)::ps,k,base,hp,hs=>by
  obtain⟨e,d⟩:=hp 0 (i,v) rfl;simp only[Nat.add_zero]at e d;subst e;have g:(i+((i,v)::ps).length)*size=i*size+size+ps.length*size:=by
   simp only[List.length_cons];rw[show i+(ps.length+1)=i+1+ps.length by omega,Nat.add_mul,Nat.add_mul,Nat.one_mul]
  have b:=Z4c v.cells (i*size) base (by rw[d];omega)
  obtain⟨out,n,o,l⟩:=Z8R ps (i+1) (v.cells.zipIdx.foldl (fun cs (c,j)=>cs.setIfInBounds (i*size+j) c) base)
   (fun j p m=>by
    obtain⟨k1,k2⟩:=hp (j+1) p (by simpa using m)
    exact⟨by omega,k2⟩)
   (by
    have a:(v.cells.zipIdx.foldl (fun cs (c,j)=>cs.setIfInBounds (i*size+j) c) base).size=base.size:=by
     rw[<-Array.length_toList,b];simp;omega
    rw[a,Nat.add_mul,Nat.add_mul,Nat.one_mul];omega)
  have a:(v.cells.zipIdx.foldl (fun cs (c,j)=>cs.setIfInBounds (i*size+j) c) base).size=base.size:=by
   rw[<-Array.length_toList,b];simp;omega
  refine⟨out,?_,o.trans a,?_⟩
  ·have h:(v.cells.size≠size||i*size+v.cells.size>base.size)=false:=by simp;omega
   simp only[Instr.fill,h,jg,if_false];exact n
  ·rw[show i+((i,v)::ps).length=i+1+ps.length by simp;omega,l,b]
   have f:(base.toList.take (i*size)).length=i*size:=by simp;omega
   rw[Nat.add_mul,Nat.one_mul,jj];simp only[List.flatMap_cons,<-jj];congr 1;rw[jj,List.take_append,f,List.take_of_length_le (by rw[f];omega),show i*size+size-i*size=size by omega,List.take_append]
   simp[d];exact List.take_of_length_le (by simp[d])
theorem Z6P (d:DV):Zk (cellsOf d)=Zj d:=by
 cases d<;>simp[cellsOf,Zj,Zk]
theorem Z81 {h':Nat->Option Zd} {G':Gh} (g:Ext β G β G') (b:∀i t es p u,h i=some (.row t es p u)->∃p',h' i=some (.row t es p' u)) {size:Nat} :
  ∀{ds:List (Nat×DV)} {ps:List (Nat×Value)} {k:Nat} {es:List (List DV)},Z4E β G ds ps->(∀i∈Zk (ds.map (·.2)),Z2M E β G' h' i)->Z5J h size k ds=some es →
   Zi β G' es.flatten (ps.flatMap fun p=>p.2.cells.toList)/\(∀c∈es,c.length=size/\Zc c=true/\c.all ZH=true)/\es.length=ps.length/\∀j p,ps[j]? = some p->p.1=k+j/\p.2.cells.size=size
 | [],ps,k,es,hp,_,a=>by
  simp only[Z4E]at hp;subst hp;simp only[Z5J,jh]at a;subst a;exact⟨Zm.2 rfl,by simp,rfl,by simp⟩
 | (i,d)::ds,_,k,es,⟨v,ps',hps,hv,hp⟩,hs,a=>by
  subst hps;simp only[Z5J]at a;obtain⟨m,a⟩:=Z3 a;simp only[jn]at m;obtain⟨c,hc,a⟩:=Z0 a;obtain⟨l,a⟩:=Z3 a;obtain⟨r,hr,a⟩:=Z0 a;cases a;have hi:i=k:=jf m.1;have o:(cellsOf d).length=size:=jf m.2;subst hi;have f:=Z3V hv;obtain⟨k1,k2⟩:=Z6v (E:=E) g b hc (fun j e=>hs j (by rw[Z6P]at e;simp[Zk,e])) f
  obtain⟨m1,m2,m3,m4⟩:=Z81 g b hp (fun j e=>hs j (by simp[Zk,e])) hr
  have n:c.length=size:=by have:=ZP k1;have:=ZP f;omega
  refine⟨?_,?_,by simp[m3],?_⟩
  ·rw[List.flatten_cons,List.flatMap_cons];exact Y8.2 ⟨_,_,rfl,k1,m1⟩
  ·intro x g;rcases jr.1 g with rfl|g
   ·exact⟨n,k2,l⟩
   ·exact m2 x g
  ·intro j p e;cases j with
   | zero =>
    simp at e;subst e;have:=ZP f;refine⟨by simp,?_⟩
    show v.cells.size=size;rw[<-o,<-this];simp
   | succ j =>
    obtain⟨n1,n2⟩:=m4 j p (by simpa using e)
    exact⟨by omega,n2⟩
theorem Z9L {id:Nat} {x:Option Zd} {us:List (Nat×Option Zd)} (a:Zw id us=none) (i:Nat):ZJ h ((id,x)::us) i=ZJ (ZJ h us) [(id,x)] i:=by
 rw[ZaL,ZU];unfold ZJ
 by_cases e:i=id
 ·subst e;rw[a]
 ·simp only[e,if_false]<;>(cases Zw i us<;>rfl)
theorem Z75 (hE:∀t ti,E.ty t=some ti->ZW P t ti) (hf:FrM β G ρ a.tmps) (hh:HR E w0 G0 D w β G h) (o:ZR β h nid) {t:TypeId} {n:Nat} {ps:Array (Nat×Operand)} {r:Out}
  (f:ZE E nid ρ h (.buildSlice t n ps)=some r) :
  ∃v w' β' G',(Instr.buildSlice t n (ps.map fun(i,x)=>(i,a.eval x))).run P w=.ok v w'/\(∀d,r.val=some d->Rep β' G' d v)/\Ext β G β' G'/\HR E w0 G0 D w' β' G' (ZJ h r.upd)/\Z2E β β' h (ZJ h r.upd) nid:=by
 simp only[ZE]at f;obtain⟨ti,b8,f⟩:=Z0 f;have s:=(hE t ti b8).desc;split at f
 ·rename_i e hk;rw[hk]at s;obtain⟨ei,a6,f⟩:=Z0 f;obtain⟨vs,b2,f⟩:=Z0 f;obtain⟨es,b7,f⟩:=Z0 f;obtain⟨u,f⟩:=Z3 f;cases f;simp only[jn]at u;obtain⟨⟨m,a5⟩,g⟩:=u;have m:es.length=n:=jf m;have a5:n*ei.size<=1048576:=je a5;have g:0<ei.size:=je g;have k:=Z6q a6;have b0:=Z7m hf b2;obtain⟨G1,a2,a8,b9⟩:=Z1L hh (Zk (vs.map (·.2)));obtain⟨k1,k2,k3,k4⟩:=Z81 (E:=E) a2 (Z2a h _) b0 b9 b7;have b4:(ps.map fun(i,x)=>(i,a.eval x)).toList=ps.toList.map fun(i,x)=>(i,a.eval x):=by simp
  obtain⟨ie,z,hi,q,hby,hz,hzs,_⟩:=(hE e ei a6).info;have l:Zw nid (Zu h (Zk (vs.map (·.2))))=none:=by
   cases u:Zw nid (Zu h (Zk (vs.map (·.2))))with
   | none=>rfl
   | some y =>
    obtain⟨t',es',p',u',m1,_⟩:=Ye h _ nid y u;rw[o.h]at m1;cases m1
  have a1:ZR β (ZJ h (Zu h (Zk (vs.map (·.2))))) nid:=by
   refine⟨o.blk,o.hdr,?_⟩;unfold ZJ;rw[l];exact o.h
  have a3:∃cells:Array Value,(Instr.buildSlice t n (ps.map fun(i,x)=>(i,a.eval x))).run P w=.ok (.slice (some ⟨w.heap.size,0,none⟩) n n) (w.alloc (.cells cells e))/\cells.size=n*ei.size ∧
    cells.toList=(ps.toList.map fun(i,x)=>(i,a.eval x)).flatMap fun p=>p.2.cells.toList:=by
   have j:(ps.toList.map fun(i,x)=>(i,a.eval x)).length=n:=by rw[List.length_map]at k3⊢;omega
   obtain⟨out,n1,n2,n3⟩:=Z8R (size:=ei.size) (ps.toList.map fun(i,x)=>(i,a.eval x)) 0 ((Array.range (n*ei.size)).map (z.cells[· % z.cells.size]!)) (by simpa using k4) (by rw[j];simp)
   have a7:out.size=n*ei.size:=by rw[n2];simp
   have b6:out.toList=(ps.toList.map fun(i,x)=>(i,a.eval x)).flatMap fun p=>p.2.cells.toList:=by
    rw[Nat.zero_add,j,List.take_of_length_le (by rw[Array.length_toList,a7];exact Nat.le_refl _)]at n3
    simpa using n3
   by_cases h0:n*ei.size=0
   ·have b1:n=0:=by
     rcases Nat.mul_eq_zero.1 h0 with e1|e1
     ·exact e1
     ·omega
    subst b1;have a9:ps.toList=[]:=by
     have:ps.toList.length=0:=by simpa using j
     exact List.eq_nil_of_length_eq_zero this
    have b5:ps = #[]:=by simpa using a9
    subst b5;refine⟨#[],?_,by simp,by simp⟩
    simp[Instr.buildSlice,ji s,sizeOf,typeInfo,hi,Instr.fill,newRow];congr 2;apply Array.ext';simp
   ·refine⟨out,?_,a7,b6⟩;refine run_buildSlice w t e n _ out ie z s hi hz (by rw[q];omega) (by rw[q];exact h0) ?_
    rw[b4,q];exact n1
  obtain⟨cells,hr,hcs,b3⟩:=a3;have a4:n<=maxLen:=by
   have:n<=n*ei.size:=Nat.le_mul_of_pos_right n g;simp only[maxLen];omega
  have a0:(w.alloc (.cells cells e)).ownsRow w0.heap.size e (YD E e) (.slice (some ⟨w.heap.size,0,none⟩) n n) es.length cells.toList:=by
   rw[k,m];exact World.ownsRow_lit w cells n hh.below.size a4 hcs
  rw[<-b3]at k1;obtain⟨β',m1,m2,m3,m4⟩:=ZbG (nid:=nid) a8 a1 (World.grownBy_alloc w _ none) a0 (by intro b hb;cases hb;rfl) ⟨_,_,_,rfl⟩ k1 (fun c hc=>by rw[k];exact k2 c hc) (by rw[k];exact g)
  refine⟨_,_,β',G1,hr,fun d f=>by cases f;exact m2,a2.trans m1,m3.eq (Z9L l),fun i hi u=>?_⟩
  obtain⟨q1,q2,q3⟩:=m4 i hi (Z7z (β:=β) (nid:=nid) _ i hi u).1;exact⟨by rw[Z9L l];exact q1,q2,q3⟩
 ·cases f
end
end Go.Ab
namespace Go.Ab
open Go.RowKit
section
variable {P:Program} {E:Env} {w0:World} {G0:Gh} {D:DD} {o:Oper} {a:Act} {w:World} {β:Bi} {G:Gh} {h:Nat->Option Zd} {nid:Nat} {ρ:Nat->Option DV}
theorem Z9W {t:TypeId} {ti ei:TI} (ht:ZW P t ti) {len e:Nat} (l:ti.k=.array len e) (h:ZW P e ei) {x d:DV} {di:DV} {u v:Value} {i:Nat} (m:Rep β G x u) (hi:Rep β G di v) (c:Z3a len di=some i)
  (j:Z1g x (i*ei.size)=some d):∃r,(Instr.indexAt t u v).run P w=.ok r w/\Rep β G d r:=by
 have a:=ht.desc;rw[l]at a;obtain⟨k,rfl,f⟩:=Z4R c hi;obtain⟨b,rfl,hr⟩:=Z5x m j;refine⟨_,?_,hr⟩;have g:(0:Int)<=(i:Int)/\(i:Int)<(len:Int):=⟨by omega,by omega⟩
 simp[Instr.indexAt,asIntOf,ji a,Instr.sureAddr,h.run_sizeOf,g,f]
theorem Z5D {t:TypeId} {ti ei:TI} (ht:ZW P t ti) {e:Nat} (h:ti.k=.slice e) (g:ZW P e ei) {di:DV} {v:Value} {i n c:Nat} {A:Addr} (hi:Rep β G di v) (b:Z3a n di=some i) :
  (Instr.indexAt t (.slice (some A) n c) v).run P w=.ok (.pointer (some (A.add (i*ei.size)))) w:=by
 have a:=ht.desc;rw[h]at a;obtain⟨k,rfl,d⟩:=Z4R b hi;have f:(0:Int)<=(i:Int)/\(i:Int)<(n:Int):=⟨by omega,by omega⟩
 simp[Instr.indexAt,asIntOf,ji a,g.run_sizeOf,f,d]
theorem ZcL {b e:Nat}:∀{es:List (List DV)} {off i:Nat} {c:List DV},Yv β G b e off es->es[i]? = some c->Zc c=true/\Pub β G b (off+i*e) c/\c.length=e
 | [],_,i,c,_,h=>by simp at h
 | x::es,off,0,c,hp,h=>by
  simp at h;subst h;unfold Yv at hp;exact⟨hp.2.1.1,by simpa using hp.2.2.1,hp.1⟩
 | x::es,off,i+1,c,hp,h=>by
  unfold Yv at hp;obtain⟨a,f,d⟩:=ZcL (i:=i) (c:=c) hp.2.2.2 (by simpa using h)
  refine⟨a,?_,d⟩
  rwa [show off+(i+1)*e=off+e+i*e by rw[Nat.add_mul,Nat.one_mul];omega]
theorem Zcu (hE:∀t ti,E.ty t=some ti->ZW P t ti) {t:TypeId} {ti:TI} (ht:ZW P t ti) {x di d:DV} {u v:Value} 
  (c:(match ti.k,x with
   | .array len e,.agg cs=>(E.ty e).bind fun ei=>(Z3a len di).bind fun i=>YO ei cs (i*ei.size)
   | .string,.str s=>(Z3a s.size di).bind fun i=>(s[i]?).bind fun b=>some (.int .u8 b.toNat)
   | _,_=>none)=some d) (j:Rep β G x u) (hi:Rep β G di v):∃r,(Instr.index t u v).run P w=.ok r w/\Rep β G d r:=by
 have a:=ht.desc;split at c<;>rename_i m
 ·rename_i len e cs;rw[m]at a;obtain⟨ei,g,c⟩:=Z0 c;obtain⟨i,f,c⟩:=Z0 c;obtain⟨k,rfl,h⟩:=Z4R f hi;obtain⟨vs,rfl,hr⟩:=YL.1 j;obtain⟨r,n,p⟩:=Z9e (w:=w) (hE e ei g) (hE e ei g).ko hr c;have l:(0:Int)<=(i:Int)/\(i:Int)<(len:Int):=⟨by omega,by omega⟩
  exact⟨r,by simp[Instr.index,asIntOf,ji a,(hE e ei g).run_sizeOf,l,h,n],p⟩
 ·rename_i s;rw[m]at a;obtain⟨i,f,c⟩:=Z0 c;obtain⟨b,o,c⟩:=Z0 c;cases c;obtain⟨k,rfl,h⟩:=Z4R f hi;rw[Y9]at j;subst j;have l:(0:Int)<=(i:Int):=by omega
  exact⟨_,by simp[Instr.index,asIntOf,ji a,l,o],ZG.2 rfl⟩
 ·cases c
theorem Zcc (hE:∀t ti,E.ty t=some ti->ZW P t ti) {t:TypeId} {ti:TI} (ht:ZW P t ti) {f:Nat} {x d:DV} {u:Value}
  (a:(match ti.k,x with
   | .struct fs,.agg cs=>(fs[f]?).bind fun(ft,off)=>(E.ty ft).bind fun fi=>YO fi cs off
   | _,_=>none)=some d) (e:Rep β G x u):∃r,(Instr.field t u f).run P w=.ok r w/\Rep β G d r:=by
 split at a<;>rename_i l
 ·rename_i fs cs;obtain⟨⟨ft,off⟩,g,a⟩:=Z0 a;obtain⟨fi,b,a⟩:=Z0 a;obtain⟨fields,fd,c,h,j,m⟩:=Z6V ht l g;obtain⟨vs,rfl,hr⟩:=YL.1 e;obtain⟨r,i,n⟩:=Z9e (w:=w) (hE ft fi b) (hE ft fi b).ko hr a;exact⟨r,by simp[Instr.field,ji c,h,asAgg,j,m,i],n⟩
 ·cases a
def Z8q (β:Bi) (G:Gh) (d:Option DV) (v:Option Value):Prop:=d=none/\v=none\/∃d' v',d=some d'/\v=some v'/\Rep β G d' v'
theorem ZeT (e:FrM β G ρ a.tmps) {x:Option Operand} {d:Option DV} (b:Z2h ρ x=some d):Z8q β G d (x.map a.eval):=by
 cases x with
 | none=>simp only[Z2h,jh]at b;subst b;exact .inl ⟨rfl,rfl⟩
 | some x =>
  simp only[Z2h]at b;obtain⟨d',c,f⟩:=Z0 b;cases f;exact .inr ⟨d',_,rfl,rfl,Zq e c⟩
theorem Z6S {d:DV} {v:Value} {dflt y cap m:Nat} {code:BoundsCode} (a:Z2F (some d) dflt y=some m) (hr:Rep β G d v) (hc:y<=cap):(Instr.sliceBound v cap code).run P w=.ok m w/\m<=y:=by
 cases d with
 | int k i =>
  rw[ZG]at hr;subst hr;simp only[Z2F]at a;obtain⟨b,a⟩:=Z3 a;simp only[jn,jl]at b;cases a;refine⟨?_,by omega⟩
  have:(0:Int)<=i/\i<=(cap:Int):=⟨b.1,by omega⟩
  simp[Instr.sliceBound,asIntOf,this]
 | _=>cases a
theorem Z2R {isSlice:Bool} {n cap:Nat} {lo hi:Option DV} {vlo vhi:Option Value} (e:Z8q β G lo vlo) (hh:Z8q β G hi vhi) {l m:Nat}
  (c:Z2F hi n n=some m) (d:Z2F lo 0 m=some l) (hc:n<=cap):(Instr.sliceBounds isSlice n cap vlo vhi none).run P w=.ok (l,m,cap) w/\l<=m/\m<=n:=by
 rcases hh with⟨rfl,rfl⟩|⟨dh,vh,rfl,rfl,b⟩<;>rcases e with⟨rfl,rfl⟩|⟨dl,vl,rfl,rfl,a⟩
 ·cases c;cases d;exact⟨by simp[Instr.sliceBounds],by omega,Nat.le_refl _⟩
 ·cases c;obtain⟨k1,k2⟩:=Z6S (P:=P) (w:=w) (code:=.sliceB) d a (Nat.le_refl _);exact⟨by simp[Instr.sliceBounds,k1],k2,Nat.le_refl _⟩
 ·cases d;obtain⟨k1,k2⟩:=Z6S (P:=P) (w:=w) (code:=if isSlice then .sliceAcap else .sliceAlen) c b hc;exact⟨by simp[Instr.sliceBounds,k1],by omega,k2⟩
 ·obtain⟨k1,k2⟩:=Z6S (P:=P) (w:=w) (code:=if isSlice then .sliceAcap else .sliceAlen) c b hc;obtain⟨k3,k4⟩:=Z6S (P:=P) (w:=w) (code:=.sliceB) d a (Nat.le_refl _);exact⟨by simp[Instr.sliceBounds,k1,k3],k4,k2⟩
theorem Zd8 {t:TypeId} {ti ei:TI} (ht:ZW P t ti) {e:Nat} (v:ti.k=.slice e) (p:ZW P e ei) {es:List (List DV)} {u:Value} (i:∃A c,u=.slice A es.length c/\es.length<=c/\(es=[]\/∃b off,A=some ⟨b,off,none⟩/\Yv β G b ei.size off es))
  {lo hi:Option DV} {vlo vhi:Option Value} (o:Z8q β G lo vlo) (hh:Z8q β G hi vhi) {d:DV} (g:Z84 es lo hi=some d) :
  ∃r,(Instr.sliceAt t u vlo vhi none).run P w=.ok r w/\Rep β G d r:=by
 have a:=ht.desc;rw[v]at a;obtain⟨A,c,rfl,j,f⟩:=i;unfold Z84 at g;obtain⟨m,n,g⟩:=Z0 g;obtain⟨l,q,g⟩:=Z0 g;cases g;obtain⟨k1,k2,k3⟩:=Z2R (P:=P) (w:=w) (isSlice:=true) o hh n q j;have h:((es.take m).drop l).length=m-l:=by simp;omega
 refine⟨.slice (if c=l then A else A.map (·.add (l*ei.size))) (m-l) (c-l),by simp[Instr.sliceAt,Instr.slice,ji a,k1,p.run_sizeOf],Z4n.2 ?_⟩
 rw[h];refine⟨_,_,⟨rfl,by omega⟩,?_⟩
 rcases f with rfl|⟨b,off,rfl,s⟩
 ·exact .inl (by simp)
 ·by_cases hcl:c=l
  ·left;have:m=l:=by omega
   subst this;simp
  ·right;refine⟨b,off+l*ei.size,ei.size,?_,Z3O l (Z3P m s)⟩;simp[hcl,Yn]
end
end Go.Ab
namespace Go.Ab
open Go.RowKit
section
variable {P:Program} {E:Env} {w0:World} {G0:Gh} {D:DD} {o:Oper} {a:Act} {w:World} {β:Bi} {G:Gh} {h:Nat->Option Zd} {nid:Nat} {ρ:Nat->Option DV}
theorem Z7f {id:Nat} {o o':Zd} (b:h id=some o):Z2E β β h (ZJ h [(id,some o')]) nid:=fun i _ a=>by
 refine⟨?_,rfl,fun _=>rfl⟩;rw[ZU]
 by_cases e:i=id
 ·subst e;rw[a]at b;cases b
 ·rw[if_neg e];exact a
theorem Z5b (hh:HR E w0 G0 D w β G h) {id b:Nat} {o o':Zd} {ob ob':Obj} (p:h id=some o) (d:Yu β id o b) (n:w.heap[b]? = some ob) (l:∀c t f,ob≠.cells c t f)
  (a:∀x,Yu β id o' x->x=b) (m:Z2p E w0.heap.size (w.putObj b ob') β G id o'):HR E w0 G0 D (w.putObj b ob') β G (ZJ h [(id,some o')]):=by
 have j:b<w.heap.size:=(ja.1 n).1;obtain⟨k1,_,k3⟩:=hh.own id o b p d;refine hh.move (fun x=>x=b) id o' (Ext.refl β G) ?_ (fun x e _=>World.putObj_heap_other e) (fun _ _=>rfl) (by simp) ?_ ?_ ?_ m ?_ ?_ (fun _ _=>⟨rfl,fun _=>rfl⟩)
 ·exact hh.below.trans ⟨rfl,rfl,rfl,by simp,fun k r=>World.putObj_heap_other (by omega)⟩
 ·rintro x rfl;exact⟨k1,k3⟩
 ·rintro x id' o2 rfl g i;exact hh.inj id' id o2 o x g p i d
 ·rintro x rfl off v q;have:=hh.agree x off v q;unfold World.cell? at this;rw[n]at this;cases ob<;>first|cases this|exact absurd rfl (l _ _ _)
 ·intro x e;exact .inl (a x e)
 ·intro x e;rw[a x e];simpa using j
theorem Z8z (s t:ByteArray):(s==t)=decide (s=t):=by
 cases s;cases t;rename_i a b;have:((⟨a⟩:ByteArray)==⟨b⟩)=(a==b):=rfl;rw[this]
 by_cases h:a=b
 ·subst h;simp
 ·simp[h]
theorem Z1C {b:Bool} {kt:TypeId} {dd:TypeDesc} {v:Value} (c:P.underlying kt=some dd) (a:match dd with | .bool | .int _ | .string=>True|_=>False) (d:Nat):(Instr.checkKey b (d+1) kt v).run P w=.ok () w:=by
 cases dd<;>simp only at a<;>simp[Instr.checkKey,ji c]
theorem Zd3 (n:Nat) (k j:IntKind) (x y:Int):Instr.sameBits n (.int k x) (.int j y)=(k==j&&x==y):=by cases n<;>simp[Instr.sameBits]
theorem Zd4 (n:Nat) (x y:ByteArray):Instr.sameBits n (.string x) (.string y)=(x==y):=by cases n<;>simp[Instr.sameBits]
theorem Zaz (n:Nat) (x y:Bool):Instr.sameBits n (.bool x) (.bool y)=(x==y):=by cases n<;>simp[Instr.sameBits]
def scK:DV->Bool
 | .agg _=>false
 | _=>true
theorem Z3v:∀{zs xs ys:List DV} {r:Bool},Zl xs ys=some r->Zg zs xs=true->Zg zs ys=true
 | [],[],[],_,_,_=>rfl
 | [],[],y::ys,_,h,_=>by cases y<;>simp[Zl]at h
 | [],x::xs,_,_,_,hk=>by simp[Zg]at hk
 | z::zs,[],_,_,_,hk=>by cases z<;>simp[Zg]at hk
 | z::zs,x::xs,[],_,h,_=>by cases x<;>simp[Zl]at h
 | z::zs,x::xs,y::ys,r,h,hk=>by
  cases x<;>cases y<;>simp only[Zl,reduceCtorEq]at h
  ·obtain⟨q,a,_⟩:=Z0 h;cases z<;>simp only[Zg,jg]at hk⊢;exact Z3v a hk
  ·obtain⟨b,h⟩:=Z3 h;obtain⟨q,a,_⟩:=Z0 h;cases z<;>simp only[Zg,jg,jn]at hk⊢;have:=eq_of_beq b;subst this;exact⟨hk.1,Z3v a hk.2⟩
  ·obtain⟨q,a,_⟩:=Z0 h;cases z<;>simp only[Zg,jg]at hk⊢;exact Z3v a hk
theorem Z2i:∀{zs xs:List DV},Zg zs xs=true->xs.all Zeb=true
 | [],[],_=>rfl
 | [],x::xs,h=>by simp[Zg]at h
 | z::zs,[],h=>by cases z<;>simp[Zg]at h
 | z::zs,x::xs,h=>by
  cases z<;>cases x<;>simp only[Zg,jg,jn]at h
  ·simp[Zeb,Z2i h]
  ·simp[Zeb,Z2i h.2]
  ·simp[Zeb,Z2i h]
theorem Z4r (n:Nat):∀{xs ys:List DV} {vx vy:List Value},Zl xs ys=some true->Zi β G xs vx->Zi β G ys vy->vy.length=vx.length/\((vy.zip vx).all fun p=>Instr.sameBits n p.1 p.2)=true
 | [],[],vx,vy,_,hx,hy=>by rw[Zm]at hx hy;subst hx hy;exact⟨rfl,rfl⟩
 | [],y::ys,_,_,h,_,_=>by cases y<;>simp[Zl]at h
 | x::xs,[],_,_,h,_,_=>by cases x<;>simp[Zl]at h
 | x::xs,y::ys,vx,vy,h,hx,hy=>by
  obtain⟨u,vx',rfl,f,d⟩:=Zb.1 hx;obtain⟨u',vy',rfl,a,e⟩:=Zb.1 hy;cases x<;>cases y<;>simp only[Zl,reduceCtorEq]at h
  ·obtain⟨q,c,b⟩:=Z0 h;simp only[jh,jn]at b;rw[b.2]at c;obtain⟨k1,k2⟩:=Z4r n c d e;rw[ZL]at f a;subst f a;have:=eq_of_beq b.1;subst this;exact⟨by simp[k1],by simp only[List.zip_cons_cons,jt,k2,Zaz,beq_self_eq_true,ju]⟩
  ·obtain⟨i,h⟩:=Z3 h;obtain⟨q,c,b⟩:=Z0 h;simp only[jh,jn]at b;rw[b.2]at c;obtain⟨k1,k2⟩:=Z4r n c d e;rw[ZG]at f a;subst f a;have:=eq_of_beq b.1;have:=eq_of_beq i
   subst_vars
   exact⟨by simp[k1],by simp only[List.zip_cons_cons,jt,k2,Zd3,beq_self_eq_true,ju]⟩
  ·obtain⟨q,c,b⟩:=Z0 h;simp only[jh,jn]at b;rw[b.2]at c;obtain⟨k1,k2⟩:=Z4r n c d e;rw[Y9]at f a;subst f a;have g:=b.1;rw[Z8z]at g;have:=of_decide_eq_true g;subst this;refine⟨by simp[k1],?_⟩
   simp only[List.zip_cons_cons,jt,k2,Zd4,Z8z,decide_true,ju]
theorem Z7U {kt:TypeId} {ki:TI} (g:ZW P kt ki) {k k':DV} {v v':Value} {r:Bool} (e:Yp ki k=true) (c:Z6A k k'=some r) (hr:Rep β G k v) (d:Rep β G k' v') :
  ∃dd,P.underlying kt=some dd/\(scK k=true->Instr.sameNow dd v v'=some r)/\(scK k=false->Instr.sameNow dd v v'=none/\∀w,(Op.equal kt v v').run P w=.ok r w)/\(r=true->Instr.sameBits 10000 v' v=true):=by
 have a:=g.desc;cases k with
 | int kk n =>
  cases hkk:ki.k<;>rw[hkk]at a<;>simp[Yp,hkk]at e;cases k' with
  | int kk' n' =>
   rw[ZG]at hr d;subst hr d;simp only[Z6A]at c;have f:=(Z3 c).1;replace c:=(Z3 c).2;have f:kk=kk':=by simpa using f
   subst f;simp only[jh]at c;subst c;refine⟨_,a,fun _=>by simp[Instr.sameNow],fun h=>(by cases h),fun h=>?_⟩
   have:n=n':=by simpa using h
   subst this;rw[Zd3];simp
  | _=>cases c
 | str s =>
  cases hkk:ki.k<;>rw[hkk]at a<;>simp[Yp,hkk]at e;cases k' with
  | str s' =>
   rw[Y9]at hr d;subst hr d;simp only[Z6A,jh]at c;subst c;refine⟨_,a,fun _=>by simp[Instr.sameNow],fun h=>(by cases h),fun h=>?_⟩
   rw[Z8z]at h;have:s=s':=by simpa using h
   subst this;rw[Zd4,Z8z];simp
  | _=>cases c
 | bool b =>
  cases hkk:ki.k<;>rw[hkk]at a<;>simp[Yp,hkk]at e;cases k' with
  | bool b' =>
   rw[ZL]at hr d;subst hr d;simp only[Z6A,jh]at c;subst c;refine⟨_,a,fun _=>by simp[Instr.sameNow],fun h=>(by cases h),fun h=>?_⟩
   have:b=b':=by simpa using h
   subst this;rw[Zaz];simp
  | _=>cases c
 | agg cs =>
  cases hkk:ki.k<;>rw[hkk]at a<;>simp[Yp,hkk]at e;cases k' with
  | agg cs' =>
   obtain⟨vx,rfl,i⟩:=YL.1 hr;obtain⟨vy,rfl,hy⟩:=YL.1 d;simp only[Z6A]at c;obtain⟨fields,j,_⟩:=a;refine⟨_,j,fun h=>(by cases h),fun _=>⟨rfl,fun w=>(g.eqr e.1.1).1 cs cs' r c e.2 (Z3v c e.2) β G vx vy w i hy⟩,fun h=>?_⟩
   subst h;obtain⟨k1,k2⟩:=Z4r (β:=β) (G:=G) 9999 c i hy;show(vy.toArray.size==vx.toArray.size&&(vy.toArray.toList.zip vx.toArray.toList).all fun(x,y)=>Instr.sameBits 9999 x y)=true;simp only[List.size_toArray,k1,beq_self_eq_true,Bool.true_and];exact k2
  | _=>cases c
 | _=>cases hkk:ki.k<;>simp[Yp,hkk]at e
theorem Zcw {kt:TypeId} {ki:TI} (d:ZW P kt ki) {k:DV} {v:Value} (c:Yp ki k=true) (hr:Rep β G k v):∃dd,P.underlying kt=some dd/\(∀b w,(Instr.checkKey b 10000 kt v).run P w=.ok () w)/\(scK k=false->∃fs,dd=.struct fs):=by
 have a:=d.desc;cases hkk:ki.k<;>rw[hkk]at a<;>cases k<;>simp[Yp,hkk]at c
 ·rw[ZL]at hr;subst hr;exact⟨_,a,fun b w=>Z1C a trivial 9999,fun h=>by cases h⟩
 ·rw[ZG]at hr;subst hr;exact⟨_,a,fun b w=>Z1C a trivial 9999,fun h=>by cases h⟩
 ·rw[Y9]at hr;subst hr;exact⟨_,a,fun b w=>Z1C a trivial 9999,fun h=>by cases h⟩
 ·obtain⟨vx,rfl,f⟩:=YL.1 hr;obtain⟨fields,e,_⟩:=a;exact⟨_,e,fun b w=>d.key c.1.2 _ c.2 b β G vx w f,fun _=>⟨_,rfl⟩⟩
theorem ZeE {ki:TI} {k:DV} (a:Yp ki k=true):keyOk k=true:=by
 cases hkk:ki.k<;>cases k<;>simp[Yp,hkk]at a<;>first|rfl|skip
 exact Z2i a.2
def FN (P:Program) (kt:TypeId) (dd:TypeDesc) (sc:Bool) (v:Value) (ms:List MapEntry) (i:Nat) (r:Option (Nat×Value)):Prop :=
 (sc=true->Instr.findNow dd v ms i=some r)/\(sc=false->(∀w,(Instr.findAsking kt v ms i).run P w=.ok r w)/\(Instr.findNow dd v ms i=none\/(ms=[]/\r=none)))
theorem FN.run {kt:TypeId} {dd:TypeDesc} {sc:Bool} {v:Value} {ms:List MapEntry} {r:Option (Nat×Value)} (h:FN P kt dd sc v ms 0 r) (b:P.underlying kt=some dd) (w:World):(Instr.findKey kt v ms).run P w=.ok r w:=by
 cases sc with
 | true=>simp[Instr.findKey,ji b,h.1 rfl]
 | false =>
  obtain⟨c,a⟩:=h.2 rfl;rcases a with a|⟨rfl,rfl⟩
  ·simp[Instr.findKey,ji b,a,c]
  ·simp[Instr.findKey,ji b,Instr.findNow]
theorem FN.nil {kt:TypeId} {dd:TypeDesc} {sc:Bool} {v:Value} {i:Nat}:FN P kt dd sc v [] i none :=
 ⟨fun _=>rfl,fun _=>⟨fun w=>rfl,.inr ⟨rfl,rfl⟩⟩⟩
theorem FN.hit {kt:TypeId} {dd:TypeDesc} {sc:Bool} {v:Value} {m:MapEntry} {ms:List MapEntry} {i:Nat} (b:sc=true->Instr.sameNow dd v m.key=some true) (a:sc=false->Instr.sameNow dd v m.key=none/\∀w,(Op.equal kt v m.key).run P w=.ok true w):FN P kt dd sc v (m::ms) i (some (i,m.val)) :=
 ⟨fun h=>by simp[Instr.findNow,b h],fun h=>⟨fun w=>by simp[Instr.findAsking,(a h).2],.inl (by simp[Instr.findNow,(a h).1])⟩⟩
theorem FN.miss {kt:TypeId} {dd:TypeDesc} {sc:Bool} {v:Value} {m:MapEntry} {ms:List MapEntry} {i:Nat} {r:Option (Nat×Value)} (c:sc=true->Instr.sameNow dd v m.key=some false) (b:sc=false->Instr.sameNow dd v m.key=none/\∀w,(Op.equal kt v m.key).run P w=.ok false w) (h:FN P kt dd sc v ms (i+1) r):FN P kt dd sc v (m::ms) i r :=
 ⟨fun a=>by simp[Instr.findNow,c a,h.1 a],fun a=>⟨fun w=>by simp[Instr.findAsking,(b a).2,(h.2 a).1],.inl (by simp[Instr.findNow,(b a).1])⟩⟩
theorem Z8T {kt:TypeId} {ki:TI} (n:ZW P kt ki) {k:DV} {v:Value} (l:Yp ki k=true) (hr:Rep β G k v) {dd:TypeDesc} (e:P.underlying kt=some dd) :
  ∀{es:List (DV×DV)} {ms:List MapEntry} {r:Option DV} (i:Nat),Z70 β G es ms->Z2V k es=some r →
  ∃r',FN P kt dd (scK k) v ms i r'/\((r=none/\r'=none)\/∃d j u,r=some d/\r'=some (i+j,u)/\Rep β G d u)
 | [],ms,r,i,hm,a=>by
  simp only[Z70]at hm;subst hm;simp only[Z2V,jh]at a;subst a;exact⟨none,FN.nil,.inl ⟨rfl,rfl⟩⟩
 | (k',d')::es,ms,r,i,⟨m,ms',hms,h2,h3,h4,h5,h6⟩,a=>by
  subst hms;simp only[Z2V]at a;obtain⟨b,p,a⟩:=Z0 a;obtain⟨dd',g,o,h,_⟩:=Z7U n l p hr h2;rw[e]at g;cases g;cases b with
  | true =>
   cases a;exact⟨_,FN.hit o h,.inr ⟨d',0,m.val,rfl,rfl,h3⟩⟩
  | false =>
   obtain⟨r',f,c⟩:=Z8T n l hr e (i+1) h6 a;refine⟨r',FN.miss o h f,?_⟩;rcases c with c|⟨d,j,u,e1,e2,e3⟩
   ·exact .inl c
   ·exact .inr ⟨d,j+1,u,e1,by rw[e2];congr 2;omega,e3⟩
theorem Zbf (hE:∀t ti,E.ty t=some ti->ZW P t ti) (hh:HR E w0 G0 D w β G h) {t kt e:TypeId} {ti ei ki:TI} (hti:ZW P t ti) (y:ti.k=.map kt e) (x:ZW P e ei) (s:ZW P kt ki)
  {m k:DV} {um uk:Value} (hk:Rep β G k uk) (hf:Yp ki k=true) {es:List (DV×DV)}
  (f:(match m with | .nilmap=>some [] | .map id=>(h id).bind (fun | .map es=>some es|_=>none)|_=>none)=some es) {r:Option DV} (hr:Z2V k es=some r) {z:DV} (hz:ei.zero=[z]) (hsz:ei.size=1) (hna:ei.isAgg=false)
  (ok:Bool) (hm:Rep β G m um):∃v,(Instr.lookup t um uk ok).run P w=.ok v w/\Rep β G (match r with|some d=>(bif ok then .tup [d,.bool true]else d)|none=>(bif ok then .tup [z,.bool false]else z)) v:=by
 have c:=hti.desc;rw[y]at c;obtain⟨dd,p,o,_⟩:=Zcw (β:=β) (G:=G) s hf hk;obtain⟨i,zv,hi,_,_,q,_⟩:=x.info;have g:Rep β G z zv:=x.zr hna z hz i zv hi q β G;have l:(zeroValue e).run P w=.ok zv w:=by simp[zeroValue,typeInfo,hi,q]
 have fin:∀{r':Option (Nat×Value)},((r=none/\r'=none)\/∃d j u,r=some d/\r'=some (0+j,u)/\Rep β G d u) →
   Rep β G (match r with|some d=>(bif ok then .tup [d,.bool true]else d)|none=>(bif ok then .tup [z,.bool false]else z))
    (match r' with|some (_,v)=>(if ok then Value.tuple #[v,.bool true]else v)|none=>(if ok then Value.tuple #[zv,.bool false]else zv)):=by
  rintro r' (⟨rfl,rfl⟩|⟨d,j,u,rfl,rfl,e3⟩)
  ·cases ok
   ·exact g
   ·exact YM.2 ⟨[zv,.bool false],rfl,Zb.2 ⟨_,_,rfl,g,Zb.2 ⟨_,_,rfl,ZL.2 rfl,Zm.2 rfl⟩⟩⟩
  ·cases ok
   ·exact e3
   ·exact YM.2 ⟨[u,.bool true],rfl,Zb.2 ⟨_,_,rfl,e3,Zb.2 ⟨_,_,rfl,ZL.2 rfl,Zm.2 rfl⟩⟩⟩
 cases m with
 | nilmap =>
  cases f;rw[Z6b]at hm;subst hm;cases hr;have a:(Instr.findKey kt uk ([]:List MapEntry)).run P w=.ok none w:=by simp[Instr.findKey,ji p,Instr.findNow]
  refine⟨_,?_,fin (r':=none) (.inl ⟨rfl,rfl⟩)⟩;simp[Instr.lookup,ji c,o,a,l]
 | map id =>
  obtain⟨ob,ho,f⟩:=Z0 f;cases ob with
  | map es' =>
   cases f;obtain⟨b,hb,rfl⟩:=Z8m.1 hm;obtain⟨b',ms,clock,h1,h2,h3⟩:=hh.obj id _ ho;rw[hb]at h1;cases h1;have n:(getObj b).run P w=.ok (.map ms clock) w:=by simp[getObj,Sem.run,h2]
   obtain⟨r',h4,h5⟩:=Z8T s hf hk p 0 h3 hr;have a:(Instr.findKey kt uk ms.toList).run P w=.ok r' w:=h4.run p w;refine⟨_,?_,fin h5⟩;cases r' with
   | none=>simp[Instr.lookup,ji c,n,o,a,l]
   | some jx=>simp[Instr.lookup,ji c,n,o,a]
  | _=>cases f
 | _=>cases f
theorem Zar {kt:TypeId} {ki:TI} (w:ZW P kt ki) {k d:DV} {v u:Value} (o:Yp ki k=true) (hr:Rep β G k v) (s:Rep β G d u) (g:Zh d=true) {dd:TypeDesc} (l:P.underlying kt=some dd) :
  ∀{es es':List (DV×DV)} {ms:List MapEntry} (i clock:Nat),Z70 β G es ms->Z4V k d es=some es' →
  ∃r',FN P kt dd (scK k) v ms i r'/\(∀j x,r'=some (j,x)->i<=j/\∃m,ms[j-i]? = some m/\Instr.sameBits 10000 m.key v=true) ∧
   Z70 β G es' (match r' with|some (j,_)=>ms.modify (j-i) (fun e=>{ e with key:=v,val:=u })|none=>ms++[{ key:=v,val:=u,born:=clock }])
 | [],es',ms,i,clock,hm,a=>by
  simp only[Z70]at hm;subst hm;simp only[Z4V,jh]at a;subst a;have c:keyOk k=true:=ZeE o;exact⟨none,FN.nil,by simp,⟨_,[],rfl,hr,s,c,g,rfl⟩⟩
 | (k',d')::es,es',ms,i,clock,⟨m,ms',hms,h2,h3,h4,h5,h6⟩,a=>by
  subst hms;simp only[Z4V]at a;obtain⟨b,z,a⟩:=Z0 a;obtain⟨dd',t,y,h,h9⟩:=Z7U w o z hr h2;rw[l]at t;cases t;have c:keyOk k=true:=ZeE o;cases b with
  | true =>
   cases a;refine⟨some (i,m.val),FN.hit y h,fun j x q=>?_,?_⟩
   ·cases q;exact⟨Nat.le_refl _,m,by simp,h9 rfl⟩
   ·simp only[Nat.sub_self,List.modify_zero_cons];exact⟨_,ms',rfl,hr,s,c,g,h6⟩
  | false =>
   obtain⟨es2,r,a⟩:=Z0 a;cases a;obtain⟨r',p,n,f⟩:=Zar w o hr s g l (i+1) clock h6 r;refine⟨r',FN.miss y h p,fun j x q=>?_,?_⟩
   ·obtain⟨k1,m1,k2,k3⟩:=n j x q;exact⟨by omega,m1,by rw[show j-i=(j-(i+1))+1 by omega];simpa using k2,k3⟩
   ·cases r' with
    | none=>exact⟨m,_,rfl,h2,h3,h4,h5,f⟩
    | some jx =>
     obtain⟨j,x⟩:=jx;obtain⟨k1,_⟩:=n j x rfl;simp only at f⊢;rw[show j-i=(j-(i+1))+1 by omega,List.modify_succ_cons]
     exact⟨m,_,rfl,h2,h3,h4,h5,f⟩
theorem Z8a (hh:HR E w0 G0 D w β G h) {t kt e:TypeId} {ti ki:TI} (s:ZW P t ti) (q:ti.k=.map kt e) (n:ZW P kt ki)
  {id:Nat} {k d:DV} {um uk u:Value} (hm:Rep β G (.map id) um) (hk:Rep β G k uk) (hu:Rep β G d u) (r:Zh d=true) (y:Yp ki k=true) {es es':List (DV×DV)}
  (m:h id=some (.map es)) (hp:Z4V k d es=some es') :
  ∃w',(Instr.mapUpdate t um uk u).run P w=.ok () w'/\HR E w0 G0 D w' β G (ZJ h [(id,some (.map es'))])/\Z2E β β h (ZJ h [(id,some (.map es'))]) nid:=by
 have a:=s.desc;rw[q]at a;obtain⟨dd,o,p,_⟩:=Zcw (β:=β) (G:=G) n y hk;obtain⟨b,f,rfl⟩:=Z8m.1 hm;obtain⟨b',ms,clock,h1,l,h3⟩:=hh.obj id _ m;rw[f]at h1;cases h1;obtain⟨r',h4,h5,z⟩:=Zar n y hk hu r o 0 clock h3 hp;have c:(Instr.findKey kt uk ms.toList).run P w=.ok r' w:=h4.run o w;have i:(getObj b).run P w=.ok (.map ms clock) w:=by simp[getObj,Sem.run,l]
 have g:∀ob,(setObj b ob).run P w=.ok () (w.putObj b ob):=fun ob=>by simp[setObj,Sem.run,l,World.putObj]
 cases r' with
 | none =>
  refine⟨w.putObj b (.map (ms.push { key:=uk,val:=u,born:=clock }) (clock+1)),by simp[Instr.mapUpdate,ji a,i,p,c,g],?_,Z7f m⟩
  refine Z5b hh m f l (by intros;simp) (fun x v=>by rw[show β.blk id=some x from v]at f;cases f;rfl) ?_
  exact⟨b,_,_,f,World.putObj_heap_same (ja.1 l).1,by simpa using z⟩
 | some jx =>
  obtain⟨j,x⟩:=jx;obtain⟨_,m1,k2,k3⟩:=h5 j x rfl;have k2':ms[j]? = some m1:=by simpa using k2
  refine⟨w.putObj b (.map (ms.modify j fun e=>{ e with key:=uk,val:=u }) clock),by simp[Instr.mapUpdate,ji a,i,p,c,g,Instr.keyThatStays,k2',k3],?_,Z7f m⟩
  refine Z5b hh m f l (by intros;simp) (fun x v=>by rw[show β.blk id=some x from v]at f;cases f;rfl) ?_
  exact⟨b,_,_,f,World.putObj_heap_same (ja.1 l).1,by simpa using z⟩
end
end Go.Ab
namespace Go.Ab
open Go.RowKit
section
variable {P:Program} {E:Env} {w0:World} {G0:Gh} {D:DD} {o:Oper} {a:Act} {w:World} {β:Bi} {G:Gh} {h:Nat->Option Zd} {nid:Nat} {ρ:Nat->Option DV}
theorem Z7t {t:TypeId} {d:DV} {v:Value}:Rep β G (.iface t d) v↔∃u,v=.iface t u/\Rep β G d u:=by conv=>lhs;unfold Rep
theorem Z5r {v:Value}:Rep β G .nilif v↔v=.nilIface:=by conv=>lhs;unfold Rep
theorem ZbR {t:TypeId} {ti:TI} (ht:ZW P t ti) {z:DV} (hz:Z1e ti=some z):∃zv,(zeroValue t).run P w=.ok zv w/\Rep β G z zv:=by
 obtain⟨i,zv,hi,_,_,b,g,a⟩:=ht.info;refine⟨zv,by simp[zeroValue,typeInfo,hi,b],?_⟩
 unfold Z1e at hz;cases ha:ti.isAgg with
 | true =>
  rw[ha]at hz;simp only[jB,jh]at hz;subst hz;obtain⟨cs,rfl⟩:=ht.za ha i zv hi b;have:=a β G;exact YL.2 ⟨cs.toList,by simp,by simpa[Value.cells]using this⟩
 | false =>
  rw[ha]at hz;simp only[jA]at hz;cases hzz:ti.zero with
  | nil=>rw[hzz]at hz;cases hz
  | cons d ds =>
   rw[hzz]at hz;simp only[List.head?_cons,jh]at hz;subst hz;cases ds with
   | nil=>exact ht.zr ha d hzz i zv hi b β G
   | cons e es =>
    exfalso;have c:=ZP (a β G);rw[hzz]at c;have f:∀cs,zv≠.agg cs:=fun cs hc=>by
     subst hc;have:=ht.zn ha;rw[hzz]at this;simp at this
    have:zv.cells = #[zv]:=by
     cases zv<;>first|rfl|exact absurd rfl (f _)
    rw[this]at c;simp at c
theorem ZaK {t:TypeId} {ti:TI} (ht:ZW P t ti) (g:ti.k≠.iface):∃d,P.underlying t=some d/\∀ms,d≠.interface ms:=by
 have e:=ht.desc;cases hkk:ti.k<;>rw[hkk]at e<;>simp only at e
 all_goals first
  | exact⟨_,e,fun _ h=>by cases h⟩
  | (obtain⟨f,e,_⟩:=e;exact⟨_,e,fun _ h=>by cases h⟩)
  | (obtain⟨a,b,c,e⟩:=e;exact⟨_,e,fun _ h=>by cases h⟩)
  | (exact absurd hkk g)
theorem Z88 {t:TypeId} {ti:TI} (ht:ZW P t ti) (c:ti.k≠.iface) {d:DV} {v:Value} (hr:Rep β G d v):(Instr.makeInterface t v).run P w=.ok (.iface t v) w/\Rep β G (.iface t d) (.iface t v):=by
 obtain⟨dd,b,a⟩:=ZaK ht c;refine⟨?_,Z7t.2 ⟨v,rfl,hr⟩⟩;unfold Instr.makeInterface;rw[jy,ji b w];cases dd<;>first|rfl|exact absurd rfl (a _)
theorem Z7F {t xt:TypeId} {ti:TI} (ht:ZW P t ti) (j:ti.k≠.iface) {x d:DV} {v:Value} {ok:Bool}
  (a:(match x with
   | .nilif=>bif ok then(Z1e ti).bind fun z=>some (.tup [z,.bool false])else none
   | .iface t' v=>bif Nat.beq t' t then some (bif ok then .tup [v,.bool true]else v)else bif ok then(Z1e ti).bind fun z=>some (.tup [z,.bool false])else none
   | _=>none:Option DV)=some d) (hr:Rep β G x v):∃r,(Instr.typeAssert v xt t ok).run P w=.ok r w/\Rep β G d r:=by
 obtain⟨dd,h,g⟩:=ZaK ht j;have fail:∀{z:DV},Z1e ti=some z->∃zv,(zeroValue t).run P w=.ok zv w/\Rep β G (.tup [z,.bool false]) (.tuple #[zv,.bool false]):=fun hz=>by
  obtain⟨zv,b,c⟩:=ZbR (P:=P) (w:=w) (β:=β) (G:=G) ht hz;exact⟨zv,b,YM.2 ⟨[zv,.bool false],rfl,Zb.2 ⟨_,_,rfl,c,Zb.2 ⟨_,_,rfl,ZL.2 rfl,Zm.2 rfl⟩⟩⟩⟩
 cases x with
 | nilif =>
  rw[Z5r]at hr;subst hr;cases ok with
  | false=>cases a
  | true =>
   obtain⟨z,hz,a⟩:=Z0 a;cases a;obtain⟨zv,b,c⟩:=fail hz;refine⟨_,?_,c⟩;unfold Instr.typeAssert;rw[jy,ji h w];cases dd<;>first|(simp[Result.andThen,b];done)|exact absurd rfl (g _)
 | iface t' d' =>
  obtain⟨u,rfl,f⟩:=Z7t.1 hr;simp only at a;cases hq:Nat.beq t' t with
  | true =>
   have:t'=t:=jf hq;subst this;rw[hq]at a;simp only[jB,jh]at a;subst a;cases ok with
   | true =>
    refine⟨.tuple #[u,.bool true],?_,YM.2 ⟨[u,.bool true],rfl,Zb.2 ⟨_,_,rfl,f,Zb.2 ⟨_,_,rfl,ZL.2 rfl,Zm.2 rfl⟩⟩⟩⟩;unfold Instr.typeAssert;rw[jy,ji h w];cases dd<;>first|(simp[Result.andThen];done)|exact absurd rfl (g _)
   | false =>
    refine⟨u,?_,f⟩;unfold Instr.typeAssert;rw[jy,ji h w];cases dd<;>first|(simp[Result.andThen];done)|exact absurd rfl (g _)
  | false =>
   have i:t'≠t:=fun e=>by subst e;rw[Nat.beq_refl]at hq;cases hq
   rw[hq]at a;simp only[jA]at a;cases ok with
   | false=>cases a
   | true =>
    obtain⟨z,hz,a⟩:=Z0 a;cases a;obtain⟨zv,b,c⟩:=fail hz;refine⟨_,?_,c⟩;unfold Instr.typeAssert;rw[jy,ji h w];cases dd<;>first|(simp[Result.andThen,b,i];done)|exact absurd rfl (g _)
 | _=>cases a
theorem Z9Q (z:Array Value) (e:Nat) (a:z.size=e) (b:0<e):∀k,((Array.range (k*e)).map (z[· % z.size]!)).toList=(List.replicate k z.toList).flatten
 | 0=>by simp
 | k+1=>by
  have ih:=Z9Q z e a b k;simp only[Array.toList_map,Array.toList_range]at ih⊢;rw[List.replicate_succ,List.flatten_cons,<-ih,show(k+1)*e=e+k*e by rw[Nat.add_mul,Nat.one_mul,Nat.add_comm],List.range_add,List.map_append,List.map_map]
  congr 1
  ·apply List.ext_getElem
   ·simp[a]
   ·intro i c d;simp only[List.length_map,List.length_range]at c;simp only[List.getElem_map,List.getElem_range,Array.getElem_toList];rw[a,Nat.mod_eq_of_lt c];simp[a,c]
  ·apply List.map_congr_left;intro i _;simp only[Function.comp_def];rw[a,Nat.add_mod_left]
theorem ZcR {zs:List DV} {vs:List Value} (h:Zi β G zs vs):∀k,Zi β G (List.replicate k zs).flatten (List.replicate k vs).flatten
 | 0=>by simp[Zm]
 | k+1=>by
  rw[List.replicate_succ,List.replicate_succ,List.flatten_cons,List.flatten_cons];exact Y8.2 ⟨_,_,rfl,h,ZcR h k⟩
theorem Z89 (hE:∀t ti,E.ty t=some ti->ZW P t ti) (hh:HR E w0 G0 D w β G h) (a0:ZR β h nid) {t e:TypeId} {ti ei:TI} (ht:ZW P t ti) (hk:ti.k=.slice e) (q:E.ty e=some ei) {k1 k2:IntKind} {n:Int}
  (h0:0<=n) (u:n.toNat*(ei.bytes+1)<=200000000000000) (g:0<ei.size) (a2:Zc ei.zero=true) :
  ∃v w' β',(Instr.makeSlice t (.int k1 n) (.int k2 n)).run P w=.ok v w'/\Rep β' G (.rs nid 0) v/\Ext β G β' G/\HR E w0 G0 D w' β' G (ZJ h [(nid,some (.row e (List.replicate n.toNat ei.zero) 0 0))])/\Z2E β β' h (ZJ h [(nid,some (.row e (List.replicate n.toNat ei.zero) 0 0))]) nid:=by
 have p:=ht.desc;rw[hk]at p;have he:=hE e ei q;have a:=Z6q q;obtain⟨ie,z,hi,hs,a1,hz,s,f⟩:=he.info;obtain⟨m,rfl⟩:∃m:Nat,n=(m:Int):=⟨n.toNat,by omega⟩
 simp only[Int.toNat_natCast]at u⊢;have hm1:m<=200000000000000:=by
  have:=Nat.le_mul_of_pos_right m (show 0<ei.bytes+1 by omega)
  omega
 have hm2:ei.bytes*m<=200000000000000:=by
  have h1:=Nat.mul_le_mul_left m (show ei.bytes<=ei.bytes+1 by omega)
  rw[Nat.mul_comm]at h1;omega
 have j:m<=maxLen:=by simp only[maxLen];omega
 obtain⟨w',o,l,y⟩:=run_make_full (P:=P) w w0.heap.size t e ie z ei.size p hi hz hs k1 k2 m (by rw[a1];omega) j hh.below.size
 have d:(madeCells z.cells (m*ei.size)).toList=(List.replicate m z.cells.toList).flatten:=Z9Q z.cells ei.size s g m;have r:Zi β G (List.replicate m ei.zero).flatten (madeCells z.cells (m*ei.size)).toList:=by
  rw[d];exact ZcR (f β G) m
 have i:w'.ownsRow w0.heap.size e (YD E e) (.slice (some ⟨w.heap.size,0,none⟩) m m) (List.replicate m ei.zero).length (madeCells z.cells (m*ei.size)).toList:=by
  rw[a,List.length_replicate];exact l
 have x:ei.zero.length=ei.size:=by have:=ZP (f β G);simp at this;omega
 obtain⟨β',m1,m2,m3,m4⟩:=ZbG (nid:=nid) hh a0 y i (by intro b u;cases u;rfl) ⟨_,_,_,rfl⟩ r (fun c hc=>by
  rw[List.mem_replicate]at hc;rw[a,hc.2];exact⟨x,a2,he.zc⟩) (by rw[a];exact g)
 exact⟨_,_,β',o,m2,m1,m3,m4⟩
theorem Z6F {β':Bi} {G':Gh} (e:Ext β G β' G') {d:Option DV} {v:Option Value} (h:Z8q β G d v):Z8q β' G' d v:=by
 rcases h with h|⟨dd,vv,a,b,c⟩
 ·exact .inl h
 ·exact .inr ⟨dd,vv,a,b,Rep.mono e _ _ c⟩
theorem Z5T (e:Nat):∀(n:Nat) (cs:List DV),(Z20 e n cs).length=n
 | 0,_=>rfl
 | n+1,cs=>by simp[Z20,Z5T e n]
theorem Z8E {g e:Nat} (p:∀o:Nat,True):∀(n:Nat) (cs:List DV) (off:Nat),n*e<=cs.length->Zc (cs.take (n*e))=true->cs.all ZH=true->Pub β G g off cs->Yv β G g e off (Z20 e n cs)
 | 0,_,_,_,_,_,_=>by simp[Z20,Yv]
 | n+1,cs,off,hl,hf,hc,b=>by
  have l:(n+1)*e=e+n*e:=by rw[Nat.add_mul,Nat.one_mul,Nat.add_comm]
  rw[l]at hl hf;unfold Z20 Yv;have m:(cs.take e).length=e:=by simp;omega
  have h:Zc (cs.take e)=true:=Z1b.2 fun c hc=>(Z1b.1 hf) c (by
   rw[List.take_add];exact List.mem_append.2 (.inl hc))
  have d:Zc ((cs.drop e).take (n*e))=true:=Z1b.2 fun c hc=>(Z1b.1 hf) c (by
   rw[List.take_add];exact List.mem_append.2 (.inr hc))
  have f:(cs.take e).all ZH=true:=List.all_eq_true.2 fun c a=>List.all_eq_true.1 hc c (List.mem_of_mem_take a);have j:(cs.drop e).all ZH=true:=List.all_eq_true.2 fun c a=>List.all_eq_true.1 hc c (List.mem_of_mem_drop a);have i:∀(k:Nat) (cs:List DV) (off:Nat),Pub β G g off cs->Pub β G g off (cs.take k):=by
   intro k
   induction k with
   | zero=>intro cs off _;simp[Pub]
   | succ k ih =>
    intro cs off b;cases cs with
    | nil=>simp[Pub]
    | cons c cs=>unfold Pub at b;simp only[List.take_succ_cons];unfold Pub;exact⟨b.1,ih cs (off+1) b.2⟩
  exact⟨m,⟨h,f⟩,i e cs off b,Z8E p n (cs.drop e) (off+e) (by simp;omega) d j (Z6H e b)⟩
theorem Z9D (hE:∀t ti,E.ty t=some ti->ZW P t ti) (hh:HR E w0 G0 D w β G h) {t e:TypeId} {ti ei:TI} (ht:ZW P t ti) {n:Nat} (hk:ti.k=.array n e) (hei:E.ty e=some ei) {id off:Nat} {u:Value} (hr:Rep β G (.ptr id off) u)
  {ct:TypeId} {cs:List DV} (ho:h id=some (.cells ct cs)) (hle:off+n*ei.size<=cs.length) (hpos:0<ei.size) (hf:Zc ((cs.drop off).take (n*ei.size))=true)
  {lo hi:Option DV} {vlo vhi:Option Value} (hl:Z8q β G lo vlo) (hhi:Z8q β G hi vhi) {d:DV} (p:Z84 (Z20 ei.size n (cs.drop off)) lo hi=some d) :
  ∃r G',(Instr.sliceAt t u vlo vhi none).run P w=.ok r w/\Rep β G' d r/\Ext β G β G'/\HR E w0 G0 D w β G' (ZJ h [(id,none)]):=by
 have a1:=ht.desc;rw[hk]at a1;have he:=hE e ei hei;obtain⟨b,hb,rfl⟩:=Z1x.1 hr;obtain⟨b',vs,h1,h2,h3,h4,h5⟩:=hh.obj id _ ho;rw[hb]at h1;cases h1;have g:Yu β id (.cells ct cs) b:=hb;obtain⟨hb0,hb1,hb2⟩:=hh.own id _ b ho g;have y:∀j v,vs.toList[j]? = some v->w.cell? ⟨b,j,none⟩=some v:=fun j v hj=>by
  unfold World.cell?;simp only[h2];simpa using hj
 have hx:Ext β G β (Z2x G b vs.toList):=⟨fun b' o v f=>by
  unfold Z2x
  by_cases e:b'=b
  ·subst e;rw[h5 o]at f;cases f
  ·rw[if_neg e];exact f,fun _ _ h=>h,fun _ _ _ h=>h⟩
 have a0:Pub β (Z2x G b vs.toList) b 0 cs:=Z52 (Zi.mono hx _ _ h3) (fun j v hj=>by
  have hjl:j<vs.toList.length:=(jc.1 hj).1;unfold Z2x;rw[if_pos rfl,Nat.zero_add,if_pos hjl];exact hj)
 have z:Yv β (Z2x G b vs.toList) b ei.size off (Z20 ei.size n (cs.drop off)):=by
  refine Z8E (fun _=>trivial) n (cs.drop off) off (by simp;omega) hf (List.all_eq_true.2 fun c hcc=>List.all_eq_true.1 h4 c (List.mem_of_mem_drop hcc)) ?_
  have:=Z6H off a0
  rwa [Nat.zero_add]at this
 unfold Z84 at p;obtain⟨m,k1,p⟩:=Z0 p;obtain⟨l,k2,p⟩:=Z0 p;cases p;rw[Z5T]at k1;obtain⟨q1,q2,q3⟩:=Z2R (P:=P) (w:=w) (isSlice:=false) (Z6F hx hl) (Z6F hx hhi) k1 k2 (Nat.le_refl _);have a2:(((Z20 ei.size n (cs.drop off)).take m).drop l).length=m-l:=by simp[Z5T];omega
 refine⟨.slice (some (if n=l then⟨b,off,none⟩else(⟨b,off,none⟩:Addr).add (l*ei.size))) (m-l) (n-l),Z2x G b vs.toList,?_,Z4n.2 ?_,hx,?_⟩
 ·simp[Instr.sliceAt,ji a1,Instr.sureAddr,q1,he.run_sizeOf]
 ·rw[a2];refine⟨_,_,⟨rfl,by omega⟩,?_⟩
  by_cases hcl:n=l
  ·left;have:m=l:=by omega
   subst this;simp
  ·right;refine⟨b,off+l*ei.size,ei.size,?_,Z3O l (Z3P m z)⟩;simp[hcl,Yn]
 ·
  have a:HR E w0 G0 D w β G (ZJ h [(id,none)]):=hh.less fun i x hi=>by
   rw[ZU]at hi
   by_cases ei:i=id
   ·rw[if_pos ei]at hi;cases hi
   ·rw[if_neg ei]at hi;exact hi
  have hne:∀i x b',ZJ h [(id,none)] i=some x->Yu β i x b'->b'≠b:=fun i x b' hi s e=>by
   subst e;rw[ZU]at hi
   by_cases ei:i=id
   ·rw[if_pos ei]at hi;cases hi
   ·rw[if_neg ei]at hi;exact ei (hh.inj i id x _ b' hi ho s g)
  refine⟨a.below,fun b' q=>?_,fun b' o v f=>?_,fun i x hi=>?_,a.own,a.inj,fun d x p=>?_,hh.inv0⟩
  ·rw[<-a.g0 b' q];funext o;unfold Z2x;rw[if_neg (by omega)]
  ·unfold Z2x at f
   by_cases e:b'=b
   ·subst e;rw[if_pos rfl]at f
    by_cases q:o<vs.toList.length
    ·rw[if_pos q]at f;exact y o v f
    ·rw[if_neg q]at f;exact hh.agree _ _ _ f
   ·rw[if_neg e]at f;exact hh.agree _ _ _ f
  ·refine Z2p.keep hx (fun _=>rfl) (fun b' s=>⟨rfl,fun o=>?_⟩) (a.obj i x hi);unfold Z2x;rw[if_neg (hne i x b' hi s)]
  ·obtain⟨q1,q2,q3⟩:=a.marks d x p;refine⟨q1,q2,fun o=>?_⟩;unfold Z2x;rw[if_neg (fun e=>by rw[e,(hh.own id _ b ho g).2.2]at p;cases p)]
   exact q3 o
end
end Go.Ab
