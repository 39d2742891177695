/- The same on typed values. -/
import Derived.Test.YtfiegoekphpjlaaGreatDoorA1
import Derived.Test.YtfiegoekphpjlaaGreatDoorA2
set_option linter.unusedSectionVars false
set_option linter.unusedVariables false
set_option linter.unusedSimpArgs false
namespace Go.Ab
inductive Ty where
 | bool
 | int (k:IntKind)
 | str
 | sl (t:Ty)
 | arr (n:Nat) (t:Ty)
 | st (i:Nat)
 deriving DecidableEq,Inhabited
def Val (S:Nat->Type):Ty->Type
 | .bool=>Bool
 | .int _=>Int
 | .str=>ByteArray
 | .sl t=>List (Val S t)
 | .arr _ t=>Nat->Val S t
 | .st i=>S i
inductive TV (S:Nat->Type) where
 | bool (b:Bool)
 | int (k:IntKind) (n:Int)
 | str (s:ByteArray)
 | nilp
 | ptr (id off:Nat)
 | ap (id base i esz off:Nat)
 | rptr (id ver i esz off:Nat)
 | pub (cs:List (TV S))
 | nils
 | sl0
 | sl (t:Ty) (xs:List (Val S t))
 | rv (id ver i n e:Nat)
 | slen (n:Nat)
 | rs (id ver:Nat)
 | arr (t:Ty) (n:Nat) (a:Nat->Val S t)
 | stc (i:Nat) (x:S i)
 | earr (ts:List TypeId) (pid n:Nat) (a:Nat->Nat)
 | narr (ts:List TypeId) (n:Nat)
 | agg (cs:List (TV S))
 | tup (vs:List (TV S))
 | fn (f:Fn) (first caps:List (TV S))
 | nilfn
 | map (id:Nat)
 | nilmap
 | iface (t:TypeId) (v:TV S)
 | nilif
 | iter (id:Nat)
 | yld (id:Nat)
 | nop (id:Nat)
inductive Zi (S:Nat->Type) where
 | cells (t:TypeId) (cs:List (TV S))
 | row (e:TypeId) (t:Ty) (xs:List (Val S t)) (pubd ver:Nat)
 | map (kt et:Ty) (m:List (Val S kt×Val S et))
 | siter (s:ByteArray) (pos:Nat)
 | mit (m n:Nat)
 | bag (e:TypeId) (t:Ty) (xs:List (Val S t)) (ver:Nat)
 | loop (fid:Nat) (base:Tr (TV S)) (params:List Nat) (assign body:Code) (bid:Nat) (done:Ex) (path at_:List Nat)
structure TS (S:Nat->Type) where
 size:Nat->Nat
 cells:∀i,S i->List (TV S)
 dcells:∀i,S i->List DV
 rd:∀i,List (TV S)->Option (S i×List (TV S))
 dflt:∀i,S i
 seq:∀i,Option (S i->S i->Bool)
noncomputable section
variable {S:Nat->Type}
def tsz (T:TS S):Ty->Nat
 | .arr n t=>n*tsz T t
 | .st i=>T.size i
 | _=>1
def tdf (T:TS S):(t:Ty)->Val S t
 | .bool=>false
 | .int _=>(0:Int)
 | .str=>ByteArray.empty
 | .sl _=>[]
 | .arr _ t=>fun _=>tdf T t
 | .st i=>T.dflt i
def YZ:Ty->Bool
 | .arr _ _ | .st _=>true
 | _=>false
def tcl (T:TS S):(t:Ty)->Val S t->List (TV S)
 | .bool,b=>[.bool b]
 | .int k,n=>[.int k n]
 | .str,s=>[.str s]
 | .sl t,xs=>[.sl t xs]
 | .arr n t,a=>[.arr t n a]
 | .st i,x=>[.stc i x]
def dcl (T:TS S):(t:Ty)->Val S t->List DV
 | .bool,b=>[.bool b]
 | .int k,n=>[.int k n]
 | .str,s=>[.str s]
 | .sl t,xs=>[.sl (xs.map (dcl T t))]
 | .arr n t,a=>(List.range n).flatMap fun j=>dcl T t (a j)
 | .st i,x=>T.dcells i x
def acl (T:TS S) (t:Ty) (n:Nat) (a:Nat->Val S t):List DV:=(List.range n).flatMap fun j=>dcl T t (a j)
def Z8F (T:TS S):(t:Ty)->Val S t->TV S
 | .bool,b=>.bool b
 | .int k,n=>.int k n
 | .str,s=>.str s
 | .sl t,xs=>.sl t xs
 | .arr n t,a=>.agg [.arr t n a]
 | .st i,x=>.agg [.stc i x]
def Yt (T:TS S):(t:Ty)->Val S t->DV
 | .bool,b=>.bool b
 | .int k,n=>.int k n
 | .str,s=>.str s
 | .sl t,xs=>.sl (xs.map (dcl T t))
 | .arr n t,a=>.agg (acl T t n a)
 | .st i,x=>.agg (T.dcells i x)
def enD (pid:Nat):List TypeId->Nat->DV
 | _,0=>.nilif
 | [],_+1=>.nilif
 | t::_,1=>.iface t (.agg [.ptr pid 0])
 | _::ts,m+2=>enD pid ts (m+1)
def eal (ts:List TypeId) (pid n:Nat) (a:Nat->Nat):List DV:=(List.range n).map fun j=>enD pid ts (a j)
mutual
def dv (T:TS S):TV S->DV
 | .bool b=>.bool b
 | .int k n=>.int k n
 | .str s=>.str s
 | .nilp=>.nilp
 | .ptr id off=>.ptr id off
 | .ap id base i esz off=>.ptr id (base+i*esz+off)
 | .rptr id v i esz off=>.rptr id v i esz off
 | .pub cs=>.pub (dvs T cs)
 | .nils=>.nils
 | .sl0=>.sl []
 | .sl t xs=>.sl (xs.map (dcl T t))
 | .rs id v=>.rs id v
 | .rv id v i n e=>.rv id v i n e
 | .slen n=>.slen n
 | .arr _ _ _=>.nilp
 | .stc _ _=>.nilp
 | .earr ts pid n a=>.agg (eal ts pid n a)
 | .narr _ n=>.agg (List.replicate n .nilif)
 | .agg cs=>.agg (dvs T cs)
 | .tup vs=>.tup (dvl T vs)
 | .fn f a c=>.fn f (dvl T a) (dvl T c)
 | .nilfn=>.nilfn
 | .map id=>.map id
 | .nilmap=>.nilmap
 | .iface t v=>.iface t (dv T v)
 | .nilif=>.nilif
 | .iter id=>.iter id
 | .yld id=>.yld id
 | .nop id=>.nop id
def dvs (T:TS S):List (TV S)->List DV
 | []=>[]
 | .arr t n a::cs=>acl T t n a++dvs T cs
 | .stc i x::cs=>T.dcells i x++dvs T cs
 | .earr ts pid n a::cs=>eal ts pid n a++dvs T cs
 | .narr _ n::cs=>List.replicate n .nilif++dvs T cs
 | c::cs=>dv T c::dvs T cs
def dvl (T:TS S):List (TV S)->List DV
 | []=>[]
 | c::cs=>dv T c::dvl T cs
end
def Zl1 (t:Ty):TV S->Option (List (Val S t))
 | .sl0=>some []
 | .sl t' xs=>if h:t'=t then some (h▸xs)else none
 | _=>none
def Z8n:List (TV S)->Option (Bool×List (TV S))
 | .bool b::r=>some (b,r)
 | _=>none
def Z1u (k:IntKind):List (TV S)->Option (Int×List (TV S))
 | .int k' n::r=>bif k==k' then some (n,r)else none
 | _=>none
def Z93:List (TV S)->Option (ByteArray×List (TV S))
 | .str s::r=>some (s,r)
 | _=>none
def ZfY (t:Ty):List (TV S)->Option (List (Val S t)×List (TV S))
 | c::r=>(Zl1 t c).bind fun xs=>some (xs,r)
 | _=>none
def ZkT (n:Nat) (t:Ty):List (TV S)->Option ((Nat->Val S t)×List (TV S))
 | .arr t' n' a::r=>if h:t'=t then(bif Nat.beq n' n then some (h▸a,r)else none)else none
 | _=>none
def rdW (i:Nat) (f:List (TV S)->Option (S i×List (TV S))):List (TV S)->Option (S i×List (TV S))
 | .stc i' x::r=>if h:i'=i then some (h▸x,r)else none
 | cs=>f cs
def Z58 (T:TS S) (i:Nat):Nat->List (TV S)->List (TV S)
 | n+1,.stc i' x::r=>bif Nat.beq i' i then .stc i' x::r else Z58 T i n (T.cells i' x++r)
 | _,cs=>cs
def trd (T:TS S):(t:Ty)->List (TV S)->Option (Val S t×List (TV S))
 | .bool=>Z8n
 | .int k=>Z1u k
 | .str=>Z93
 | .sl t=>ZfY t
 | .arr n t=>ZkT n t
 | .st i=>fun cs=>rdW i (T.rd i) (Z58 T i 6 cs)
def Z7S (T:TS S) (t:Ty) (cs:List (TV S)):Option (Val S t):=(trd T t cs).bind fun x=>match x.2 with
 | []=>some x.1
 | _=>none
def Yb:TV S->List (TV S)
 | .agg cs=>cs
 | .arr _ _ _=>[.nilp]
 | .stc _ _=>[.nilp]
 | v=>[v]
def Z7n:TV S->Bool
 | .agg _ | .tup _=>false
 | _=>true
def ZT:TV S->Bool
 | .arr _ _ _=>true
 | .stc _ _=>true
 | .earr _ _ _ _=>true
 | .narr _ _=>true
 | _=>false
def Z6y (T:TS S) (t:Ty) (v:TV S):Option (Val S t):=match v with
 | .agg cs=>bif YZ t then Z7S T t cs else none
 | v=>bif YZ t then none else Z7S T t [v]
def wd (T:TS S):TV S->Nat
 | .arr t n _=>n*tsz T t
 | .stc i _=>T.size i
 | .earr _ _ n _=>n
 | .narr _ n=>n
 | _=>1
def wds (T:TS S):List (TV S)->Nat
 | []=>0
 | c::cs=>wd T c+wds T cs
def Zbo (T:TS S):Nat->List (TV S)->Nat->Option (List (TV S))
 | 0,_,_=>none
 | _+1,[],n=>bif Nat.beq n 0 then some []else none
 | f+1,c::cs,n=>bif Nat.beq n 0 then some (c::cs)else bif Nat.ble (wd T c) n then Zbo T f cs (n-wd T c)else match c with
  | .stc i x=>Zbo T f (T.cells i x++cs) n
  | _=>none
def Z9P (T:TS S) (cs:List (TV S)) (n:Nat):Option (List (TV S)):=Zbo T 400 cs n
def Zc1 (T:TS S):Nat->List (TV S)->Nat->Option (List (TV S))
 | 0,_,_=>none
 | _+1,[],n=>bif Nat.beq n 0 then some []else none
 | f+1,c::cs,n=>bif Nat.beq n 0 then some []else bif Nat.ble (wd T c) n then(Zc1 T f cs (n-wd T c)).bind fun r=>some (c::r)else match c with
  | .stc i x=>Zc1 T f (T.cells i x++cs) n
  | _=>none
def Zjz (T:TS S) (cs:List (TV S)) (n:Nat):Option (List (TV S)):=Zc1 T 400 cs n
def hdF (T:TS S):Nat->List (TV S)->List (TV S)
 | n+1,.stc i x::r=>hdF T n (T.cells i x++r)
 | _,cs=>cs
def xpF (T:TS S):Nat->List (TV S)->List (TV S)
 | n+1,.stc i x::r=>xpF T n (T.cells i x++r)
 | n+1,c::r=>c::xpF T n r
 | _,cs=>cs
def Z3k (T:TS S) (cs:List (TV S)) (off:Nat) (vs:List (TV S)):Option (List (TV S)) :=
 (Zjz T cs off).bind fun a=>(Z9P T cs (off+wds T vs)).bind fun b=>some (a++vs++b)
def Zaq (T:TS S) (ti:TI) (cs:List (TV S)) (off:Nat):Option (TV S) :=
 (Z9P T cs off).bind fun r=>bif ti.isAgg then(Zjz T r ti.size).bind fun p=>some (.agg p)else match hdF T 10 r with
  | c::_=>bif ZT c then none else some c
  | []=>none
structure Y2 (S:Nat->Type) where
 E:Env
 T:TS S
 code:Nat->Option Ty
 zero:Nat->Option (List (TV S))
 /-- library functions that are told: where they are, which of two values -/
 lf:Nat->Option (List (TV S)->Option (Bool×Bool×TV S×TV S))
def ZbG (X:Y2 S) (t:TypeId) (cs:List (TV S)):List (TV S):=match X.code t with
 | some c=>(match Z7S X.T c cs with
  | some x=>tcl X.T c x
  | none=>cs)
 | none=>cs
def Zaw (nid:Nat):List (TV S)->List (TV S)
 | []=>[]
 | .narr ts n::cs=>.earr ts nid n (fun _=>0)::Zaw nid cs
 | c::cs=>c::Zaw nid cs
structure Zb2 (S:Nat->Type) where
 val:Option (TV S)
 upd:List (Nat×Option (Zi S))
def ZfL:Value->Option (TV S)
 | .bool b=>some (.bool b)
 | .int k n=>some (.int k n)
 | .string s=>some (.str s)
 | .pointer none=>some .nilp
 | .slice none 0 0=>some .nils
 | .map none=>some .nilmap
 | .nilFunc=>some .nilfn
 | .nilIface=>some .nilif
 | _=>none
def ZO (ρ:Nat->Option (TV S)):Operand->Option (TV S)
 | .tmp t=>ρ t
 | .const v=>ZfL v
 | .func f=>some (.fn (.func f) [] [])
 | .global _=>none
def Z2Z (ρ:Nat->Option (TV S)):List Operand->Option (List (TV S))
 | []=>some []
 | x::xs=>(ZO ρ x).bind fun v=>(Z2Z ρ xs).bind fun vs=>some (v::vs)
mutual
def Zn:TV S->Bool
 | .bool _ | .int _ _ | .str _ | .nilp | .nils | .sl0 | .sl _ _ | .nilfn | .nilmap | .nilif=>true
 | .arr _ _ _ | .stc _ _=>true
 | .earr ts i n a=>Za (eal ts i n a)
 | .narr _ _=>true
 | .agg cs=>Yg cs
 | .tup cs=>Yg cs
 | .pub cs=>Yg cs
 | .fn _ a b=>Yg a&&Yg b
 | .iface _ v=>Zn v
 | _=>false
def Yg:List (TV S)->Bool
 | []=>true
 | c::cs=>Zn c&&Yg cs
end
mutual
def Zb3 (n:Nat):TV S->Bool
 | .ptr i _ | .ap i _ _ _ _ | .rptr i _ _ _ _ | .rs i _ | .rv i _ _ _ _ | .map i | .iter i | .yld i | .nop i=>Nat.blt i n
 | .agg cs=>Z5k n cs
 | .tup cs=>Z5k n cs
 | .fn _ a b=>Z5k n a&&Z5k n b
 | .iface _ v=>Zb3 n v
 | .pub cs=>Z5k n cs
 | .earr _ i _ _=>Nat.blt i n
 | _=>true
def Z5k (n:Nat):List (TV S)->Bool
 | []=>true
 | c::cs=>Zb3 n c&&Z5k n cs
end
mutual
def YE (h:Nat->Option (Zi S)):TV S->Option (TV S)
 | .rs id v=>(h id).bind fun | .row _ t xs _ u=>bif Nat.beq u v then some (.sl t xs)else none|_=>none
 | .agg cs=>(Z2b h cs).bind fun cs=>some (.agg cs)
 | .tup cs=>(Z2b h cs).bind fun cs=>some (.tup cs)
 | .iface t v=>(YE h v).bind fun v=>some (.iface t v)
 | .nils=>some .sl0
 | d=>bif Zn d then some d else none
def Z2b (h:Nat->Option (Zi S)):List (TV S)->Option (List (TV S))
 | []=>some []
 | c::cs=>(YE h c).bind fun c=>(Z2b h cs).bind fun cs=>some (c::cs)
end
mutual
def ZX:TV S->List Nat
 | .rs id _=>[id]
 | .rv id _ _ _ _=>[id]
 | .agg cs=>Yq cs
 | .tup cs=>Yq cs
 | .iface _ v=>ZX v
 | _=>[]
def Yq:List (TV S)->List Nat
 | []=>[]
 | c::cs=>ZX c++Yq cs
end
def Z6v (h:Nat->Option (Zi S)):List Nat->List (Nat×Option (Zi S))
 | []=>[]
 | i::is=>(match h i with|some (.row e t xs p u)=>bif Nat.beq p 1 then []else [(i,some (.row e t xs 1 u))]|_=>[])++Z6v h is
def ZiT:Zi S->Zi S
 | .row e t xs _ u=>.row e t xs 1 u
 | o=>o
mutual
def Z2a:TV S->List Nat
 | .ptr i _ | .ap i _ _ _ _ | .rptr i _ _ _ _ | .rs i _ | .rv i _ _ _ _ | .map i | .iter i | .yld i | .nop i=>[i]
 | .agg cs=>Z5t cs
 | .tup cs=>Z5t cs
 | .fn _ a b=>Z5t a++Z5t b
 | .iface _ v=>Z2a v
 | .earr ts i n a=>ZE (eal ts i n a)
 | _=>[]
def Z5t:List (TV S)->List Nat
 | []=>[]
 | c::cs=>Z2a c++Z5t cs
end
section ops
variable {R:Type}
abbrev Z1Z (S:Nat->Type) (R:Type):=Zb2 S->Option R
def ZM (v:TV S) (k:Z1Z S R):Option R:=k ⟨some v,[]⟩
def Z4a:(t:Ty)->Option (Val S t->Val S t->Bool)
 | .bool=>some fun(a b:Bool)=>a==b
 | .int _=>some fun(a b:Int)=>a==b
 | .str=>some fun(a b:ByteArray)=>a==b
 | _=>none
def Zad (T:TS S):(t:Ty)->Option (Val S t->Val S t->Bool)
 | .st i=>T.seq i
 | t=>Z4a t
def Z1a:List (TV S)->List (TV S)->Option Bool
 | [],[]=>some true
 | .int k a::xs,.int k' b::ys=>bif k==k' then(Z1a xs ys).bind fun r=>some (a==b&&r)else none
 | .bool a::xs,.bool b::ys=>(Z1a xs ys).bind fun r=>some (a==b&&r)
 | .str a::xs,.str b::ys=>(Z1a xs ys).bind fun r=>some (a==b&&r)
 | .arr t n a::xs,.arr t' n' b::ys=>if h:t'=t then(bif Nat.beq n' n then(Z4a t).bind fun e=>(Z1a xs ys).bind fun r=>some (((List.range n).all fun j=>e (a j) ((h▸b:Nat->Val S t) j))&&r)else none)else none
 | _,_=>none
def Z3D:List (TV S)->List (TV S)->Bool
 | [],[]=>true
 | .int k _::zs,.int k' _::xs=>k==k'&&Z3D zs xs
 | .bool _::zs,.bool _::xs=>Z3D zs xs
 | .str _::zs,.str _::xs=>Z3D zs xs
 | .arr t n _::zs,.arr t' n' _::xs=>decide (t'=t)&&Nat.beq n' n&&(Z4a (S:=S) t).isSome&&Z3D zs xs
 | _,_=>false
def Zl2 (X:Y2 S) (op:BinOp) (t:TypeId) (x y:TV S) (k:Z1Z S R):Option R :=
 match x,y with
 | .int kd a,.int kd' b =>
  match op with
  | .shl=>bif decide (b<0)then none else ZM (.int kd (kd.wrap (a*2 ^ (min b.toNat kd.bits)))) k
  | .shr=>bif decide (b<0)then none else ZM (.int kd (a.fdiv (2 ^ (min b.toNat kd.bits)))) k
  | .quo=>bif kd==kd' then(bif b==0 then none else ZM (.int kd (kd.wrap (a.tdiv b))) k)else none
  | .rem=>bif kd==kd' then(bif b==0 then none else ZM (.int kd (a.tmod b)) k)else none
  | .add=>bif kd==kd' then ZM (.int kd (kd.wrap (a+b))) k else none
  | .sub=>bif kd==kd' then ZM (.int kd (kd.wrap (a-b))) k else none
  | .mul=>bif kd==kd' then ZM (.int kd (kd.wrap (a*b))) k else none
  | .and=>bif kd==kd' then ZM (.int kd (kd.wrap (BitVec.ofInt kd.bits a &&& BitVec.ofInt kd.bits b).toNat)) k else none
  | .or=>bif kd==kd' then ZM (.int kd (kd.wrap (BitVec.ofInt kd.bits a ||| BitVec.ofInt kd.bits b).toNat)) k else none
  | .xor=>bif kd==kd' then ZM (.int kd (kd.wrap (BitVec.ofInt kd.bits a ^^^ BitVec.ofInt kd.bits b).toNat)) k else none
  | .eql=>bif kd==kd' then ZM (.bool (a==b)) k else none
  | .neq=>bif kd==kd' then ZM (.bool (a != b)) k else none
  | .lss=>bif kd==kd' then ZM (.bool (decide (a<b))) k else none
  | .leq=>bif kd==kd' then ZM (.bool (decide (a<=b))) k else none
  | .gtr=>bif kd==kd' then ZM (.bool (decide (a>b))) k else none
  | .geq=>bif kd==kd' then ZM (.bool (decide (a>=b))) k else none
  | _=>none
 | .str a,.str b =>
  match op with
  | .add=>bif Nat.ble (a.size+b.size) 1099511627776 then ZM (.str (a++b)) k else none
  | .eql=>ZM (.bool (a.toList==b.toList)) k
  | .neq=>ZM (.bool (!(a.toList==b.toList))) k
  | .lss=>ZM (.bool (Op.bytesLess a.toList b.toList)) k
  | .leq=>ZM (.bool (Op.bytesLess a.toList b.toList||(a.toList==b.toList))) k
  | .gtr=>ZM (.bool (!(Op.bytesLess a.toList b.toList||(a.toList==b.toList)))) k
  | .geq=>ZM (.bool (!(Op.bytesLess a.toList b.toList))) k
  | _=>none
 | .bool a,.bool b=>(X.E.ty t).bind fun ti=>match ti.k,op with
  | .bool,.eql=>ZM (.bool (a==b)) k
  | .bool,.neq=>ZM (.bool (!(a==b))) k
  | _,_=>none
 | .agg a,.agg b=>(X.E.ty t).bind fun ti=>(X.zero t).bind fun z=>let z:=xpF X.T 200 z;let a:=xpF X.T 200 a;let b:=xpF X.T 200 b;bif ti.eqOk&&Z3D z a&&Z3D z b then(match op with
  | .eql=>(Z1a a b).bind fun r=>ZM (.bool r) k
  | .neq=>(Z1a a b).bind fun r=>ZM (.bool (!r)) k
  | _=>none)else none
 | .sl _ xs,.nils=>(X.E.ty t).bind fun ti=>match ti.k,op with
  | .slice _,.eql=>bif xs.isEmpty then none else ZM (.bool false) k
  | .slice _,.neq=>bif xs.isEmpty then none else ZM (.bool true) k
  | _,_=>none
 | .iface _ _,.nilif=>(X.E.ty t).bind fun ti=>match ti.k,op with
  | .iface,.eql=>ZM (.bool false) k
  | .iface,.neq=>ZM (.bool true) k
  | _,_=>none
 | _,_=>none
def Zla (X:Y2 S) (op:BinOp) (t:TypeId) (k:Z1Z S R):Option R:=(X.E.ty t).bind fun ti=>match ti.k,op with
 | .iface,.eql=>ZM (.bool true) k
 | .iface,.neq=>ZM (.bool false) k
 | _,_=>none
def unK (op:UnOp) (x:TV S) (k:Z1Z S R):Option R:=match x with
 | .int kd n=>match op with | .neg=>ZM (.int kd (kd.wrap (0-n))) k|_=>none
 | .bool b=>match op with | .not=>ZM (.bool (!b)) k|_=>none
 | _=>none
def ZdV (n:Nat) (x:TV S) (k:Nat->Option R):Option R:=match x with
 | .int _ i=>bif decide (0<=i)&&decide (i<n)then k i.toNat else none
 | _=>none
def ZkS (c:Bool) (a b:Option (TV S)) (k:Z1Z S R):Option R:=match a,b with
 | some (.bool x),some (.bool y)=>ZM (.bool (bif c then x else y)) k
 | a,b=>bif c then a.bind fun v=>ZM v k else b.bind fun v=>ZM v k
def Z83 (t:Ty) (h:Nat->Option (Zi S)):TV S->Option (List (Val S t))
 | .nils=>some []
 | .sl0=>some []
 | .sl t' xs=>if e:t'=t then some (e▸xs)else none
 | .rs id v=>(h id).bind fun | .row _ t' xs _ u=>bif Nat.beq u v then(if e:t'=t then some (e▸xs)else none)else none|_=>none
 | _=>none
def Z9q (X:Y2 S) (fs:List (Nat×Nat)):List (Nat×TV S)->List (TV S)->Option (List (TV S))
 | [],cs=>some cs
 | (i,v)::ps,cs=>(fs[i]?).bind fun f=>(X.E.ty f.1).bind fun ti =>
   bif Nat.beq (wds X.T (Yb v)) ti.size then(Z3k X.T cs f.2 (Yb v)).bind fun cs=>Z9q X fs ps cs else none
def Z9p (X:Y2 S) (t:Ty) (n:Nat):List (Nat×TV S)->(Nat->Val S t)->Option (Nat->Val S t)
 | [],a=>some a
 | (i,v)::ps,a=>(Z6y X.T t v).bind fun x=>bif Nat.blt i n then Z9p X t n ps (fun j=>bif Nat.beq j i then x else a j)else none
def Zas (ρ:Nat->Option (TV S)):List (Nat×Operand)->Option (List (Nat×TV S))
 | []=>some []
 | (i,x)::ps=>(ZO ρ x).bind fun v=>(Zas ρ ps).bind fun vs=>some ((i,v)::vs)
def Zh6 (X:Y2 S) (h:Nat->Option (Zi S)) (t:Ty):Nat->List (Nat×TV S)->Option (List (Val S t))
 | _,[]=>some []
 | k,(i,v)::ps=>bif Nat.beq i k&&Nat.beq (wds X.T (Yb v)) (tsz X.T t)then(Z2b h (Yb v)).bind fun c=>(Z7S X.T t c).bind fun x=>(Zh6 X h t (k+1) ps).bind fun r=>some (x::r)else none
def Zih (T:TS S):TV S->Nat->Option (TV S)
 | .ptr id off,n=>some (.ptr id (off+n))
 | .ap id b i e off,n=>some (.ap id b i e (off+n))
 | .rptr id v i e off,n=>some (.rptr id v i e (off+n))
 | .pub cs,n=>(Z9P T cs n).bind fun r=>some (.pub r)
 | _,_=>none
def Z8M (T:TS S) (cs:List (TV S)) (base:Nat):Option ((t:Ty)×Nat×(Nat->Val S t)):=(Z9P T cs base).bind fun r=>match hdF T 10 r with
 | .arr t n a::_=>some ⟨t,n,a⟩
 | _=>none
def Zci (T:TS S) (cs:List (TV S)) (base:Nat):Option (List TypeId×Nat×Nat×(Nat->Nat)):=(Z9P T cs base).bind fun r=>match hdF T 10 r with
 | .earr ts pid n a::_=>some (ts,pid,n,a)
 | _=>none
def Zk0 (pid m:Nat):List TypeId->Nat->Z1Z S R->Option R
 | [],_,_=>none
 | t::ts,j,k=>bif Nat.beq m j then ZM (.iface t (.agg [.ptr pid 0])) k else Zk0 pid m ts (j+1) k
def enK (ts:List TypeId) (pid m:Nat) (k:Z1Z S R):Option R:=bif Nat.beq m 0 then ZM .nilif k else Zk0 pid m ts 1 k
def Zk9 (t:TypeId):List TypeId->Nat->Option Nat
 | [],_=>none
 | u::ts,j=>bif Nat.beq u t then some j else Zk9 t ts (j+1)
def Zl3 (ts:List TypeId) (pid:Nat):TV S->Option Nat
 | .nilif=>some 0
 | .iface t (.agg [.ptr p 0])=>bif Nat.beq p pid then Zk9 t ts 1 else none
 | _=>none
def ZgN (X:Y2 S) (ti:TI) (h:Nat->Option (Zi S)) (a:TV S) (k:Z1Z S R):Option R:=match a with
 | .ptr id off=>(h id).bind fun | .cells _ cs=>(Zaq X.T ti cs off).bind fun v=>ZM v k|_=>none
 | .ap id base i e off=>(h id).bind fun
  | .cells _ cs=>(match Zci X.T cs base with
   | some (ts,pid,n,a)=>bif Nat.beq e 1&&Nat.beq off 0 && !ti.isAgg then(bif Nat.blt i n then enK ts pid (a i) k else none)else none
   | none=>(Z8M X.T cs base).bind fun A=>bif Nat.beq e (tsz X.T A.1)then(bif Nat.blt i A.2.1 then(Zaq X.T ti (tcl X.T A.1 (A.2.2 i)) off).bind fun v=>ZM v k else none)else none)
  | _=>none
 | .rptr id v i e off=>(h id).bind fun
  | .row _ t xs _ u=>bif Nat.beq u v&&Nat.beq (tsz X.T t) e then(bif Nat.blt i xs.length then(Zaq X.T ti (tcl X.T t (xs.getD i (tdf X.T t))) off).bind fun v=>ZM v k else none)else none
  | _=>none
 | .pub cs=>(Zaq X.T ti cs 0).bind fun v=>ZM v k
 | _=>none
def Zge (X:Y2 S) (ti:TI) (h:Nat->Option (Zi S)) (a v:TV S) (k:Z1Z S R):Option R :=
  bif Nat.beq (wds X.T (Yb v)) ti.size&&(Yb v).all Z7n then
    match a with
    | .ptr id off=>(h id).bind fun
      | .cells t cs=>(Z3k X.T cs off (Yb v)).bind fun cs=>k ⟨some (.tup []),[(id,some (.cells t (ZbG X t cs)))]⟩
      | _=>none
    | .ap id base i e off=>(h id).bind fun
      | .cells t cs=>(match Zci X.T cs base with
       | some (ts,pid,n,a)=>bif Nat.beq e 1&&Nat.beq off 0 then(bif Nat.blt i n then(Zl3 ts pid v).bind fun m =>
          (Z3k X.T cs base [.earr ts pid n (fun j=>bif Nat.beq j i then m else a j)]).bind fun cs=>k ⟨some (.tup []),[(id,some (.cells t cs))]⟩else none)else none
       | none=>(Z8M X.T cs base).bind fun A=>bif Nat.beq e (tsz X.T A.1)then(bif Nat.blt i A.2.1 then
          (Z3k X.T (tcl X.T A.1 (A.2.2 i)) off (Yb v)).bind fun c=>(Z7S X.T A.1 c).bind fun x =>
          (Z3k X.T cs base [.arr A.1 A.2.1 (fun j=>bif Nat.beq j i then x else A.2.2 j)]).bind fun cs=>k ⟨some (.tup []),[(id,some (.cells t (ZbG X t cs)))]⟩else none)else none)
      | _=>none
    | .rptr id ver i e off=>(h id).bind fun
      | .row et t xs p u=>bif Nat.beq u ver&&Nat.beq (tsz X.T t) e&&Nat.beq p 0&&Yg (Yb v)then(bif Nat.blt i xs.length then
          (Z3k X.T (tcl X.T t (xs.getD i (tdf X.T t))) off (Yb v)).bind fun c=>(Z7S X.T t c).bind fun x =>
            k ⟨some (.tup []),[(id,some (.row et t (xs.set i x) p u))]⟩else none)else none
      | _=>none
    | _=>none
  else none
def Zj0:TV S->TV S->Option (TV S)
 | .int k x,.int _ y=>some (.int k (bif decide (y<x)then y else x))
 | _,_=>none
def ZiY:TV S->TV S->Option (TV S)
 | .int k x,.int _ y=>some (.int k (bif decide (y>x)then y else x))
 | _,_=>none
def ZdJ (f:TV S->TV S->Option (TV S)):TV S->List (TV S)->Option (TV S)
 | x,[]=>some x
 | x,y::ys=>(f x y).bind fun z=>ZdJ f z ys
def Zl8 (k:TK) (h:Nat->Option (Zi S)) (d:TV S):Option (TV S) :=
 match k,d with
 | .string,.str s=>some (.int .i64 (s.size:Nat))
 | .map _ _,.nilmap=>some (.int .i64 0)
 | .map _ _,.map id=>(h id).bind fun | .map _ _ m=>some (.int .i64 (m.length:Nat))|_=>none
 | .slice _,.nils=>some (.int .i64 0)
 | .slice _,.sl0=>some (.int .i64 0)
 | .slice _,.slen n=>some (.int .i64 (n:Nat))
 | .slice _,.sl _ xs=>some (.int .i64 (xs.length:Nat))
 | .slice _,.rs id v=>(h id).bind fun | .row _ _ xs _ u=>bif Nat.beq u v then some (.int .i64 (xs.length:Nat))else none|_=>none
 | .array n _,_=>some (.int .i64 (n:Nat))
 | _,_=>none
theorem Zbh:∃f:ByteArray->List Int,∀s,f s=s.data.toList.map fun b=>(b.toNat:Int):=⟨_,fun _=>rfl⟩
theorem Z9I:∃f:List Int->Bool,∀xs,f xs=xs.all fun n=>decide (0<=n)&&decide (n<256):=⟨_,fun _=>rfl⟩
theorem Zbj:∃f:List Int->ByteArray,∀xs,f xs=⟨(xs.map fun n=>UInt8.ofNat n.toNat).toArray⟩:=⟨_,fun _=>rfl⟩
def Zfg:ByteArray->List Int:=Zbh.choose
def Z9m:List Int->Bool:=Z9I.choose
def Zfi:List Int->ByteArray:=Zbj.choose
theorem Zhm (s:ByteArray):Zfg s=s.data.toList.map fun b=>(b.toNat:Int):=Zbh.choose_spec s
theorem Z9H (xs:List Int):Z9m xs=xs.all fun n=>decide (0<=n)&&decide (n<256):=Z9I.choose_spec xs
theorem Zbi (xs:List Int):Zfi xs=⟨(xs.map fun n=>UInt8.ofNat n.toNat).toArray⟩:=Zbj.choose_spec xs
def Zim (X:Y2 S) (h:Nat->Option (Zi S)) (t t':TypeId) (te:Ty) (x:TV S):Option (List (Val S te)) :=
 bif Nat.beq t t' then Z83 te h x else match x with
 | .str s=>(X.E.ty t').bind fun ti=>match ti.k with
  | .string=>if q:Ty.int .u8=te then some (q▸(Zfg s:List (Val S (.int .u8))))else none
  | _=>none
 | _=>none
def Zc9 (X:Y2 S) (nid:Nat) (h:Nat->Option (Zi S)) (t t':TypeId) (s x:TV S) (k:Z1Z S R):Option R :=
 (X.E.ty t).bind fun ti=>match ti.k with
 | .slice e=>(X.E.ty e).bind fun ei=>(X.code e).bind fun te=>(Zim X h t t' te x).bind fun xs=>bif Nat.blt 0 ei.size&&Nat.ble ei.bytes 100000000000 then(match s with
  | .nils=>(match xs with
   | []=>ZM .nils k
   | y::ys=>bif Nat.ble ((y::ys).length*(ei.bytes+1)) 200000000000000 then k ⟨some (.rs nid 0),[(nid,some (.row e te (y::ys) 0 0))]⟩else none)
  | .rs id v=>(h id).bind fun
   | .row e' te' es p u=>bif Nat.beq u v&&Nat.beq e' e then(if q:te'=te then(bif Nat.ble ((es.length+xs.length)*(ei.bytes+1)) 200000000000000 then
     k ⟨some (.rs id (v+1)),[(id,some (.row e te ((q▸es:List (Val S te))++xs) p (v+1)))]⟩else none)else none)else none
   | _=>none
  | _=>none)else none
 | _=>none
def Zal {α β:Type} (e:α->α->Bool) (k:α):List (α×β)->Option β
 | []=>none
 | (k',v)::m=>bif e k k' then some v else Zal e k m
def Zkn {α β:Type} (e:α->α->Bool) (k:α) (v:β):List (α×β)->List (α×β)
 | []=>[(k,v)]
 | (k',v')::m=>bif e k k' then(k,v)::m else(k',v')::Zkn e k v m
def Z44 (d:Option (TV S)) (dflt y:Nat) (k:Nat->Option R):Option R:=match d with
 | none=>k dflt
 | some (.int _ i)=>bif decide (0<=i)&&decide (i<=y)then k i.toNat else none
 | _=>none
def zeroT (X:Y2 S) (t:TypeId) (ti:TI):Option (TV S):=(X.zero t).bind fun z=>bif ti.isAgg then some (.agg z)else match z with
 | [c]=>bif ZT c then none else some c
 | _=>none
def Zkt (ρ:Nat->Option (TV S)):Option Operand->Option (Option (TV S))
 | none=>some none
 | some x=>(ZO ρ x).bind fun v=>some (some v)
def Z7p (T:TS S) (ki:TI) (z:Option (List (TV S))):(t:Ty)->Val S t->Bool:=fun t x=>match ki.k,t,x with
 | .int _,.int _,_ | .string,.str,_ | .bool,.bool,_=>true
 | .struct _,.st i,x=>ki.eqOk&&ki.keyOk&&(match z with|some z=>Z3D (xpF T 200 z) (xpF T 200 [.stc i x])|none=>false)
 | _,_,_=>false
def Z7l (h:Nat->Option (Zi S)):TV S->Bool
 | .rs id _=>(match h id with|some (.row _ _ _ p _)=>Nat.beq p 0|_=>false)
 | _=>false
def ZkW (e:Nat) (d:TV S) (l hh:Nat) (k:Z1Z S R):Option R:=match d with
 | .rs id v=>ZM (.rv id v l (hh-l) e) k
 | _=>none
def ZgI:TV S->Bool
 | .rv _ _ _ _ _=>true
 | _=>false
mutual
def Zhg:TV S->Option (TV S)
 | .bool b=>some (.bool b)
 | .int k n=>some (.int k n)
 | .str s=>some (.str s)
 | .sl0=>some (.slen 0)
 | .sl _ xs=>some (.slen xs.length)
 | .tup vs=>(Zdd vs).bind fun vs=>some (.tup vs)
 | _=>none
def Zdd:List (TV S)->Option (List (TV S))
 | []=>some []
 | d::ds=>(Zhg d).bind fun d=>(Zdd ds).bind fun ds=>some (d::ds)
end
def Zgy (X:Y2 S) (si:TI) (h:Nat->Option (Zi S)) (x:TV S) (k:Z1Z S R):Option R:=match si.k with
 | .slice e=>(X.E.ty e).bind fun ei=>match ei.k with
  | .int .u8=>(Z83 (.int .u8) h x).bind fun xs=>bif Z9m xs then ZM (.str (Zfi xs)) k else none
  | _=>none
 | _=>none
def opK (X:Y2 S) (nid:Nat) (ρ:Nat->Option (TV S)) (h:Nat->Option (Zi S)) (op:Op) (k:Z1Z S R):Option R :=
  match op with
  | .move x=>(ZO ρ x).bind fun v=>ZM v k
  | .assign x=>(ZO ρ x).bind fun v=>ZM v k
  | .pick c a b=>(ZO ρ c).bind fun
    | .bool c=>ZkS c (ZO ρ a) (ZO ρ b) k
    | _=>none
  | .alloc t=>(X.E.ty t).bind fun _=>(X.zero t).bind fun z=>bif X.E.bl t then(match z with
    | .nilp::cs=>k ⟨some (.ptr nid 0),[(nid,some (.cells t (.nop nid::cs)))]⟩
    | _=>none)else k ⟨some (.ptr nid 0),[(nid,some (.cells t (ZbG X t (Zaw nid z))))]⟩
  | .box t x=>(ZO ρ x).bind fun v=>bif(Yb v).all Z7n then k ⟨some (.ptr nid 0),[(nid,some (.cells t (ZbG X t (Zaw nid (Yb v)))))]⟩else none
  | .build t ps=>(X.E.ty t).bind fun ti=>(Zas ρ ps.toList).bind fun vs=>(X.zero t).bind fun z=>match ti.k with
    | .struct fs=>(Z9q X fs vs z).bind fun cs=>ZM (.agg cs) k
    | .array _ e=>(X.E.ty e).bind fun _=>(X.code e).bind fun te=>(match z with
      | [.arr te' n a]=>if q:te'=te then(Z9p X te n vs (q▸a)).bind fun a=>ZM (.agg [.arr te n a]) k else none
      | _=>none)
    | _=>none
  | .buildSlice t n ps=>(X.E.ty t).bind fun ti=>match ti.k with
    | .slice e=>(X.E.ty e).bind fun ei=>(X.code e).bind fun te=>(Zas ρ ps.toList).bind fun vs=>(Zh6 X h te 0 vs).bind fun es =>
        bif Nat.beq es.length n&&Nat.ble (n*ei.size) 1048576&&Nat.blt 0 ei.size then k ⟨some (.rs nid 0),(nid,some (.row e te es 0 0))::Z6v h (Yq (vs.map (·.2)))⟩else none
    | _=>none
  | .load t a=>(X.E.ty t).bind fun ti=>(ZO ρ a).bind fun a=>ZgN X ti h a k
  | .store t a x=>(X.E.ty t).bind fun ti=>(ZO ρ a).bind fun a=>(ZO ρ x).bind fun v=>Zge X ti h a v k
  | .nilCheck x=>(ZO ρ x).bind fun
    | .ptr i o=>ZM (.ptr i o) k
    | .ap i b j e o=>ZM (.ap i b j e o) k
    | .rptr i v j e o=>ZM (.rptr i v j e o) k
    | .pub cs=>ZM (.pub cs) k
    | _=>none
  | .binOp op t x y _=>(ZO ρ x).bind fun a=>(ZO ρ y).bind fun b=>(match a,b with
    | .nilif,.nilif=>bif Zaa x||Zaa y then Zla X op t k else none
    | a,b=>Zl2 X op t a b k)
  | .unOp op _ x=>(ZO ρ x).bind fun x=>unK op x k
  | .convert s d x=>(X.E.ty s).bind fun si=>(X.E.ty d).bind fun ti=>(ZO ρ x).bind fun x=>match ti.k,x with
    | .int kd,.int _ n=>ZM (.int kd (kd.wrap n)) k
    | .string,.str s=>ZM (.str s) k
    | .string,.rs id v=>Zgy X si h (.rs id v) k
    | .string,.sl t xs=>Zgy X si h (.sl t xs) k
    | _,_=>none
  | .makeFunc f a c=>(Z2Z ρ a.toList).bind fun a=>(Z2Z ρ c.toList).bind fun c=>ZM (.fn f a c) k
  | .makeMap t none=>(X.E.ty t).bind fun ti=>match ti.k with
    | .map kt e=>(X.code kt).bind fun kt=>(X.code e).bind fun et=>k ⟨some (.map nid),[(nid,some (.map kt et []))]⟩
    | _=>none
  | .slice t x lo hi none=>(X.E.ty t).bind fun ti=>(ZO ρ x).bind fun x=>(Zkt ρ lo).bind fun lo=>(Zkt ρ hi).bind fun hi=>match ti.k,x with
    | .string,.str s=>Z44 hi s.size s.size fun h=>Z44 lo 0 h fun l=>ZM (.str (s.extract l h)) k
    | .array n e,.ptr id off=>(X.E.ty e).bind fun ei=>(h id).bind fun
      | .cells _ cs=>(Z8M X.T cs off).bind fun A=>bif Nat.beq A.2.1 n&&Nat.beq (tsz X.T A.1) ei.size&&Nat.blt 0 ei.size then
          Z44 hi n n fun hh=>Z44 lo 0 hh fun l=>k ⟨some (.sl A.1 ((((List.range n).map A.2.2).take hh).drop l)),[(id,none)]⟩else none
      | _=>none
    | .array n e,.pub cs=>(X.E.ty e).bind fun ei=>(Z8M X.T cs 0).bind fun A=>bif Nat.beq A.2.1 n&&Nat.beq (tsz X.T A.1) ei.size&&cs.all Z7n then
          Z44 hi n n fun hh=>Z44 lo 0 hh fun l=>ZM (.sl A.1 ((((List.range n).map A.2.2).take hh).drop l)) k else none
    | .slice e,d=>(X.E.ty e).bind fun ei=>(X.code e).bind fun te=>(Z83 te h d).bind fun es=>bif Nat.blt 0 ei.size then
        Z44 hi es.length es.length fun hh=>Z44 lo 0 hh fun l=>bif ti.view&&Z7l h d then ZkW ei.size d l hh k else k ⟨some (.sl te ((es.take hh).drop l)),Z6v h (ZX d)⟩else none
    | _,_=>none
  | .fieldAddr s x f=>(X.E.ty s).bind fun ti=>(ZO ρ x).bind fun x=>match ti.k with
    | .struct fs=>(fs[f]?).bind fun f=>(X.E.ty f.1).bind fun fi=>bif Nat.blt 0 fi.size then(Zih X.T x f.2).bind fun v=>ZM v k else none
    | _=>none
  | .field s x f=>(X.E.ty s).bind fun ti=>(ZO ρ x).bind fun x=>match ti.k,x with
    | .struct fs,.agg cs=>(fs[f]?).bind fun f=>(X.E.ty f.1).bind fun fi=>(Zaq X.T fi cs f.2).bind fun v=>ZM v k
    | _,_=>none
  | .indexAddr t x i=>(X.E.ty t).bind fun ti=>(ZO ρ x).bind fun x=>(ZO ρ i).bind fun i=>match ti.k with
    | .array len e=>(X.E.ty e).bind fun ei=>(match x with
      | .ptr id o=>ZdV len i fun i=>bif Nat.blt 0 len then ZM (.ap id o i ei.size 0) k else none
      | .pub cs=>(match hdF X.T 10 cs with
       | .arr t n a::cs=>bif Nat.beq n len&&Nat.beq (tsz X.T t) ei.size then ZdV len i fun i=>ZM (.pub (tcl X.T t (a i)++.arr t (n-(i+1)) (fun m=>a (i+1+m))::cs)) k else none
       | _=>none)
      | _=>none)
    | .slice e=>(X.E.ty e).bind fun ei=>(match x with
      | .sl te xs=>bif Nat.beq (tsz X.T te) ei.size&&Nat.blt 0 ei.size then ZdV xs.length i fun i=>ZM (.pub (tcl X.T te (xs.getD i (tdf X.T te)))) k else none
      | .rs id v=>(h id).bind fun
        | .row _ _ xs _ u=>bif Nat.beq u v&&Nat.blt 0 ei.size then ZdV xs.length i fun i=>ZM (.rptr id v i ei.size 0) k else none
        | _=>none
      | _=>none)
    | _=>none
  | .index t x i=>(X.E.ty t).bind fun ti=>(ZO ρ x).bind fun x=>(ZO ρ i).bind fun i=>match ti.k,x with
    | .array len e,.agg [.arr te n a]=>(X.E.ty e).bind fun ei=>bif Nat.beq n len&&Nat.beq (tsz X.T te) ei.size&&(ei.isAgg==YZ te)then ZdV len i fun i=>ZM (Z8F X.T te (a i)) k else none
    | .string,.str s=>ZdV s.size i fun i=>ZM (.int .u8 (s.toList.getD i 0).toNat) k
    | _,_=>none
  | .lookup t m kx ok=>(X.E.ty t).bind fun ti=>(ZO ρ m).bind fun m=>(ZO ρ kx).bind fun kv=>match ti.k,m with
    | .map kt e,.map id=>(X.E.ty e).bind fun ei=>(X.E.ty kt).bind fun ki=>(X.zero e).bind fun z=>(h id).bind fun
      | .map kc ec es=>(Z6y X.T kc kv).bind fun key=>bif Z7p X.T ki (X.zero kt) kc key&&Nat.beq ei.size 1 && !ei.isAgg && !YZ ec then(Z7S X.T ec z).bind fun zv=>(Zad X.T kc).bind fun eq =>
          ZM (bif ok then .tup [Z8F X.T ec ((Zal eq key es).getD zv),.bool (Zal eq key es).isSome]else Z8F X.T ec ((Zal eq key es).getD zv)) k else none
      | _=>none
    | _,_=>none
  | .mapUpdate t m kx v=>(X.E.ty t).bind fun ti=>(ZO ρ m).bind fun m=>(ZO ρ kx).bind fun kv=>(ZO ρ v).bind fun v=>match ti.k,m with
    | .map kt _,.map id=>(X.E.ty kt).bind fun ki=>(h id).bind fun
      | .map kc ec es=>(Z6y X.T kc kv).bind fun key=>bif Z7p X.T ki (X.zero kt) kc key && !YZ ec then(Z4a (S:=S) ec).bind fun _=>(Z6y X.T ec v).bind fun x=>(Zad X.T kc).bind fun eq =>
          k ⟨some (.tup []),[(id,some (.map kc ec (Zkn eq key x es)))]⟩else none
      | _=>none
    | _,_=>none
  | .makeInterface t x=>(X.E.ty t).bind fun ti=>(ZO ρ x).bind fun v=>bif ZT v then none else match ti.k with
    | .iface=>none
    | _=>ZM (.iface t v) k
  | .typeAssert x _ t ok=>(X.E.ty t).bind fun ti=>(ZO ρ x).bind fun x=>match ti.k,x with
    | .iface,_=>none
    | _,.nilif=>bif ok then(zeroT X t ti).bind fun z=>ZM (.tup [z,.bool false]) k else none
    | _,.iface t' v=>bif Nat.beq t' t then ZM (bif ok then .tup [v,.bool true]else v) k else bif ok then(zeroT X t ti).bind fun z=>ZM (.tup [z,.bool false]) k else none
    | _,_=>none
  | .makeSlice t l c=>(X.E.ty t).bind fun ti=>(ZO ρ l).bind fun l=>(ZO ρ c).bind fun c=>match ti.k,l,c with
    | .slice e,.int _ n,.int _ n'=>(X.E.ty e).bind fun ei=>(X.code e).bind fun te=>(X.zero e).bind fun z=>(Z7S X.T te z).bind fun zv=>bif n==n'&&decide (0<=n)&&Nat.ble (n.toNat*(ei.bytes+1)) 200000000000000&&Nat.blt 0 ei.size then
        k ⟨some (.rs nid 0),[(nid,some (.row e te (List.replicate n.toNat zv) 0 0))]⟩else none
    | _,_,_=>none
  | .range t x=>(X.E.ty t).bind fun ti=>(ZO ρ x).bind fun x=>match ti.k,x with
    | .string,.str s=>k ⟨some (.iter nid),[(nid,some (.siter s 0))]⟩
    | .map _ _,.map id=>(h id).bind fun
      | .map _ _ m=>k ⟨some (.iter nid),[(nid,some (.mit id m.length))]⟩
      | _=>none
    | _,_=>none
  | .next it true=>(ZO ρ it).bind fun
    | .iter id=>(h id).bind fun
      | .siter s pos=>bif decide (pos<s.size)then
          k ⟨some (.tup [.bool true,.int .i64 (pos:Nat),.int .i32 (Utf8.decode s pos).1]),[(id,some (.siter s (pos+(Utf8.decode s pos).2)))]⟩
        else ZM (.tup [.bool false]) k
      | _=>none
    | _=>none
  | .extract t i=>(ZO ρ t).bind fun
    | .tup vs=>(vs[i]?).bind fun v=>ZM v k
    | _=>none
  | .call c=>match c.callee with
    | .builtin .len=>(match c.args.toList,c.argTypes.toList with
      | [x],t::_=>(X.E.ty t).bind fun ti=>(ZO ρ x).bind fun x=>(Zl8 ti.k h x).bind fun v=>ZM v k
      | _,_=>none)
    | .builtin .append=>(match c.args.toList,c.argTypes.toList with
      | [s,x],[t,t']=>(ZO ρ s).bind fun s=>(ZO ρ x).bind fun x=>Zc9 X nid h t t' s x k
      | _,_=>none)
    | .builtin .unsafeSliceData=>(match c.args.toList with
      | [x]=>(ZO ρ x).bind fun
        | .nils=>ZM .nilp k
        | .rs id v=>(h id).bind fun
          | .row _ t xs _ u=>bif Nat.beq u v then(bif xs.isEmpty then none else ZM (.rptr id v 0 (tsz X.T t) 0) k)else none
          | _=>none
        | _=>none
      | _=>none)
    | .builtin .unsafeString=>(match c.args.toList,c.argTypes.toList with
      | [x,n],[t,_]=>(ZO ρ x).bind fun x=>(ZO ρ n).bind fun n=>(X.E.ty t).bind fun ti=>(match x,n,ti.k with
        | .nilp,.int .i64 n,.ptr _=>bif n==0 then ZM (.str .empty) k else none
        | .rptr id v 0 1 0,.int .i64 n,.ptr e=>(h id).bind fun
          | .row e' t xs _ u=>bif Nat.beq u v&&Nat.beq e e' then(if q:t=.int .u8 then(bif n==(xs.length:Nat)&&Nat.blt 0 xs.length&&Nat.ble xs.length 200000000000000&&Z9m (q▸xs:List (Val S (.int .u8)))then
              k ⟨some (.str (Zfi (q▸xs:List (Val S (.int .u8))))),[(id,none)]⟩else none)else none)else none
          | _=>none
        | _,_,_=>none)
      | _,_=>none)
    | .builtin .min=>(Z2Z ρ c.args.toList).bind fun vs=>(match vs with|x::xs=>(ZdJ Zj0 x xs).bind fun v=>ZM v k|[]=>none)
    | .builtin .max=>(Z2Z ρ c.args.toList).bind fun vs=>(match vs with|x::xs=>(ZdJ ZiY x xs).bind fun v=>ZM v k|[]=>none)
    | _=>none
  | _=>none
def Zdb (E:Env) (ρ:Nat->Option (TV S)) (c:Call):Option (TV S×List (TV S)) :=
 match c.callee with
 | .value f=>(ZO ρ f).bind fun
  | .fn (.func g) first caps=>(Z2Z ρ c.args.toList).bind fun as=>some (.fn (.func g) [] [],first++as++caps)
  | .yld id=>(Z2Z ρ c.args.toList).bind fun as=>some (.yld id,as)
  | _=>none
 | .invoke r m=>(ZO ρ r).bind fun
  | .iface t v=>(E.ty t).bind fun ti=>(Z8e m ti.meths).bind fun g=>(Z2Z ρ c.args.toList).bind fun as=>some (.fn (.func g) [] [],v::as)
  | _=>none
 | _=>none
def ZgV (E:Env):TV S×List (TV S)->Bool
 | (.fn (.func g) _ _,_)=>match E.fn g with
  | some F=>F.pur
  | none=>false
 | _=>false
structure Z3v (S:Nat->Type) (R:Type) where
 fn:Nat->List (TV S)->(TV S->Option R)->Option R
 /-- calls on the heap whose numbers begin just above those that they can see -/
 pr:Nat->List (TV S)->Tr (Zi S)->Nat->(TV S->Tr (Zi S)->Nat->Option R)->Option R
def ZdQ (E:Env) (h:Nat->Option (Zi S)):TV S->Option (TV S)
 | .rv id v i n e=>(h id).bind fun
  | .row t te xs _ u=>bif Nat.beq u v&&Nat.beq (match E.ty t with|some ti=>ti.size|none=>0) e then some (.sl te ((xs.drop i).take n))else none
  | _=>none
 | d=>YE h d
def Z85 (E:Env) (h:Nat->Option (Zi S)):List (TV S)->Option (List (TV S))
 | []=>some []
 | d::ds=>(ZdQ E h d).bind fun c=>(Z85 E h ds).bind fun cs=>some (c::cs)
def ZkN (E:Env) (cs:Z3v S R) (h:Nat->Option (Zi S)) (tgt:TV S×List (TV S)) (k:Z1Z S R):Option R:=match tgt with
 | (.fn (.func g) _ _,as)=>(Z85 E h as).bind fun fs=>cs.fn g fs fun r=>bif as.any ZgI then(Zhg r).bind fun r=>ZM r k else k ⟨some r,Z6v h (Yq as)⟩
 | _=>none
def ZbX (X:Y2 S) (cs:Z3v S R) (nid:Nat) (ρ:Nat->Option (TV S)) (h:Nat->Option (Zi S)) (op:Op) (k:Z1Z S R) (ki:TV S×List (TV S)->Option R):Option R :=
 match Z3C op with
 | none=>opK X nid ρ h op k
 | some c=>(Zdb X.E ρ c).bind fun tgt=>bif ZgV X.E tgt then ZkN X.E cs h tgt k else ki tgt
structure StT (S:Nat->Type) where
 base:Tr (TV S)
 objs:Tr (Zi S)
 next:Nat
structure Z1B (S:Nat->Type) where
 base:Tr (TV S)
 loc:List (Nat×Option (TV S))
 objs:Tr (Zi S)
 next:Nat
def Z9Z (l:List (Nat×Option (TV S))) (t:Nat):Option (Option (TV S)):=match l with
 | []=>none
 | (s,v)::l=>bif Nat.beq s t then some v else Z9Z l t
def Z14 (V:Nat) (base:Tr (TV S)) (loc:List (Nat×Option (TV S))) (t:Nat):Option (TV S) :=
 bif Nat.testBit V t then base.get t else(match Z9Z loc t with|some v=>v|none=>none)
def Z4A (o:Tr (Zi S)):List (Nat×Option (Zi S))->Tr (Zi S)
 | []=>o
 | (i,x)::us=>Z4A (o.set i x) us
def Z1B.put (V nt:Nat) (m:Z1B S) (dst:Option Tmp) (v:Option (TV S)):Z1B S :=
 match dst with
 | none=>m
 | some d=>bif !Nat.blt d nt then m else bif Nat.testBit V d then { m with base:=m.base.set d v }else { m with loc:=(d,v)::m.loc }
def knF (kn:List (Nat×Bool)) (t:Nat):Option Bool:=match kn with
 | []=>none
 | (s,b)::l=>bif Nat.beq s t then some b else knF l t
def Z5w (kn:List (Nat×Bool)) (dst:Option Tmp):List (Nat×Bool):=match dst with
 | none=>kn
 | some d=>kn.filter fun p => !Nat.beq p.1 d
def ovK (kn:List (Nat×Bool)) (t:Nat) (v:Option (TV S)):Option (TV S):=match kn with
 | []=>v
 | _=>match v with
  | some (.bool b)=>(match knF kn t with|some b0=>some (.bool b0)|none=>some (.bool b))
  | v=>v
def Zhf (ops:Array Oper) (ρ:Nat->Option (TV S)) (o:Oper) (kn:List (Nat×Bool)) (f:Bool->List (Nat×Bool)->Option R):Option R :=
 match o.guard with
 | none=>f true kn
 | some (j,want)=>match(ops[j]?).bind (·.dst)with
  | some t=>(match ρ t with
   | some (.bool b)=>bif b then f (true==want) ((t,true)::kn)else f (false==want) ((t,false)::kn)
   | some _=>f false kn
   | none=>none)
  | none=>none
abbrev Z1m (S:Nat->Type) (R:Type):=List Nat->Nat->List (TV S)->Tr (Zi S)->Nat->(TV S->Tr (Zi S)->Nat->Option R)->Option R
section strict
variable {α β:Type}
def sN (n:Nat) (k:Nat->α):α:=match n with
 | 0=>k 0
 | m+1=>k (m+1)
mutual
def sV:TV S->(TV S->α)->α
 | .ptr i o,k=>sN i fun i=>sN o fun o=>k (.ptr i o)
 | .ap i b j e o,k=>sN i fun i=>sN b fun b=>sN e fun e=>sN o fun o=>k (.ap i b j e o)
 | .rptr i v j e o,k=>sN i fun i=>sN v fun v=>sN e fun e=>sN o fun o=>k (.rptr i v j e o)
 | .pub cs,k=>sVs cs fun cs=>k (.pub cs)
 | .rs i v,k=>sN i fun i=>sN v fun v=>k (.rs i v)
 | .rv i v j n e,k=>sN i fun i=>sN v fun v=>k (.rv i v j n e)
 | .slen n,k=>k (.slen n)
 | .agg cs,k=>sVs cs fun cs=>k (.agg cs)
 | .tup cs,k=>sVs cs fun cs=>k (.tup cs)
 | .fn f a c,k=>sVs a fun a=>sVs c fun c=>k (.fn f a c)
 | .map i,k=>sN i fun i=>k (.map i)
 | .iface t v,k=>sV v fun v=>k (.iface t v)
 | .iter i,k=>sN i fun i=>k (.iter i)
 | .yld i,k=>sN i fun i=>k (.yld i)
 | .nop i,k=>sN i fun i=>k (.nop i)
 | .bool b,k=>k (.bool b)
 | .int d n,k=>k (.int d n)
 | .str b,k=>k (.str b)
 | .nilp,k=>k .nilp
 | .nils,k=>k .nils
 | .sl0,k=>k .sl0
 | .sl t xs,k=>k (.sl t xs)
 | .arr t n a,k=>k (.arr t n a)
 | .stc i x,k=>k (.stc i x)
 | .earr ts p n a,k=>sN p fun p=>k (.earr ts p n a)
 | .narr ts n,k=>k (.narr ts n)
 | .nilfn,k=>k .nilfn
 | .nilmap,k=>k .nilmap
 | .nilif,k=>k .nilif
def sVs:List (TV S)->(List (TV S)->α)->α
 | [],k=>k []
 | c::cs,k=>sV c fun c=>sVs cs fun cs=>k (c::cs)
end
def sNs:List Nat->(List Nat->α)->α
 | [],k=>k []
 | i::is,k=>sN i fun i=>sNs is fun is=>k (i::is)
def sTr (f:β->(β->α)->α):Tr β->(Tr β->α)->α
 | .leaf,k=>k .leaf
 | .node l v r,k=>sTr f l fun l=>(match v with
  | none=>sTr f r fun r=>k (.node l none r)
  | some x=>f x fun x=>sTr f r fun r=>k (.node l (some x) r))
def sO:Zi S->(Zi S->α)->α
 | .cells t cs,k=>sVs cs fun cs=>k (.cells t cs)
 | .row e t xs p v,k=>sN v fun v=>k (.row e t xs p v)
 | .map a b m,k=>k (.map a b m)
 | .siter s p,k=>k (.siter s p)
 | .mit m n,k=>sN m fun m=>k (.mit m n)
 | .bag e t xs v,k=>sN v fun v=>k (.bag e t xs v)
 | .loop f b ps as bo bid ex pa po,k=>sTr sV b fun b=>k (.loop f b ps as bo bid ex pa po)
def sSt (s:StT S) (k:StT S->α):α:=sTr sV s.base fun b=>sTr sO s.objs fun o=>sN s.next fun n=>k ⟨b,o,n⟩
end strict
mutual
def Z27:TV S->List Nat
 | .ptr i _ | .ap i _ _ _ _ | .rptr i _ _ _ _ | .rs i _ | .rv i _ _ _ _ | .map i | .iter i | .yld i | .nop i=>[i]
 | .agg cs=>Z36 cs
 | .tup cs=>Z36 cs
 | .fn _ a b=>Z36 a++Z36 b
 | _=>[]
def Z36:List (TV S)->List Nat
 | []=>[]
 | c::cs=>Z27 c++Z36 cs
end
def Zjo:Zi S->List Nat
 | .cells _ cs=>Z36 cs
 | .loop _ b _ _ _ _ _ _ _=>(b.ents 1 0).flatMap fun p=>Z27 p.2
 | .mit m _=>[m]
 | _=>[]
def Z2l (h:Nat->Option (Zi S)):Nat->List Nat->List Nat->List Nat
 | 0,_,acc=>acc
 | _+1,[],acc=>acc
 | n+1,i::todo,acc=>bif acc.any (Nat.beq i)then Z2l h n todo acc else match h i with
  | some o=>Z2l h n (Zjo o++todo) (i::acc)
  | none=>Z2l h n todo acc
def Z8z (h:Nat->Option (Zi S)):List Nat->Tr (Zi S)
 | []=>.leaf
 | i::is=>(Z8z h is).set i (h i)
def Zce (o:Tr (Zi S)) (R:List Nat) (nx:Nat):List (Nat×Option (Zi S)):=(R++((o.ents 1 0).map (·.1)).filter (Nat.ble nx)).map fun i=>(i,o.get i)
def Z34 (h:Nat->Option (Zi S)):TV S->TV S
 | .rs id v=>(match h id with
  | some (.row _ t xs p u)=>bif Nat.beq p 1&&Nat.beq u v then .sl t xs else .rs id v
  | _=>.rs id v)
 | d=>d
def Z6j (h:Nat->Option (Zi S)):TV S->TV S
 | .agg cs=>.agg (cs.map (Z34 h))
 | d=>Z34 h d
def ZjW (run:Tr (Zi S)->(TV S->Tr (Zi S)->Nat->Option R)->Option R) (h:Nat->Option (Zi S)) (nx:Nat) (is Rs:List Nat) (k:Zb2 S->List Nat->Nat->Option R):Option R :=
 sNs Rs fun Rs=>sTr sO (Z8z h Rs) fun o=>run o fun v o n=>bif Nat.ble nx n then k ⟨some v,Zce o Rs nx⟩ (is++Rs) n else none
def Z78 (callH callY:Z1m S R) (path:List Nat) (h:Nat->Option (Zi S)) (nx:Nat) (tgt:TV S×List (TV S)) (k:Zb2 S->List Nat->Nat->Option R):Option R:=match tgt with
 | (.fn (.func g) _ _,as)=>sVs (as.map (Z6j h)) fun fs=>ZjW (fun o k=>callH path g fs o nx k) h nx (Yq as) (Z2l h 4096 (Z36 fs) []) k
 | (.yld id,as)=>sVs (as.map (Z6j h)) fun fs=>ZjW (fun o k=>callY path id fs o nx k) h nx (Yq as) (Z2l h 4096 (id::Z36 fs) []) k
 | _=>none
def Z92 (d:TV S):TV S:=.tup [.nilfn,.tup [d],.slen 0]
def Z10:TV S->Option (TV S)
 | .tup [.nilfn,.tup [d],.slen _]=>some d
 | _=>none
def Zku (ρ:Nat->Option (TV S)):Op->Option (TV S)
 | .panic x=>(match ZO ρ x with
  | some (.iface t v)=>some (.iface t v)
  | _=>none)
 | _=>none
def Zg9 (X:Y2 S) (cs:Z3v S R) (callH callY:Z1m S R) (path:List Nat) (V nt:Nat) (ops:Array Oper) (b:Nat):Nat->List Oper->List (Nat×Bool)->Z1B S->(Option (TV S)->Z1B S->Option R)->Option R
 | _,[],_,m,kk=>kk none m
 | k,o::os,kn,m,kk =>
  Zhf ops (fun t=>ovK kn t (Z14 V m.base m.loc t)) o kn fun want kn=>bif want then
   (match Zku (fun t=>ovK kn t (Z14 V m.base m.loc t)) o.op with
   | some d=>kk (some d) m
   | none=>ZbX X cs (b+k) (fun t=>ovK kn t (Z14 V m.base m.loc t)) m.objs.get o.op
    (fun r=>Zg9 X cs callH callY path V nt ops b (k+1) os (Z5w kn o.dst) ({ m with objs:=Z4A m.objs r.upd }.put V nt o.dst r.val) kk)
    (fun tgt=>Z78 callH callY (k::path) m.objs.get m.next tgt fun x _ n=>(match x.val.bind Z10 with
     | some d=>kk (some d) { m with objs:=Z4A m.objs x.upd,next:=n }
     | none=>Zg9 X cs callH callY path V nt ops b (k+1) os (Z5w kn o.dst) ({ m with objs:=Z4A m.objs x.upd,next:=n }.put V nt o.dst x.val) kk)))
  else Zg9 X cs callH callY path V nt ops b (k+1) os (Z5w kn o.dst) (m.put V nt o.dst (some (.tup []))) kk
structure Z1p (S:Nat->Type) where
 dst:Option Tmp
 anc:Nat
 touch:List Nat
 out:Zb2 S
 new:Option (Nat×Nat)
def ZaT (ρ:Nat->Option (TV S)) (op:Op):List Nat:=op.operands.toList.flatMap fun x=>match ZO ρ x with|some d=>Z2a d|none=>[]
def Z43 (anc:Nat) (ρ:Nat->Option (TV S)):List (Nat×Z1p S)->Nat->Option (TV S)
 | [],t=>ρ t
 | (j,d)::ds,t=>bif(match d.dst with|some s=>Nat.beq s t|none=>false)then(bif Nat.testBit anc j then d.out.val else none)else Z43 anc ρ ds t
def Z3V (id:Nat):List (Nat×Option (Zi S))->Option (Option (Zi S))
 | []=>none
 | (i,x)::us=>match Z3V id us with
  | some y=>some y
  | none=>bif Nat.beq i id then some x else none
def Z53 (anc:Nat) (h:Nat->Option (Zi S)):List (Nat×Z1p S)->Nat->Option (Zi S)
 | [],id=>h id
 | (j,d)::ds,id=>match Z3V id d.out.upd with
  | some x=>bif Nat.testBit anc j then x else none
  | none=>Z53 anc h ds id
def Z5i (ops:Array Oper) (ds:List (Nat×Z1p S)) (o:Oper) (k:Nat):Nat :=
 o.after.toList.foldl (fun m e=>bif Region.binds .any e&&Nat.blt e.on k then m ||| (1 <<< e.on) ||| ((ds.find? (fun d=>Nat.beq d.1 e.on)).map (·.2.anc)).getD 0 else m) 0
def Z4X (V nt:Nat):List (Nat×Z1p S)->Z1B S->Z1B S
 | [],m=>m
 | (_,d)::ds,m=>let m:=Z4X V nt ds m;{ m with objs:=Z4A m.objs d.out.upd }.put V nt d.dst d.out.val
def Z9O (X:Y2 S) (cs:Z3v S R) (callH callY:Z1m S R) (path:List Nat) (V nt:Nat) (ops:Array Oper) (b:Nat):Nat->List Oper->List (Nat×Bool)->Z1B S->List (Nat×Z1p S)->(Z1B S->Option R)->Option R
 | _,[],_,m,ds,kk=>kk (Z4X V nt ds m)
 | k,o::os,kn,m,ds,kk =>
  let anc:=Z5i ops ds o k
  let ρ0:=Z43 anc (Z14 V m.base m.loc) ds
  let h:=Z53 anc m.objs.get ds
  bif o.after.all (fun e => !Region.binds .any e||Nat.blt e.on k)&&(match o.dst with|none=>true|some t=>Nat.blt t nt)&&ds.all (fun d=>Nat.testBit anc d.1||(match o.dst with
    | none=>true
    | some t => !((ops.getD d.1 o).looksAt ops).contains t && !(match d.2.dst with|some s=>Nat.beq s t|none=>false)))then
   Zhf ops (fun t=>ovK kn t (ρ0 t)) o kn fun want kn =>
    let ρ:=fun t=>ovK kn t (ρ0 t)
    bif want then
     ZbX X cs (b+k) ρ h o.op
      (fun r=>bif r.upd.all (fun u=>ds.all (fun d=>Nat.testBit anc d.1 || !d.2.touch.contains u.1&&(Z3V u.1 d.2.out.upd).isNone))then
       Z9O X cs callH callY path V nt ops b (k+1) os (Z5w kn o.dst) m ((k,⟨o.dst,anc,ZaT ρ o.op,r,none⟩)::ds) kk
      else none)
      (fun tgt=>Z78 callH callY (k::path) h m.next tgt fun x T n =>
       bif ds.all (fun d=>Nat.testBit anc d.1||d.2.new.isNone&&x.upd.all (fun u => !d.2.touch.contains u.1&&(Z3V u.1 d.2.out.upd).isNone))&&(x.val.bind Z10).isNone then
        Z9O X cs callH callY path V nt ops b (k+1) os (Z5w kn o.dst) { m with next:=n } ((k,⟨o.dst,anc,T,x,some (m.next,n)⟩)::ds) kk
       else none)
    else Z9O X cs callH callY path V nt ops b (k+1) os (Z5w kn o.dst) m ((k,⟨o.dst,anc,[],⟨some (.tup []),[]⟩,none⟩)::ds) kk
  else none
def ZcP (X:Y2 S) (cs:Z3v S R) (callH callY:Z1m S R) (path:List Nat) (V nt:Nat) (ops:Array Oper) (draw:Bool) (s:StT S) (kk:Option (TV S)->StT S->Option R):Option R :=
 bif draw then Z9O X cs callH callY path V nt ops s.next 0 ops.toList [] ⟨s.base,[],s.objs,s.next+ops.size⟩ [] fun m=>sSt ⟨m.base,m.objs,m.next⟩ (kk none)
 else Zg9 X cs callH callY path V nt ops s.next 0 ops.toList [] ⟨s.base,[],s.objs,s.next+ops.size⟩ fun pd m=>sSt ⟨m.base,m.objs,m.next⟩ (kk pd)
def Zlz:TV S->Bool
 | .arr _ _ _ | .stc _ _=>true
 | _=>false
def Zcb (T:TS S) (cs:List (TV S)) (off:Nat):Option (Option (TV S)):=(Z9P T cs off).bind fun
 | []=>some none
 | c::_=>bif ZT c then(bif Zlz c&&Nat.blt 0 (wd T c)then some (some (.bool false))else none)else some (some c)
def ZjL (T:TS S) (o:Tr (Zi S)) (b0:Tr (TV S)):Acc->Option (Option (Nat×Nat))
 | .slot t _=>(match b0.get t with
  | some (.rs id v)=>some (some (id,v))
  | _=>some none)
 | .cell t off _=>(match b0.get t with
  | some (.ptr q 0)=>(match o.get q with
   | some (.cells _ cs)=>(Zcb T cs off).bind fun
    | some (.rs id v)=>some (some (id,v))
    | _=>some none
   | _=>some none)
  | some (.ap _ _ _ _ _)=>none
  | _=>some none)
def Zgq (T:TS S) (o:Tr (Zi S)) (b0:Tr (TV S)):List Acc->Option (List (Option (Nat×Nat)))
 | []=>some []
 | a::as=>(ZjL T o b0 a).bind fun x=>(Zgq T o b0 as).bind fun xs=>some (x::xs)
mutual
def Z3e (n0:Nat) (L:List (Option (Nat×Nat))):TV S->Option (TV S)
 | .rs id v=>match Z6i id v 0 L with
  | some j=>some (.rs (n0+j) 0)
  | none=>bif Nat.blt id n0 && !Z3G id L then some (.rs id v)else none
 | .agg cs=>(Z95 n0 L cs).bind fun cs=>some (.agg cs)
 | .tup cs=>(Z95 n0 L cs).bind fun cs=>some (.tup cs)
 | d=>bif Zb3 n0 d then some d else none
def Z95 (n0:Nat) (L:List (Option (Nat×Nat))):List (TV S)->Option (List (TV S))
 | []=>some []
 | c::cs=>(Z3e n0 L c).bind fun c=>(Z95 n0 L cs).bind fun cs=>some (c::cs)
end
def Z94 (n0:Nat) (L:List (Option (Nat×Nat))):Zi S->Option (Zi S)
 | .cells t cs=>(Z95 n0 L cs).bind fun cs=>some (.cells t cs)
 | .loop fid b ps as bo bid ex pa po=>(b.tm (fun _ d=>(Z3e n0 L d).bind fun d=>some (some d)) 1 0).bind fun b=>some (.loop fid b ps as bo bid ex pa po)
 | .mit m n=>bif Nat.blt m n0 then some (.mit m n)else none
 | o=>some o
def Z4d (o:Tr (Zi S)) (n0:Nat):Nat->List (Option (Nat×Nat))->Tr (Zi S)->Option (Tr (Zi S))
 | _,[],no=>some no
 | j,none::l,no=>Z4d o n0 (j+1) l no
 | j,some (id,v)::l,no=>(match o.get id with
  | some (.row e t es p u)=>bif Nat.beq u v then Z4d o n0 (j+1) l (no.set (n0+j) (some (.row e t es p 0)))else none
  | _=>none)
def Z13 (X:Y2 S) (n0:Nat):Nat->List Acc->Tr (TV S)×Tr (Zi S)->Option (Tr (TV S)×Tr (Zi S))
 | _,[],r=>some r
 | j,.slot t e::as,(b,no)=>(match b.get t with
  | some .nils=>(X.E.ty e).bind fun ei=>(X.code e).bind fun te=>bif Nat.blt 0 ei.size&&(no.get (n0+j)).isNone then Z13 X n0 (j+1) as (b.set t (some (.rs (n0+j) 0)),no.set (n0+j) (some (.row e te [] 0 0)))else none
  | _=>Z13 X n0 (j+1) as (b,no))
 | j,.cell t off e::as,(b,no)=>(match b.get t with
  | some (.ptr q 0)=>(match no.get q with
   | some (.cells ct cs)=>(Zcb X.T cs off).bind fun
    | some .nils=>(X.E.ty e).bind fun ei=>(X.code e).bind fun te=>(Z3k X.T cs off [.rs (n0+j) 0]).bind fun cs=>bif Nat.blt 0 ei.size&&(no.get (n0+j)).isNone then Z13 X n0 (j+1) as (b,(no.set q (some (.cells ct cs))).set (n0+j) (some (.row e te [] 0 0)))else none
    | _=>Z13 X n0 (j+1) as (b,no)
   | _=>Z13 X n0 (j+1) as (b,no))
  | some (.ap _ _ _ _ _)=>none
  | _=>Z13 X n0 (j+1) as (b,no))
mutual
def YM:TV S->List (Nat×Nat)
 | .rs id v=>[(id,v)]
 | .agg cs=>Z30 cs
 | .tup cs=>Z30 cs
 | .fn _ a b=>Z30 a++Z30 b
 | .iface _ v=>YM v
 | _=>[]
def Z30:List (TV S)->List (Nat×Nat)
 | []=>[]
 | c::cs=>YM c++Z30 cs
end
def Zg1:Zi S->List (Nat×Nat)
 | .cells _ cs=>Z30 cs
 | .loop _ b _ _ _ _ _ _ _=>(b.ents 1 0).flatMap fun p=>YM p.2
 | _=>[]
def Zd1 (o:Nat->Option (Zi S)) (p:Nat×Nat):Bool:=match o p.1 with
 | some (.row _ _ _ _ u)=>Nat.beq u p.2
 | _=>false
def Zcn (o:Tr (Zi S)) (b:Tr (TV S)) (n0 keep:Nat) (A:List (Option (Nat×Nat))):List (Nat×Nat) :=
 Z9l (Zd1 o.get) A (((o.ents 1 0).flatMap fun p=>bif Nat.blt p.1 n0 then Zg1 p.2 else [])++((b.ents 1 0).flatMap fun p=>bif Nat.testBit keep p.1 then YM p.2 else [])) []
def ZfJ (X:Y2 S) (hint:Z4b) (n0:Nat) (s:StT S):Option (StT S) :=
 (Zgq X.T s.objs s.base hint.accs).bind fun A =>
 let XL:=Zcn s.objs s.base n0 hint.keep A
 let L:=XL.map some++A
 bif ZeZ L then
  (s.base.tm (fun t d=>bif Nat.testBit hint.keep t then(Z3e n0 L d).bind fun d=>some (some d)else some none) 1 0).bind fun b =>
  (s.objs.tm (fun i x=>bif Nat.blt i n0 && !Z3G i L then(Z94 n0 L x).bind fun x=>some (some x)else some none) 1 0).bind fun o =>
  (Z4d s.objs n0 0 L o).bind fun o=>(Z13 X n0 XL.length hint.accs (b,o)).bind fun r=>some ⟨r.1,r.2,n0+XL.length+hint.accs.length⟩
 else none
def ZgQ (X:Y2 S) (hint:Z4b) (n0:Nat) (s:StT S):Option (StT S) :=
 (ZfJ X hint n0 s).bind fun s=>some (bif hint.raw then s else { s with objs:=s.objs.mapv ZiT })
def ZdX (rnd:Option Nat) (h:Nat->Option (Zi S)):Bool:=match rnd with
 | none=>true
 | some l=>(match h l with|some (.loop ..)=>true|_=>false)
def StT.keep (m:Nat) (s:StT S):StT S:={ s with base:=s.base.filt m 1 0 }
def StT.keepX (F:FI) (id:Nat) (s:StT S):StT S:=match F.xm.find? fun p=>Nat.beq p.1 id with
 | some p=>s.keep p.2
 | none=>s
def Code.kid:Code->Nat->Option Code
 | .seq x _,0=>some x
 | .seq _ y,1=>some y
 | .cond _ x _,0=>some x
 | .cond _ _ y,1=>some y
 | .block _ c,0=>some c
 | .loop c,0=>some c
 | .scope c,0=>some c
 | .rangeFunc _ _ a _,0=>some a
 | .rangeFunc _ _ _ b,1=>some b
 | _,_=>none
def Code.sub (c:Code):List Nat->Option Code
 | []=>some c
 | i::p=>(Code.sub c p).bind fun d=>Code.kid d i
structure Key where
 path:List Nat
 fid:Nat
 rnd:Option Nat
 pos:List Nat
 bid:Nat
 n0:Nat
abbrev Z1J (S:Nat->Type) (R:Type):=Key->StT S->(Ex->StT S->Option R)->Option R
def Zdw:List Nat->Tr (TV S)->Tr (TV S)
 | [],b=>b
 | t::ts,b=>Zdw ts (b.set t none)
def ZiR:(kt et:Ty)->List (Val S kt×Val S et)->Option (List Int)
 | .int .i64,_,m=>some (m.map fun p=>p.1)
 | _,_,_=>none
def Zcz (X:Y2 S) (F:FI) (bid:Nat) (p:Nat×Nat×TypeId×Nat) (c:Code) (s:StT S) (kk:Ex->StT S->Option R):Option R:=match s.base.get p.1,s.base.get p.2.1 with
 | some (.iter k),some .nils=>(match s.objs.get k with
  | some (.mit m n)=>(match s.objs.get m with
   | some (.map kt et es)=>(ZcA F.nt p.1 p.2.1 c).bind fun q=>(X.E.ty q.2.2).bind fun ti=>(match ti.k with
    | .slice e=>(X.E.ty e).bind fun ei=>(match ei.k with
     | .int .i64=>(ZiR kt et es).bind fun l=>bif Nat.beq e p.2.2.1&&Nat.beq q.1 bid&&Nat.beq es.length n&&Nat.ble n 100000&&Nat.beq ei.size 1&&Nat.ble ei.bytes 1000&&Nat.testBit F.vmask p.2.1 then
       bif Nat.beq n 0 then kk (.exit bid) ((⟨(Zdw (p.2.1::q.2.1) s.base).set p.2.1 (some .nils),s.objs.set k none,s.next+2⟩:StT S).keepX F bid)
        else kk (.exit bid) ((⟨(Zdw (p.2.1::q.2.1) s.base).set p.2.1 (some (.rs (s.next+1) 0)),(s.objs.set k none).set (s.next+1) (some (.bag e (.int .i64) l 0)),s.next+2⟩:StT S).keepX F bid)
      else none
     | _=>none)
    | _=>none)
   | _=>none)
  | _=>none)
 | _,_=>none
def Z8l (s:StT S) (t id:Nat):StT S:=match s.objs.get id with
 | some (.cells _ cs)=>bif Yg cs then { s with base:=s.base.set t (some (.pub cs)),objs:=s.objs.set id none }else s
 | _=>s
def Z5G (s:StT S) (t:Nat):StT S:=match s.base.get t with
 | some (.ptr id o)=>bif Nat.beq o 0 then Z8l s t id else s
 | some (.ap id b i e o)=>bif Nat.beq (b+i*e+o) 0 then Z8l s t id else s
 | _=>s
def Z67 (rid:Nat):List (Nat×Nat)->StT S->StT S
 | [],s=>s
 | (r,t)::ps,s=>Z67 rid ps (bif Nat.beq r rid then Z5G s t else s)
def StT.pan (F:FI) (d:TV S) (s:StT S):StT S:={ s with base:=(s.base.filt F.pm 1 0).set F.nt (some d) }
def YX (X:Y2 S) (cs:Z3v S R) (ls:Z1J S R) (rnd:Option Nat) (fid:Nat) (F:FI) (callH callY:Z1m S R) (path:List Nat):List Nat->Nat->Code->StT S->(Ex->StT S->Option R)->Option R
 | _,_,.skip,s,k=>k .normal s
 | _,_,.region id ops draw,s,k=>ZcP X cs callH callY (id::path) F.vmask F.nt ops draw (Z67 id F.pubs s) fun pd s=>(match pd with
  | none=>k .normal s
  | some d=>k .pan (s.pan F d))
 | pos,bid,.seq x y,s,k=>YX X cs ls rnd fid F callH callY path (0::pos) bid x s fun ex s=>match ex with
  | .normal=>YX X cs ls rnd fid F callH callY path (1::pos) bid y s k
  | _=>k ex s
 | pos,bid,.cond c x y,s,k=>(match ZO s.base.get c with
  | some (.bool t)=>bif t then YX X cs ls rnd fid F callH callY path (0::pos) bid x s k else YX X cs ls rnd fid F callH callY path (1::pos) bid y s k
  | _=>none)
 | pos,_,.block id c,s,k=>YX X cs ls rnd fid F callH callY path (0::pos) id c s fun ex s=>match ex with
  | .exit i=>bif Nat.beq i id then k .normal s else k ex s
  | _=>k ex s
 | pos,bid,.loop c,s,k=>match(F.mrs.find? fun p=>Nat.beq p.1 bid:Option (Nat×Nat×Nat×TypeId×Nat))with
  | some p=>Zcz X F bid p.2 c s k
  | none=>(F.hints.find? fun h=>Nat.beq h.bid bid).bind fun hint=>(ZgQ X hint s.next s).bind fun s1=>ls ⟨path,fid,rnd,0::pos,bid,s.next⟩ s1 k
 | _,_,.exit id,s,k=>k (.exit id) (s.keepX F id)
 | pos,bid,.scope c,s,k=>YX X cs ls rnd fid F callH callY path (0::pos) bid c s k
 | _,_,.label _,s,k=>k .normal s
 | _,_,.ret,s,k=>k .ret (s.keep F.rm)
 | pos,bid,.rangeFunc f ps assign body,s0,k=>bif ZdX rnd s0.objs.get then Option.bind (match(F.hints.find? fun h=>Nat.beq h.bid bid:Option Z4b)with
   | some hint=>(Z13 X s0.next 0 hint.accs (s0.base,s0.objs)).bind fun r=>some (StT.mk r.1 r.2 (s0.next+hint.accs.length))
   | none=>some s0) fun(s:StT S)=>(ZO s.base.get f).bind fun fv=>(match fv with
  | .fn (.func g) first caps =>
   callH (bid::path) g (first++[.yld s.next]++caps) (s.objs.set s.next (some (.loop fid s.base ps.toList assign body bid .normal (bid::path) pos))) (s.next+1) fun v objs next =>
    (match Z10 v with
    | some d=>k .pan (StT.pan F d { s with objs:=objs.set s.next none,next:=next })
    | none=>(match objs.get s.next with
     | some (.loop _ _ _ _ _ _ ex _ _)=>(match ex with | .busy=>none | .pan=>none|_=>k ex { s with objs:=objs.set s.next none,next:=next })
     | _=>none))
  | _=>none)else none
 | _,_,_,_,_=>none
def Z9i (X:Y2 S) (base:Nat->Option (TV S)) (h:Nat->Option (Zi S)) (rs:List ResultVar) (k:List (TV S)->Option R):Option R:=match rs with
 | []=>k []
 | .tmp t::rs=>(base t).bind fun v=>Z9i X base h rs fun vs=>k (v::vs)
 | .cell a t::rs=>(X.E.ty t).bind fun ti=>(base a).bind fun a=>ZgN X ti h a fun o=>o.val.bind fun v=>Z9i X base h rs fun vs=>k (v::vs)
def Z1t:List (TV S)->TV S
 | [v]=>v
 | vs=>.tup vs
def Yf (V:Nat):Nat->List (TV S)->Tr (TV S)->Tr (TV S)
 | _,[],b=>b
 | k,v::vs,b=>Yf V (k+1) vs (bif Nat.testBit V k then b.set k (some v)else b)
def Z1I (V nt:Nat):List Nat->List (TV S)->Tr (TV S)->Option (Tr (TV S))
 | [],[],b=>some b
 | p::ps,v::vs,b=>bif Nat.blt p nt then Z1I V nt ps vs (bif Nat.testBit V p then b.set p (some v)else b)else none
 | _,_,_=>none
mutual
def rnT (f:Nat->Nat):TV S->TV S
 | .ptr i o=>.ptr (f i) o
 | .ap i b j e o=>.ap (f i) b j e o
 | .rptr i v j e o=>.rptr (f i) v j e o
 | .rs i v=>.rs (f i) v
 | .rv i v j n e=>.rv (f i) v j n e
 | .slen n=>.slen n
 | .agg cs=>.agg (Z7H f cs)
 | .tup cs=>.tup (Z7H f cs)
 | .fn g a c=>.fn g (Z7H f a) (Z7H f c)
 | .map i=>.map (f i)
 | .iface t v=>.iface t (rnT f v)
 | .iter i=>.iter (f i)
 | .yld i=>.yld (f i)
 | .nop i=>.nop (f i)
 | .earr ts p n a=>.earr ts (f p) n a
 | .narr ts n=>.narr ts n
 | .bool b=>.bool b
 | .int k n=>.int k n
 | .str s=>.str s
 | .nilp=>.nilp
 | .pub cs=>.pub cs
 | .nils=>.nils
 | .sl0=>.sl0
 | .sl t xs=>.sl t xs
 | .arr t n a=>.arr t n a
 | .stc i x=>.stc i x
 | .nilfn=>.nilfn
 | .nilmap=>.nilmap
 | .nilif=>.nilif
def Z7H (f:Nat->Nat):List (TV S)->List (TV S)
 | []=>[]
 | c::cs=>rnT f c::Z7H f cs
end
mutual
def ZcC (p:Nat->Bool):TV S->Bool
 | .ptr i _ | .ap i _ _ _ _ | .rptr i _ _ _ _ | .rs i _ | .rv i _ _ _ _ | .map i | .iter i | .yld i | .nop i=>p i
 | .agg cs=>Z5B p cs
 | .tup cs=>Z5B p cs
 | .fn _ a b=>Z5B p a&&Z5B p b
 | .iface _ v=>ZcC p v
 | .earr _ i _ _=>p i
 | _=>true
def Z5B (p:Nat->Bool):List (TV S)->Bool
 | []=>true
 | c::cs=>ZcC p c&&Z5B p cs
end
def Zg4 (f:Nat->Nat):Zi S->Zi S
 | .cells t cs=>.cells t (Z7H f cs)
 | .loop fid b ps as bo bid ex pa po=>.loop fid (b.mapv (rnT f)) ps as bo bid ex pa po
 | .row e t xs p u=>.row e t xs p u
 | .map k e m=>.map k e m
 | .siter s pos=>.siter s pos
 | .mit m n=>.mit (f m) n
 | .bag e t xs u=>.bag e t xs u
def ZlI (p:Nat->Bool):Zi S->Bool
 | .cells _ cs=>Z5B p cs
 | .loop _ b _ _ _ _ _ _ _=>b.allV (ZcC p)
 | .mit m _=>p m
 | _=>true
def Zj9 (p:Nat->Bool) (h:Nat->Option (Zi S)):List Nat->Bool
 | []=>true
 | i::is=>(match h i with|some o=>ZlI p o|none=>true)&&Zj9 p h is
def Z6r (f:Nat->Nat) (h:Nat->Option (Zi S)):List Nat->Tr (Zi S)
 | []=>.leaf
 | i::is=>(Z6r f h is).set (f i) ((h i).map (Zg4 f))
def Z8r (f:Nat->Nat) (h:Nat->Option (Zi S)):List Nat->List (Nat×Option (Zi S))
 | []=>[]
 | i::is=>(f i,(h i).map (Zg4 f))::Z8r f h is
def ZdG (k:Nat) (v:TV S) (o:Tr (Zi S)) (kk:TV S->Tr (Zi S)->Nat->Option R):Option R :=
 sNs (geN k (Z2l o.get 4096 (Z27 v++upN 0 k) [])) fun Rs =>
  bif ZaU Rs&&(ZcC (fun j=>Nat.blt j k||Z48 j Rs) v&&Zj9 (fun j=>Nat.blt j k||Z48 j Rs) o.get (upN 0 k++Rs))then
   sV (rnT (Z2G k Rs) v) fun v=>sTr sO (Z6r (Z2G k Rs) o.get (upN 0 k++Rs)) fun o=>sN (k+Z2H Rs) fun n=>kk v o n
  else none
def Zfk (cs:Z3v S R) (g:Nat) (as:List (TV S)) (o:Tr (Zi S)) (nx:Nat) (k:TV S->Tr (Zi S)->Nat->Option R):Option R :=
 sVs (as.map fun d=>(YE o.get d).getD d) fun fs=>sTr sO (Z4A o (Z6v o.get (Yq as))) fun o1=>sNs (Z2l o1.get 4096 (Z36 fs) []) fun Rs=>sN (Z2H Rs) fun n0 =>
  bif ZaU Rs&&(Z5B (fun i=>Z48 i Rs) fs&&Zj9 (fun i=>Z48 i Rs) o1.get Rs)then
   sVs (Z7H (Z5b Rs) fs) fun fs=>sTr sO (Z6r (Z5b Rs) o1.get Rs) fun s =>
   cs.pr g fs s n0 fun v os n=>sV (rnT (ZG n0 nx Rs) v) fun v=>sTr sO (Z4A o1 (Z8r (ZG n0 nx Rs) os.get (upN 0 n))) fun o2=>sN (nx+(n-n0)) fun nx2=>k v o2 nx2
  else none
def clnT (X:Y2 S) (e:TypeId) (as:List (TV S)) (o:Tr (Zi S)) (nx:Nat) (k:TV S->Tr (Zi S)->Nat->Option R):Option R:=match as with
 | [x]=>(X.E.ty e).bind fun ei=>(X.code e).bind fun te=>(Z83 te o.get x).bind fun xs=>bif Nat.ble (xs.length*(ei.bytes+1)) 100000000000000&&Nat.blt 0 ei.size then
   k (.rs nx 0) (o.set nx (some (.row e te xs 0 0))) (nx+1)else none
 | _=>none
def srtT (e:TypeId) (as:List (TV S)) (o:Tr (Zi S)) (nx:Nat) (k:TV S->Tr (Zi S)->Nat->Option R):Option R:=match as with
 | [.nils]=>k (.tup []) o nx
 | [.rs id v]=>(match o.get id with
  | some (.bag e' t xs u)=>bif Nat.beq e' e&&Nat.beq u v&&Nat.ble xs.length 1000000 then(if q:t=.int .i64 then k (.tup []) (o.set id (some (.row e (.int .i64) (Z3R (q▸xs:List (Val S (.int .i64)))) 0 u))) nx else none)else none
  | _=>none)
 | _=>none
def ccT (t:TypeId) (as:List (TV S)) (o:Tr (Zi S)) (nx:Nat) (k:TV S->Tr (Zi S)->Nat->Option R):Option R:=match as with
 | [.ptr id 0]=>(match o.get id with
  | some (.cells t' [.nop j,c])=>bif Nat.beq t' t&&Nat.beq j id && !ZT c then k (.tup []) (o.set id (some (.cells t' [.nop j,c]))) nx else none
  | _=>none)
 | _=>none
def ZjB (X:Y2 S) (f:Nat) (as:List (TV S)) (o:Tr (Zi S)) (nx:Nat) (k:TV S->Tr (Zi S)->Nat->Option R):Option R:=match X.E.leaf f,X.E.cc f,X.E.cln f,X.E.srt f with
 | none,none,some e,_=>clnT X e as o nx k
 | none,some t,_,_=>ccT t as o nx k
 | none,none,none,some e=>srtT e as o nx k
 | some _,_,_,_=>(X.lf f).bind fun l=>(l as).bind fun q=>bif q.1 then(bif q.2.1 then k q.2.2.1 o nx else k q.2.2.2 o nx)else none
 | _,_,_,_=>none
def Z6I (X:Y2 S) (cs:Z3v S R) (ls:Z1J S R) (fid:Nat) (F:FI) (callH callY:Z1m S R) (path:List Nat):List Nat->Code->StT S->(Ex->StT S->List (Nat×List (TV S))->Option R)->Option R
 | pos,.seq x y,s,k=>Z6I X cs ls fid F callH callY path (0::pos) x s fun ex s cl=>(match ex with
  | .normal=>(match cl with
   | []=>Z6I X cs ls fid F callH callY path (1::pos) y s k
   | cl=>YX X cs ls none fid F callH callY path (1::pos) 0 y s fun ex s=>k ex s cl)
  | _=>k ex s cl)
 | pos,.region rid ops draw,s,k=>(match Z2h ops.toList with
  | some (pre,o,f)=>bif draw then none else Zg9 X cs callH callY (rid::path) F.vmask F.nt ops s.next 0 pre [] ⟨s.base,[],s.objs,s.next+ops.size⟩ fun pd m=>(match pd with
   | some d=>sSt ⟨m.base,m.objs,m.next⟩ fun s=>k .pan (s.pan F d) []
   | none=>(match ZO (Z14 F.vmask m.base m.loc) f with
    | some (.fn (.func g) [] caps)=>bif X.E.dfr g&&Z5k m.next caps then
      sSt ⟨(m.put F.vmask F.nt o.dst (some (.tup []))).base,(m.put F.vmask F.nt o.dst (some (.tup []))).objs,(m.put F.vmask F.nt o.dst (some (.tup []))).next⟩ fun s=>k .normal s [(g,caps)]
     else none
    | _=>none))
  | none=>YX X cs ls none fid F callH callY path pos 0 (.region rid ops draw) s fun ex s=>k ex s [])
 | pos,c,s,k=>YX X cs ls none fid F callH callY path pos 0 c s fun ex s=>k ex s []
def Zlh (X:Y2 S) (cs:Z3v S R) (ls:Z1J S R) (callH callY:Z1m S R) (path:List Nat) (g:Nat) (caps:List (TV S)) (d:TV S) (objs:Tr (Zi S)) (next:Nat) (k:Tr (Zi S)->Nat->Option R):Option R :=
 (X.E.fn g).bind fun F=>bif Nat.ble caps.length F.nt then(match F.body with
  | .seq (.region _ ops false) rest=>(ZcO ops.toList).bind fun t=>bif Nat.blt t.1 F.nt&&Z3Y rest&&F.nres.isEmpty then
    let m:=((⟨Yf F.vmask 0 caps .leaf,[],objs,next⟩:Z1B S).put F.vmask F.nt (some t.1) (some d)).put F.vmask F.nt (some t.2) (some d)
    YX X cs ls none g F callH callY (g::path) [1] 0 rest ⟨m.base,m.objs,m.next⟩ fun ex s=>(match ex with
    | .normal | .ret=>k s.objs s.next
    | _=>none)else none
  | _=>none)else none
def ZkR:Ex->Bool
 | .pan=>true
 | _=>false
def ZiN:Ex->Bool
 | .busy=>true
 | _=>false
def xK (X:Y2 S) (cs:Z3v S R) (ls:Z1J S R):Nat->Bool->Z1m S R
 | 0,_,_,_,_,_,_,_=>none
 | n+1,false,path,f,args,objs,next,k=>bif ZeY X.E f then ZjB X f args objs next k else
  (X.E.fn f).bind fun F=>bif F.can then Zfk cs f args objs next k else bif Nat.ble args.length F.nt then
   bif F.dfs then Z6I X cs ls f F (xK X cs ls n false) (xK X cs ls n true) (f::path) [] F.body ⟨Yf F.vmask 0 args .leaf,objs,next⟩ fun ex s cl =>
    (match ex,cl with
    | .normal,_=>Z9i X s.base.get s.objs.get F.nres fun vs=>bif(Z10 (Z1t vs)).isNone then k (Z1t vs) s.objs s.next else none
    | .ret,_=>Z9i X s.base.get s.objs.get F.nres fun vs=>bif(Z10 (Z1t vs)).isNone then k (Z1t vs) s.objs s.next else none
    | .pan,[]=>(s.base.get F.nt).bind fun d=>k (Z92 d) s.objs s.next
    | .pan,[(g,caps)]=>(s.base.get F.nt).bind fun d=>Zlh X cs ls (xK X cs ls n false) (xK X cs ls n true) (f::path) g caps d s.objs s.next fun objs nx =>
      Z9i X (s.base.set F.nt none).get objs.get F.nres fun vs=>bif(Z10 (Z1t vs)).isNone then k (Z1t vs) objs nx else none
    | _,_=>none)
   else
   YX X cs ls none f F (xK X cs ls n false) (xK X cs ls n true) (f::path) [] 0 F.body ⟨Yf F.vmask 0 args .leaf,objs,next⟩ fun ex s =>
    match ex with
    | .exit _ | .busy=>none
    | .pan=>(s.base.get F.nt).bind fun d=>k (Z92 d) s.objs s.next
    | _=>Z9i X s.base.get s.objs.get F.nres fun vs=>bif(Z10 (Z1t vs)).isNone then k (Z1t vs) s.objs s.next else none
   else none
 | n+1,true,path,l,args,objs,next,k=>(match objs.get l with
  | some (.loop fid base ps assign body bid .normal pa po)=>(X.E.fn fid).bind fun F=>(Z1I F.vmask F.nt ps args base).bind fun b =>
    YX X cs ls (some l) fid F (xK X cs ls n false) (xK X cs ls n true) (l::path) (0::po) bid assign ⟨b,objs,next⟩ fun ex s=>(match ex,s.objs.get l with
    | .normal,some (.loop fid2 base2 ps2 assign2 body2 bid2 .normal pa2 po2)=>YX X cs ls (some l) fid F (xK X cs ls n false) (xK X cs ls n true) (l::path) (1::po) bid body { s with objs:=s.objs.set l (some (.loop fid2 base2 ps2 assign2 body2 bid2 .busy pa2 po2)) } fun ex s=>(match s.objs.get l with
     | some (.loop fid3 base3 ps3 assign3 body3 bid3 .busy pa3 po3)=>bif ZkR ex then(s.base.get F.nt).bind fun d=>k (Z92 d) s.objs s.next else bif ZiN ex then none else k (.bool (match ex with | .normal=>true|_=>false)) (s.objs.set l (some (.loop fid3 base3 ps3 assign3 body3 bid3 ex pa3 po3))) s.next
     | _=>none)
    | _,_=>none)
  | _=>none)
end ops
end
end Go.Ab
namespace Go.Ab
def plain:DV->Bool
 | .bool _ | .int _ _ | .str _ | .sl _=>true
 | _=>false
variable {S:Nat->Type}
structure TOk (T:TS S):Prop where
 cells:∀i x,dvs T (T.cells i x)=T.dcells i x
 len:∀i x,(T.dcells i x).length=T.size i
 rd:∀i cs x r,T.rd i cs=some (x,r)->dvs T cs=T.dcells i x++dvs T r
 plain:∀i x,(T.dcells i x).all plain=true
 seq:∀i e,T.seq i=some e->∀x y,Zj (T.dcells i x) (T.dcells i y)=some (e x y)
structure XOk (X:Y2 S):Prop where
 t:TOk X.T
 zero:∀t z ti,X.zero t=some z->X.E.ty t=some ti->dvs X.T z=ti.zero
 code:∀t c ti,X.code t=some c->X.E.ty t=some ti->ti.size=tsz X.T c/\ti.isAgg=YZ c
 lf:∀g l as (c:Bool) d1 d2,X.lf g=some l->l as=some (true,c,d1,d2)->∃L,X.E.leaf g=some L/\Za (dvl X.T as)=true/\L (dvl X.T as)=some (dv X.T (bif c then d1 else d2))/\Zb (dv X.T (bif c then d1 else d2))=true
def Y3 (T:TS S):TV S->List DV
 | .arr t n a=>acl T t n a
 | .stc i x=>T.dcells i x
 | .earr ts pid n a=>eal ts pid n a
 | .narr _ n=>List.replicate n .nilif
 | c=>[dv T c]
theorem Zu (T:TS S) (c:TV S) (cs:List (TV S)):dvs T (c::cs)=Y3 T c++dvs T cs:=by
 cases c<;>simp[dvs,Y3]
theorem Z9o (T:TS S):dvs T []=[]:=by simp[dvs]
theorem Z2d (T:TS S):∀(a b:List (TV S)),dvs T (a++b)=dvs T a++dvs T b
 | [],b=>by simp[dvs]
 | c::a,b=>by rw[List.cons_append,Zu,Zu,Z2d T a b,jj]
theorem Z6J (T:TS S):∀(a b:List (TV S)),dvl T (a++b)=dvl T a++dvl T b
 | [],b=>by simp[dvl]
 | c::a,b=>by simp only[List.cons_append,dvl,Z6J T a b]
theorem Z4H (T:TS S):∀(a:List (TV S)),dvl T a=a.map (dv T)
 | []=>by simp[dvl]
 | c::a=>by simp only[jr,dvl,Z4H T a]
section
variable {T:TS S} (hT:TOk T)
include hT
theorem Y9:∀(t:Ty) (x:Val S t),(dcl T t x).length=tsz T t
 | .bool,_=>rfl
 | .int _,_=>rfl
 | .str,_=>rfl
 | .sl _,_=>by simp[dcl,tsz]
 | .st i,x=>hT.len i x
 | .arr n t,a=>by
  simp only[dcl,tsz,List.length_flatMap];have:(List.map (fun j=>(dcl T t (a j)).length) (List.range n))=List.map (fun _=>tsz T t) (List.range n):=List.map_congr_left fun j _=>Y9 t (a j);rw[this,List.map_const',List.sum_replicate_nat,List.length_range]
theorem Z3o:∀(t:Ty) (x:Val S t),(dcl T t x).all plain=true
 | .bool,_=>rfl
 | .int _,_=>rfl
 | .str,_=>rfl
 | .sl _,_=>by simp[dcl,plain]
 | .st i,x=>hT.plain i x
 | .arr n t,a=>by
  rw[List.all_eq_true];intro c hc;simp only[dcl,List.mem_flatMap]at hc;obtain⟨j,_,hc⟩:=hc;exact List.all_eq_true.1 (Z3o t (a j)) c hc
theorem Z17 (t:Ty) (n:Nat) (a:Nat->Val S t):(acl T t n a).length=n*tsz T t:=Y9 hT (.arr n t) a
theorem Yr (t:Ty) (n:Nat) (a:Nat->Val S t):(acl T t n a).all plain=true:=Z3o hT (.arr n t) a
theorem Z3l:∀(t:Ty) (x:Val S t),dvs T (tcl T t x)=dcl T t x
 | .bool,_=>by simp[tcl,dvs,dv,dcl]
 | .int _,_=>by simp[tcl,dvs,dv,dcl]
 | .str,_=>by simp[tcl,dvs,dv,dcl]
 | .sl _,_=>by simp[tcl,dvs,dv,dcl]
 | .st i,x=>by simp only[tcl,dvs,jo,dcl]
 | .arr n t,a=>by simp only[tcl,dvs,jo];rfl
theorem Z1Y:∀(t:Ty) (x:Val S t),dv T (Z8F T t x)=Yt T t x
 | .bool,_=>by simp[Z8F,dv,Yt]
 | .int _,_=>by simp[Z8F,dv,Yt]
 | .str,_=>by simp[Z8F,dv,Yt]
 | .sl _,_=>by simp[Z8F,dv,Yt]
 | .st i,x=>by simp only[Z8F,dv,Yt,dvs,jo]
 | .arr n t,a=>by simp[Z8F,dv,Yt,dvs]
theorem Z3n (c:TV S):(Y3 T c).length=wd T c:=by
 cases c<;>simp[Y3,wd]
 ·rename_i t n a;exact Z17 hT t n a
 ·rename_i i x;exact hT.len i x
 ·simp[eal]
theorem Y4:∀(cs:List (TV S)),(dvs T cs).length=wds T cs
 | []=>by simp[dvs,wds]
 | c::cs=>by rw[Zu,List.length_append,Z3n hT c,Y4 cs,wds]
theorem Z6b (i:Nat) (x:S i) (r:List (TV S)):dvs T (T.cells i x++r)=dvs T (.stc i x::r):=by
 rw[Z2d,hT.cells];simp[dvs]
theorem ZkF (i:Nat) (x:S i) (r:List (TV S)):wds T (T.cells i x++r)=wds T (.stc i x::r):=by
 rw[<-Y4 hT,<-Y4 hT,Z6b hT]
theorem Z82:∀(f:Nat) {cs r:List (TV S)} {n:Nat},Zbo T f cs n=some r->wds T cs=n+wds T r/\(dvs T cs).drop n=dvs T r
 | 0,_,_,_,h=>by cases h
 | f+1,[],r,n,h=>by
  simp only[Zbo]at h;obtain⟨a,h⟩:=Z1 h;cases h;have:=je a;subst this;simp[wds,dvs]
 | f+1,c::cs,r,n,h=>by
  simp only[Zbo]at h;cases h0:Nat.beq n 0 with
  | true =>
   rw[h0]at h;cases h;have:=je h0;subst this;simp
  | false =>
   rw[h0]at h;simp only[jA]at h;cases a:Nat.ble (wd T c) n with
   | true =>
    rw[a]at h;simp only[jB]at h;obtain⟨d,b⟩:=Z82 f h;have a:=jf a;refine⟨by rw[wds];omega,?_⟩
    rw[Zu,<-b,List.drop_append,Z3n hT c,jd (by rw[Z3n hT c];exact a),List.nil_append]
   | false =>
    rw[a]at h;simp only[jA]at h;split at h
    ·rename_i i x;obtain⟨d,b⟩:=Z82 f h;rw[ZkF hT]at d;rw[Z6b hT]at b;exact⟨d,b⟩
    ·cases h
theorem Z1M {cs r:List (TV S)} {n:Nat} (h:Z9P T cs n=some r):wds T cs=n+wds T r/\(dvs T cs).drop n=dvs T r:=Z82 hT 400 h
theorem Z8A:∀(f:Nat) {cs r:List (TV S)} {n:Nat},Zc1 T f cs n=some r->wds T r=n/\(dvs T cs).take n=dvs T r
 | 0,_,_,_,h=>by cases h
 | f+1,[],r,n,h=>by
  simp only[Zc1]at h;obtain⟨a,h⟩:=Z1 h;cases h;have:=je a;subst this;simp[wds,dvs]
 | f+1,c::cs,r,n,h=>by
  simp only[Zc1]at h;cases h0:Nat.beq n 0 with
  | true =>
   rw[h0]at h;cases h;have:=je h0;subst this;simp[wds,dvs]
  | false =>
   rw[h0]at h;simp only[jA]at h;cases a:Nat.ble (wd T c) n with
   | true =>
    rw[a]at h;simp only[jB]at h;obtain⟨r',b,h⟩:=Z0 h;cases h;obtain⟨d,e⟩:=Z8A f b;have a:=jf a;refine⟨by rw[wds];omega,?_⟩
    rw[Zu,Zu,<-e,List.take_append,Z3n hT c,List.take_of_length_le (by rw[Z3n hT c];exact a)]
   | false =>
    rw[a]at h;simp only[jA]at h;split at h
    ·rename_i i x;obtain⟨b,d⟩:=Z8A f h;rw[Z6b hT]at d;exact⟨b,d⟩
    ·cases h
theorem Zc2 {cs r:List (TV S)} {n:Nat} (h:Zjz T cs n=some r):wds T r=n/\(dvs T cs).take n=dvs T r:=Z8A hT 400 h
theorem Z3a:∀(n:Nat) (cs:List (TV S)),dvs T (hdF T n cs)=dvs T cs
 | 0,cs=>by cases cs with
  | nil=>rfl
  | cons c cs=>cases c<;>rfl
 | n+1,[]=>rfl
 | n+1,c::cs=>by
  cases c<;>first|rfl|skip
  simp only[hdF];rw[Z3a n,Z6b hT]
theorem Z2z:∀(n:Nat) (cs:List (TV S)),dvs T (xpF T n cs)=dvs T cs
 | 0,cs=>by cases cs with
  | nil=>rfl
  | cons c cs=>cases c<;>rfl
 | n+1,[]=>rfl
 | n+1,c::cs=>by
  by_cases hc:∃i x,c=.stc i x
  ·obtain⟨i,x,rfl⟩:=hc;simp only[xpF];rw[Z2z n,Z6b hT]
  ·have:xpF T (n+1) (c::cs)=c::xpF T n cs:=by
    cases c<;>first|rfl|exact absurd ⟨_,_,rfl⟩ hc
   rw[this,Zu,Zu,Z2z n]
omit hT in
theorem Z11:∀(cs:List DV) (off:Nat) (vs:List DV),off+vs.length<=cs.length->Yc cs off vs=cs.take off++vs++cs.drop (off+vs.length)
 | cs,off,[],_=>by
  cases cs<;>simp[Yc]
 | [],off,v::vs,h=>by simp at h
 | c::cs,0,v::vs,h=>by
  simp only[Yc,List.take_zero,List.nil_append,List.cons_append,Nat.zero_add,List.length_cons,List.drop_succ_cons];rw[Z11 cs 0 vs (by simp at h;omega)]
  simp
 | c::cs,n+1,v::vs,h=>by
  simp only[Yc,List.take_succ_cons,List.cons_append];rw[Z11 cs n (v::vs) (by simp at h⊢;omega)]
  rw[show n+1+(v::vs).length=(n+(v::vs).length)+1 by omega,List.drop_succ_cons]
theorem Z1g {cs vs r:List (TV S)} {off:Nat} (h:Z3k T cs off vs=some r):off+wds T vs<=wds T cs/\Yc (dvs T cs) off (dvs T vs)=dvs T r:=by
 unfold Z3k at h;obtain⟨a,f,h⟩:=Z0 h;obtain⟨b,d,h⟩:=Z0 h;cases h;obtain⟨i,e⟩:=Zc2 hT f;obtain⟨g,c⟩:=Z1M hT d;refine⟨by omega,?_⟩
 rw[Z11 _ _ _ (by rw[Y4 hT,Y4 hT];omega),Z2d,Z2d,<-e,<-c,Y4 hT vs]
omit hT in
theorem YB (v:TV S):cellsOf (dv T v)=dvs T (Yb v):=by
 cases v<;>simp[dv,cellsOf,Yb,dvs]
theorem Z4n {ti:TI} {cs:List (TV S)} {off:Nat} {v:TV S} (h:Zaq T ti cs off=some v):YP ti (dvs T cs) off=some (dv T v)/\ZT v=false:=by
 unfold Zaq at h;obtain⟨r,f,h⟩:=Z0 h;obtain⟨g,a⟩:=Z1M hT f;unfold YP;cases ha:ti.isAgg with
 | true =>
  rw[ha]at h;simp only[jB]at h⊢;obtain⟨p,d,h⟩:=Z0 h;cases h;obtain⟨i,b⟩:=Zc2 hT d;have e:ti.size<=wds T r:=by
   have:=congrArg List.length b;rw[List.length_take,Y4 hT,Y4 hT]at this;omega
  have:Nat.ble (off+ti.size) (dvs T cs).length=true:=by rw[Nat.ble_eq,Y4 hT];omega
  rw[this,a,b];simp[dv,ZT]
 | false =>
  rw[ha]at h;simp only[jA]at h⊢;rw[<-Z3a hT 10 r]at a;cases hr:hdF T 10 r with
  | nil=>rw[hr]at h;cases h
  | cons c r =>
   rw[hr]at h a;simp only at h;cases hc:ZT c with
   | true=>rw[hc]at h;cases h
   | false =>
    rw[hc]at h;cases h;refine⟨?_,hc⟩;have:(dvs T cs)[off]?=(List.drop off (dvs T cs))[0]? := by simp
    rw[this,a,Zu];cases v<;>simp[Y3,ZT]at hc⊢
omit hT in
theorem Z7z {t:Ty} {cs r:List (TV S)} {x:List (Val S t)} (h:ZfY t cs=some (x,r)):dvs T cs=.sl (x.map (dcl T t))::dvs T r:=by
 unfold ZfY at h;cases cs with
 | nil=>cases h
 | cons c cs =>
  simp only at h;obtain⟨xs,a,h⟩:=Z0 h;cases h;unfold Zl1 at a;split at a
  ·cases a;simp[dvs,dv]
  ·split at a
   ·rename_i e;subst e;cases a;simp[dvs,dv]
   ·cases a
  ·cases a
omit hT in
theorem ZfX {cs r:List (TV S)} {x:Bool} (h:Z8n cs=some (x,r)):dvs T cs=[.bool x]++dvs T r:=by
 unfold Z8n at h;split at h
 ·cases h;simp[dvs,dv]
 ·cases h
omit hT in
theorem Yh {k:IntKind} {cs r:List (TV S)} {x:Int} (h:Z1u k cs=some (x,r)):dvs T cs=[.int k x]++dvs T r:=by
 unfold Z1u at h;split at h
 ·obtain⟨a,h⟩:=Z1 h;cases h;have:=eq_of_beq a;subst this;simp[dvs,dv]
 ·cases h
omit hT in
theorem Z8o {cs r:List (TV S)} {x:ByteArray} (h:Z93 cs=some (x,r)):dvs T cs=[.str x]++dvs T r:=by
 unfold Z93 at h;split at h
 ·cases h;simp[dvs,dv]
 ·cases h
omit hT in
theorem Z9A {T0:TS S} (hc:∀i (x:S i),dvs T (T0.cells i x)=T.dcells i x) (i:Nat):∀(n:Nat) (cs:List (TV S)),dvs T (Z58 T0 i n cs)=dvs T cs
 | 0,cs=>by cases cs with
  | nil=>rfl
  | cons c cs=>cases c<;>rfl
 | n+1,[]=>rfl
 | n+1,c::cs=>by
  cases c<;>first|rfl|skip
  rename_i j x;simp only[Z58];cases Nat.beq j i with
  | true=>rfl
  | false=>simp only[jA];rw[Z9A hc i n,Z2d,hc];rfl
theorem Zbd (i:Nat):∀(n:Nat) (cs:List (TV S)),dvs T (Z58 T i n cs)=dvs T cs
 | 0,cs=>by cases cs with
  | nil=>rfl
  | cons c cs=>cases c<;>rfl
 | n+1,[]=>rfl
 | n+1,c::cs=>by
  cases c<;>first|rfl|skip
  rename_i j x;simp only[Z58];cases Nat.beq j i with
  | true=>rfl
  | false=>simp only[jA];rw[Zbd i n,Z6b hT]
omit hT in
theorem Z9t {i:Nat} {f:List (TV S)->Option (S i×List (TV S))} (a:∀cs x r,f cs=some (x,r)->dvs T cs=T.dcells i x++dvs T r) {cs r:List (TV S)} {x:S i} (h:rdW i f cs=some (x,r)):dvs T cs=T.dcells i x++dvs T r:=by
 unfold rdW at h;split at h
 ·split at h
  ·rename_i e;subst e;cases h;simp[dvs]
  ·cases h
 ·exact a _ _ _ h
theorem ZkJ {t:Ty} {cs r:List (TV S)} {x:Val S t} (h:trd T t cs=some (x,r)):dvs T cs=dcl T t x++dvs T r:=by
 cases t with
 | bool =>
  simp only[trd,Z8n]at h;split at h
  ·cases h;simp[dvs,dv,dcl]
  ·cases h
 | int k =>
  simp only[trd,Z1u]at h;split at h
  ·obtain⟨a,h⟩:=Z1 h;cases h;have:=eq_of_beq a;subst this;simp[dvs,dv,dcl]
  ·cases h
 | str =>
  simp only[trd,Z93]at h;split at h
  ·cases h;simp[dvs,dv,dcl]
  ·cases h
 | sl t =>
  simp only[trd]at h;rw[Z7z h];rfl
 | arr n t =>
  simp only[trd,ZkT]at h;split at h
  ·split at h
   ·rename_i e;obtain⟨a,h⟩:=Z1 h;cases h;have:=je a;subst this e;rw[Zu];rfl
   ·cases h
  ·cases h
 | st i =>
  simp only[trd]at h;rw[<-Zbd hT i 6 cs,Z9t (fun _ _ _ h=>hT.rd i _ _ _ h) h];rfl
theorem Z2Q {t:Ty} {cs:List (TV S)} {x:Val S t} (h:Z7S T t cs=some x):dvs T cs=dcl T t x:=by
 unfold Z7S at h;obtain⟨⟨x',r⟩,a,h⟩:=Z0 h;cases r with
 | nil =>
  cases h;have:=ZkJ hT a;rw[this,Z9o,jo]
 | cons c r=>cases h
omit hT in
theorem Z9M {t:Ty} (x:Val S t) (h:YZ t=false):dcl T t x=[Yt T t x]:=by
 cases t<;>first|rfl|cases h
theorem Z3T {t:Ty} {v:TV S} {x:Val S t} (h:Z6y T t v=some x):dv T v=Yt T t x:=by
 have Zg7:∀(c:TV S),YZ t=false->Z7S T t [c]=some x->dvs T [c]=[dv T c]->dv T c=Yt T t x:=fun c b a hc=>by
  have d:=Z2Q hT a;rw[hc,Z9M x b]at d;exact List.cons.inj d |>.1
 by_cases hag:∃cs,v=.agg cs
 ·obtain⟨cs,rfl⟩:=hag;simp only[Z6y]at h;obtain⟨e,h⟩:=Z1 h;have d:=Z2Q hT h;cases t<;>simp only[YZ,jg]at e
  ·simp only[dv,Yt,d];rfl
  ·simp only[dv,Yt,d];rfl
 ·have a:(bif YZ t then none else Z7S T t [v])=some x:=by
   unfold Z6y at h;split at h
   ·rename_i cs;exact absurd ⟨cs,rfl⟩ hag
   ·exact h
  cases b:YZ t with
  | true=>rw[b]at a;cases a
  | false =>
   rw[b]at a;simp only[jA]at a
   by_cases hr:ZT v=true
   ·exfalso;cases v<;>simp only[ZT,jg]at hr
    all_goals
     unfold Z7S at a;obtain⟨q,e,_⟩:=Z0 a;cases t<;>simp[YZ]at b<;>simp[trd,Z8n,Z1u,Z93,ZfY,Zl1]at e
   ·refine Zg7 v b a ?_;rw[Zu,Z9o,jo];cases v<;>simp[Y3,ZT]at hr⊢
theorem Zii {v r:TV S} {n:Nat} (h:Zih T v n=some r):Z1i (dv T v) n=some (dv T r):=by
 cases v<;>simp only[Zih,reduceCtorEq]at h
 ·cases h;simp[dv,Z1i]
 ·cases h;simp[dv,Z1i];omega
 ·cases h;simp[dv,Z1i]
 ·obtain⟨q,a,h⟩:=Z0 h;cases h;simp only[dv,Z1i,(Z1M hT a).2]
end
section
variable {T:TS S}
theorem ZfP {c:DV} (h:plain c=true):Zb c=true:=by cases c<;>simp[plain,Zb]at h⊢
theorem ZhN {c:DV} (n:Nat) (h:plain c=true):bdd n c=true:=by cases c<;>simp[plain,bdd]at h⊢
theorem ZhO {c:DV} (hh:Nat->Option Z9) (h:plain c=true):frz hh c=some c:=by cases c<;>simp[plain,frz,Zb]at h⊢
theorem ZfQ {c:DV} (h:plain c=true):Ze c=[]:=by cases c<;>simp[plain,Ze]at h⊢
theorem ZhP {c:DV} (h:plain c=true):Zr c=[]:=by cases c<;>simp[plain,Zr]at h⊢
theorem ZfO {c:DV} (h:plain c=true):Zv c=true:=by cases c<;>simp[plain,Zv]at h⊢
theorem ZhQ {c:DV} (n:Nat) (L:List (Option (Nat×Nat))) (h:plain c=true):ren n L c=some c:=by cases c<;>simp[plain,ren,bdd]at h⊢
theorem Z5s:∀(a b:List DV),Za (a++b)=(Za a&&Za b)
 | [],b=>by simp[Za]
 | c::a,b=>by simp only[List.cons_append,Za,Z5s a b,Bool.and_assoc]
theorem Z8N (n:Nat):∀(a b:List DV),Z1q n (a++b)=(Z1q n a&&Z1q n b)
 | [],b=>by simp[Z1q]
 | c::a,b=>by simp only[List.cons_append,Z1q,Z8N n a b,Bool.and_assoc]
theorem Z5M:∀(a b:List DV),Zg (a++b)=Zg a++Zg b
 | [],b=>by simp[Zg]
 | c::a,b=>by simp only[List.cons_append,Zg,Z5M a b,jj]
theorem Z6k:∀(a b:List DV),ZE (a++b)=ZE a++ZE b
 | [],b=>by simp[ZE]
 | c::a,b=>by simp only[List.cons_append,ZE,Z6k a b,jj]
theorem Z8W (h:Nat->Option Z9):∀(a b:List DV),Z1D h (a++b)=(Z1D h a).bind fun x=>(Z1D h b).bind fun y=>some (x++y)
 | [],b=>by simp[Z1D]
 | c::a,b=>by
  simp only[List.cons_append,Z1D,Z8W h a b];cases frz h c with
  | none=>rfl
  | some c'=>cases Z1D h a with
   | none=>rfl
   | some a'=>cases Z1D h b<;>simp
theorem Z96 (n:Nat) (L:List (Option (Nat×Nat))):∀(a b:List DV),Z2O n L (a++b)=(Z2O n L a).bind fun x=>(Z2O n L b).bind fun y=>some (x++y)
 | [],b=>by simp[Z2O]
 | c::a,b=>by
  simp only[List.cons_append,Z2O,Z96 n L a b];cases ren n L c with
  | none=>rfl
  | some c'=>cases Z2O n L a with
   | none=>rfl
   | some a'=>cases Z2O n L b<;>simp
theorem Z1V:∀{cs:List DV},cs.all plain=true->Za cs=true
 | [],_=>rfl
 | c::cs,h=>by
  simp only[jt,jn]at h;simp only[Za,ZfP h.1,Z1V h.2,ju]
theorem Z6T (n:Nat):∀{cs:List DV},cs.all plain=true->Z1q n cs=true
 | [],_=>rfl
 | c::cs,h=>by
  simp only[jt,jn]at h;simp only[Z1q,ZhN n h.1,Z6T n h.2,ju]
theorem Z6U (hh:Nat->Option Z9):∀{cs:List DV},cs.all plain=true->Z1D hh cs=some cs
 | [],_=>rfl
 | c::cs,h=>by
  simp only[jt,jn]at h;simp[Z1D,ZhO hh h.1,Z6U hh h.2]
theorem Z5F:∀{cs:List DV},cs.all plain=true->Zg cs=[]
 | [],_=>rfl
 | c::cs,h=>by
  simp only[jt,jn]at h;simp[Zg,ZfQ h.1,Z5F h.2]
theorem Z6V:∀{cs:List DV},cs.all plain=true->ZE cs=[]
 | [],_=>rfl
 | c::cs,h=>by
  simp only[jt,jn]at h;simp[ZE,ZhP h.1,Z6V h.2]
theorem Z2M:∀{cs:List DV},cs.all plain=true->cs.all Zv=true
 | [],_=>rfl
 | c::cs,h=>by
  simp only[jt,jn]at h;simp[ZfO h.1,Z2M h.2]
theorem Z6W (n:Nat) (L:List (Option (Nat×Nat))):∀{cs:List DV},cs.all plain=true->Z2O n L cs=some cs
 | [],_=>rfl
 | c::cs,h=>by
  simp only[jt,jn]at h;simp[Z2O,ZhQ n L h.1,Z6W n L h.2]
end
def dvO (T:TS S):Zi S->Z9
 | .cells t cs=>.cells t (dvs T cs)
 | .row e t xs p v=>.row e (xs.map (dcl T t)) p v
 | .map kt et m=>.map (m.map fun p=>(Yt T kt p.1,Yt T et p.2))
 | .siter s pos=>.siter s pos
 | .mit m n=>.mit m n []
 | .bag e t xs v=>.bag e (xs.map (dcl T t)) v
 | .loop fid b ps as bo bid ex _ _=>.loop fid (b.mapv (dv T)) ps as bo bid ex
end Go.Ab
namespace Go.Ab
variable {S:Nat->Type}
def dvr (T:TS S) (ρ:Nat->Option (TV S)):Nat->Option DV:=fun t=>(ρ t).map (dv T)
def dvh (T:TS S) (h:Nat->Option (Zi S)):Nat->Option Z9:=fun i=>(h i).map (dvO T)
def dvu (T:TS S) (u:List (Nat×Option (Zi S))):List (Nat×Option Z9):=u.map fun p=>(p.1,p.2.map (dvO T))
def ZU (T:TS S) (o:Zb2 S):Out:=⟨o.val.map (dv T),dvu T o.upd⟩
theorem ZD {α β:Type} (f:α->β):∀(t:Tr α) (k:Nat),(t.mapv f).get k=(t.get k).map f
 | .leaf,k=>rfl
 | .node l v r,k=>by
  simp only[Tr.mapv,Tr.get];cases Nat.beq k 0 with
  | true=>rfl
  | false=>cases Nat.beq (k % 2) 1 with
   | true=>exact ZD f l _
   | false=>exact ZD f r _
theorem Z2K {α β:Type} (f:α->β) (v:Option α):∀(n:Nat) (t:Tr α) (k:Nat),(Tr.setAux n t k v).mapv f=Tr.setAux n (t.mapv f) k (v.map f)
 | 0,t,k=>rfl
 | n+1,.leaf,k=>by
  simp only[Tr.setAux,Tr.mapv];cases Nat.beq k 0 with
  | true=>rfl
  | false=>cases Nat.beq (k % 2) 1 with
   | true=>simp only[jB,jA,Tr.mapv,Z2K f v n .leaf];rfl
   | false=>simp only[jA,Tr.mapv,Z2K f v n .leaf];rfl
 | n+1,.node l x r,k=>by
  simp only[Tr.setAux,Tr.mapv];cases Nat.beq k 0 with
  | true=>rfl
  | false=>cases Nat.beq (k % 2) 1 with
   | true=>simp only[jB,jA,Tr.mapv,Z2K f v n l]
   | false=>simp only[jA,Tr.mapv,Z2K f v n r]
theorem ZR {α β:Type} (f:α->β) (t:Tr α) (k:Nat) (v:Option α):(t.set k v).mapv f=(t.mapv f).set k (v.map f):=Z2K f v _ t k
theorem Ze7 {α β:Type} (f:α->β) (l:Tr α) (v:Option α) (r:Tr α):(Tr.mkn l v r).mapv f=Tr.mkn (l.mapv f) (v.map f) (r.mapv f):=by
 unfold Tr.mkn;cases l<;>cases v<;>cases r<;>rfl
theorem Z63 {α β:Type} (f:α->β) (m:Nat):∀(t:Tr α) (a b:Nat),(t.filt m a b).mapv f=(t.mapv f).filt m a b
 | .leaf,a,b=>rfl
 | .node l v r,a,b=>by
  simp only[Tr.filt,Tr.mapv,Ze7,Z63 f m l,Z63 f m r];cases Nat.testBit m b<;>rfl
theorem Z7s {α β:Type} (f:α->β) (g:Nat->α->Option (Option α)) (g':Nat->β->Option (Option β)) (c:∀k x y,g k x=some y->g' k (f x)=some (y.map f)) :
  ∀(t:Tr α) (a b:Nat) (r:Tr α),t.tm g a b=some r->(t.mapv f).tm g' a b=some (r.mapv f)
 | .leaf,a,b,r,h=>by simp only[Tr.tm,jh]at h;subst h;rfl
 | .node l v q,a,b,r,h=>by
  simp only[Tr.tm]at h;obtain⟨l',e,h⟩:=Z0 h;obtain⟨v',d,h⟩:=Z0 h;obtain⟨q',i,h⟩:=Z0 h;cases h;simp only[Tr.mapv,Tr.tm,Z7s f g g' c l _ _ _ e,Z7s f g g' c q _ _ _ i,jm,Ze7];cases v with
  | none=>cases d;rfl
  | some x =>
   simp only[jq];rw[c _ _ _ d];rfl
section
variable (T:TS S)
theorem Zj8 (v:Value):ZgR v=(ZfL (S:=S) v).map (dv T):=by
 unfold ZgR ZfL;split<;>simp[dv]
theorem ZF (ρ:Nat->Option (TV S)) (x:Operand):ZS (dvr T ρ) x=(ZO ρ x).map (dv T):=by
 cases x with
 | tmp t=>rfl
 | const v=>exact Zj8 T v
 | func f=>simp[ZS,ZO,dv,dvl]
 | global g=>rfl
theorem Z3H (ρ:Nat->Option (TV S)):∀xs,Z1s (dvr T ρ) xs=(Z2Z ρ xs).map (dvl T)
 | []=>by simp[Z1s,Z2Z,dvl]
 | x::xs=>by
  simp only[Z1s,Z2Z,ZF,Z3H ρ xs];cases ZO ρ x with
  | none=>rfl
  | some v=>cases Z2Z ρ xs with
   | none=>rfl
   | some vs=>simp[dvl]
theorem Zle (ρ:Nat->Option (TV S)) (x:Option Operand):Z2t (dvr T ρ) x=(Zkt ρ x).map (Option.map (dv T)):=by
 cases x with
 | none=>rfl
 | some x =>
  simp only[Z2t,Zkt,ZF];cases ZO ρ x<;>rfl
end
def Z5v (pid:Nat):DV->Bool
 | .nilif=>true
 | .iface _ (.agg [.ptr p 0])=>Nat.beq p pid
 | _=>false
theorem ZdA (pid:Nat):∀(ts:List TypeId) (m:Nat),Z5v pid (enD pid ts m)=true
 | ts,0=>by cases ts<;>rfl
 | [],m+1=>rfl
 | t::ts,1=>by simp[enD,Z5v]
 | t::ts,m+2=>by simp only[enD];exact ZdA pid ts (m+1)
theorem YC (ts:List TypeId) (pid n:Nat) (a:Nat->Nat):(eal ts pid n a).all (Z5v pid)=true:=by
 rw[List.all_eq_true];intro c hc;obtain⟨j,_,rfl⟩:=List.mem_map.1 hc;exact ZdA pid ts _
theorem Z1f (pid n:Nat):(List.replicate n DV.nilif).all (Z5v pid)=true:=by
 rw[List.all_eq_true];intro c hc;rw[(List.mem_replicate.1 hc).2];rfl
theorem Z1E {pid:Nat} {d:DV} (h:Z5v pid d=true):d=.nilif\/∃t,d=.iface t (.agg [.ptr pid 0]):=by
 unfold Z5v at h;split at h
 ·exact .inl rfl
 ·rw[je h];exact .inr ⟨_,rfl⟩
 ·cases h
theorem Z7f {pid:Nat}:∀{l:List DV},l.all (Z5v pid)=true->Zg l=[]
 | [],_=>rfl
 | d::l,h=>by
  simp only[jt,jn]at h;rcases Z1E h.1 with rfl|⟨t,rfl⟩<;>simp[Zg,Ze,Z7f h.2]
theorem Z9R (h':Nat->Option Z9) {pid:Nat}:∀{l:List DV},l.all (Z5v pid)=true->Z1D h' l=bif Za l then some l else none
 | [],_=>rfl
 | d::l,h=>by
  simp only[jt,jn]at h;rcases Z1E h.1 with rfl|⟨t,rfl⟩
  ·simp only[Z1D,frz,Zb,Za,jB,jm,Z9R h' h.2,Bool.true_and];cases Za l<;>rfl
  ·simp[Z1D,frz,Zb,Za]
theorem Z7E (n:Nat):Za (List.replicate n DV.nilif)=true:=by
 induction n with
 | zero=>rfl
 | succ n ih=>rw[List.replicate_succ];simp[Za,Zb,ih]
theorem Zh2 (n:Nat):ZE (List.replicate n DV.nilif)=[]:=by
 induction n with
 | zero=>rfl
 | succ n ih=>rw[List.replicate_succ];simp[ZE,Zr,ih]
theorem Zfq (n:Nat) (L:List (Option (Nat×Nat))) {pid:Nat} (a:Nat.blt pid n=true):∀{l:List DV},l.all (Z5v pid)=true->Z2O n L l=some l
 | [],_=>rfl
 | d::l,h=>by
  simp only[jt,jn]at h;rcases Z1E h.1 with rfl|⟨t,rfl⟩<;>simp[Z2O,ren,bdd,Z1q,a,Zfq n L a h.2]
theorem Zh3 (n:Nat) (L:List (Option (Nat×Nat))) (m:Nat):Z2O n L (List.replicate m DV.nilif)=some (List.replicate m DV.nilif):=by
 induction m with
 | zero=>rfl
 | succ m ih=>rw[List.replicate_succ];simp[Z2O,ren,bdd,ih]
theorem ZiG (n:Nat) {pid:Nat} (a:Nat.blt pid n=true):∀{l:List DV},l.all (Z5v pid)=true->Z1q n l=true
 | [],_=>rfl
 | d::l,h=>by
  simp only[jt,jn]at h;rcases Z1E h.1 with rfl|⟨t,rfl⟩<;>simp[Z1q,bdd,a,ZiG n a h.2]
theorem ZkA (n m:Nat):Z1q n (List.replicate m DV.nilif)=true:=by
 induction m with
 | zero=>rfl
 | succ m ih=>rw[List.replicate_succ];simp[Z1q,bdd,ih]
section
variable {T:TS S} (hT:TOk T)
include hT
mutual
theorem Z88:∀v:TV S,Zb (dv T v)=Zn v
 | .bool _=>rfl | .int _ _=>rfl | .str _=>rfl | .nilp=>rfl | .nils=>rfl
 | .sl0=>by simp[dv,Zb,Zn] | .sl _ _=>by simp[dv,Zb,Zn]
 | .arr _ _ _=>by simp[dv,Zb,Zn]
 | .stc _ _=>by simp[dv,Zb,Zn]
 | .narr _ _=>by simp[dv,Zb,Zn,Z7E]
 | .earr _ _ _ _=>by simp[dv,Zb,Zn]
 | .ptr _ _=>by simp[dv,Zb,Zn] | .ap _ _ _ _ _=>by simp[dv,Zb,Zn] | .rptr _ _ _ _ _=>by simp[dv,Zb,Zn]
 | .pub cs=>by simp only[dv,Zb,Zn];exact Z1S cs
 | .rv _ _ _ _ _=>by simp[dv,Zb,Zn] | .slen _=>by simp[dv,Zb,Zn]
 | .rs _ _=>by simp[dv,Zb,Zn] | .map _=>by simp[dv,Zb,Zn] | .iter _=>by simp[dv,Zb,Zn] | .yld _=>by simp[dv,Zb,Zn] | .nop _=>by simp[dv,Zb,Zn]
 | .nilfn=>by simp[dv,Zb,Zn] | .nilmap=>by simp[dv,Zb,Zn] | .nilif=>by simp[dv,Zb,Zn]
 | .agg cs=>by simp only[dv,Zb,Zn];exact Z1S cs
 | .tup cs=>by simp only[dv,Zb,Zn];exact Z1R cs
 | .fn _ a c=>by simp only[dv,Zb,Zn,Z1R a,Z1R c]
 | .iface _ v=>by simp only[dv,Zb,Zn];exact Z88 v
theorem Z1S:∀cs:List (TV S),Za (dvs T cs)=Yg cs
 | []=>by simp[dvs,Za,Yg]
 | c::cs=>by
  rw[Zu,Z5s,Yg,Z1S cs];have h:=Z88 c;cases c<;>simp only[Y3,Za,Bool.and_true]<;>first|rw[h]|skip
  ·rw[Z1V (Yr hT _ _ _)];rfl
  ·rw[Z1V (hT.plain _ _)];rfl
  ·rfl
  ·rw[Z7E];rfl
theorem Z1R:∀cs:List (TV S),Za (dvl T cs)=Yg cs
 | []=>by simp[dvl,Za,Yg]
 | c::cs=>by simp only[dvl,Za,Yg,Z88 c,Z1R cs]
end
mutual
theorem Z22 (n:Nat):∀v:TV S,Zb3 n v=true->bdd n (dv T v)=true
 | .bool _,_=>rfl | .int _ _,_=>rfl | .str _,_=>rfl | .nilp,_=>rfl | .nils,_=>rfl
 | .sl0,_=>by simp[dv,bdd] | .sl _ _,_=>by simp[dv,bdd]
 | .arr _ _ _,_=>by simp[dv,bdd]
 | .stc _ _,_=>by simp[dv,bdd]
 | .narr _ _,_=>by simp only[dv,bdd];exact ZkA n _
 | .earr _ _ _ _,h=>by simp only[dv,bdd];exact ZiG n h (YC _ _ _ _)
 | .ptr _ _,h=>h | .ap _ _ _ _ _,h=>h | .rptr _ _ _ _ _,h=>h
 | .rv _ _ _ _ _,h=>h | .slen _,_=>by simp[dv,bdd]
 | .rs _ _,h=>h | .map _,h=>h | .iter _,h=>h | .yld _,h=>h | .nop _,h=>h
 | .nilfn,_=>by simp[dv,bdd] | .nilmap,_=>by simp[dv,bdd] | .nilif,_=>by simp[dv,bdd]
 | .pub cs,h=>by simp only[dv,bdd,Zb3]at h⊢;exact Z9F n cs h
 | .agg cs,h=>by simp only[dv,bdd,Zb3]at h⊢;exact Z9F n cs h
 | .tup cs,h=>by simp only[dv,bdd,Zb3]at h⊢;exact Z5l n cs h
 | .fn _ a c,h=>by
  simp only[dv,bdd,Zb3,jn]at h⊢;exact⟨Z5l n a h.1,Z5l n c h.2⟩
 | .iface _ v,h=>by simp only[dv,bdd,Zb3]at h⊢;exact Z22 n v h
theorem Z9F (n:Nat):∀cs:List (TV S),Z5k n cs=true->Z1q n (dvs T cs)=true
 | [],_=>by simp[dvs,Z1q]
 | c::cs,h=>by
  simp only[Z5k,jn]at h;rw[Zu,Z8N,Z9F n cs h.2,Bool.and_true];have hc:=Z22 n c h.1;cases c<;>simp only[Y3,Z1q,Bool.and_true]<;>first|exact hc|skip
  ·exact Z6T n (Yr hT _ _ _)
  ·exact Z6T n (hT.plain _ _)
theorem Z5l (n:Nat):∀cs:List (TV S),Z5k n cs=true->Z1q n (dvl T cs)=true
 | [],_=>by simp[dvl,Z1q]
 | c::cs,h=>by
  simp only[Z5k,jn]at h;simp only[dvl,Z1q,Z22 n c h.1,Z5l n cs h.2,ju]
end
mutual
theorem Z7K:∀v:TV S,Ze (dv T v)=ZX v
 | .bool _=>rfl | .int _ _=>rfl | .str _=>rfl | .nilp=>rfl | .nils=>rfl
 | .sl0=>by simp[dv,Ze,ZX] | .sl _ _=>by simp[dv,Ze,ZX]
 | .arr _ _ _=>by simp[dv,Ze,ZX]
 | .stc _ _=>by simp[dv,Ze,ZX]
 | .narr _ _=>by simp only[dv,Ze,ZX];exact Z7f (Z1f 0 _)
 | .earr _ _ _ _=>by simp only[dv,Ze,ZX];exact Z7f (YC _ _ _ _)
 | .ptr _ _=>by simp[dv,Ze,ZX] | .ap _ _ _ _ _=>by simp[dv,Ze,ZX] | .rptr _ _ _ _ _=>by simp[dv,Ze,ZX]
 | .pub _=>by simp[dv,Ze,ZX]
 | .rv _ _ _ _ _=>by simp[dv,Ze,ZX] | .slen _=>by simp[dv,Ze,ZX]
 | .rs _ _=>by simp[dv,Ze,ZX] | .map _=>by simp[dv,Ze,ZX] | .iter _=>by simp[dv,Ze,ZX] | .yld _=>by simp[dv,Ze,ZX] | .nop _=>by simp[dv,Ze,ZX]
 | .nilfn=>by simp[dv,Ze,ZX] | .nilmap=>by simp[dv,Ze,ZX] | .nilif=>by simp[dv,Ze,ZX]
 | .agg cs=>by simp only[dv,Ze,ZX];exact ZeE cs
 | .tup cs=>by simp only[dv,Ze,ZX];exact Z4v cs
 | .fn _ a c=>by simp[dv,Ze,ZX]
 | .iface _ v=>by simp only[dv,Ze,ZX];exact Z7K v
theorem ZeE:∀cs:List (TV S),Zg (dvs T cs)=Yq cs
 | []=>by simp[dvs,Zg,Yq]
 | c::cs=>by
  rw[Zu,Z5M,Yq,ZeE cs];have h:=Z7K c;cases c<;>simp only[Y3,Zg,jo]<;>first|rw[h]|skip
  ·rw[Z5F (Yr hT _ _ _)];rfl
  ·rw[Z5F (hT.plain _ _)];rfl
  ·rw[Z7f (YC _ _ _ _)];rfl
  ·rw[Z7f (Z1f 0 _)];rfl
theorem Z4v:∀cs:List (TV S),Zg (dvl T cs)=Yq cs
 | []=>by simp[dvl,Zg,Yq]
 | c::cs=>by simp only[dvl,Zg,Yq,Z7K c,Z4v cs]
end
mutual
theorem Zcs:∀v:TV S,Zr (dv T v)=Z2a v
 | .bool _=>rfl | .int _ _=>rfl | .str _=>rfl | .nilp=>rfl | .nils=>rfl
 | .sl0=>by simp[dv,Zr,Z2a] | .sl _ _=>by simp[dv,Zr,Z2a]
 | .arr _ _ _=>by simp[dv,Zr,Z2a]
 | .stc _ _=>by simp[dv,Zr,Z2a]
 | .narr _ _=>by simp[dv,Zr,Z2a,Zh2]
 | .earr _ _ _ _=>by simp[dv,Zr,Z2a]
 | .ptr _ _=>by simp[dv,Zr,Z2a] | .ap _ _ _ _ _=>by simp[dv,Zr,Z2a] | .rptr _ _ _ _ _=>by simp[dv,Zr,Z2a]
 | .pub _=>by simp[dv,Zr,Z2a]
 | .rv _ _ _ _ _=>by simp[dv,Zr,Z2a] | .slen _=>by simp[dv,Zr,Z2a]
 | .rs _ _=>by simp[dv,Zr,Z2a] | .map _=>by simp[dv,Zr,Z2a] | .iter _=>by simp[dv,Zr,Z2a] | .yld _=>by simp[dv,Zr,Z2a] | .nop _=>by simp[dv,Zr,Z2a]
 | .nilfn=>by simp[dv,Zr,Z2a] | .nilmap=>by simp[dv,Zr,Z2a] | .nilif=>by simp[dv,Zr,Z2a]
 | .agg cs=>by simp only[dv,Zr,Z2a];exact ZgH cs
 | .tup cs=>by simp only[dv,Zr,Z2a];exact Z9r cs
 | .fn _ a c=>by simp only[dv,Zr,Z2a,Z9r a,Z9r c]
 | .iface _ v=>by simp only[dv,Zr,Z2a];exact Zcs v
theorem ZgH:∀cs:List (TV S),ZE (dvs T cs)=Z5t cs
 | []=>by simp[dvs,ZE,Z5t]
 | c::cs=>by
  rw[Zu,Z6k,Z5t,ZgH cs];have h:=Zcs c;cases c<;>simp only[Y3,ZE,jo]<;>first|rw[h]|skip
  ·rw[Z6V (Yr hT _ _ _)];rfl
  ·rw[Z6V (hT.plain _ _)];rfl
  ·rfl
  ·rw[Zh2];rfl
theorem Z9r:∀cs:List (TV S),ZE (dvl T cs)=Z5t cs
 | []=>by simp[dvl,ZE,Z5t]
 | c::cs=>by simp only[dvl,ZE,Z5t,Zcs c,Z9r cs]
end
mutual
theorem Z6N (h:Nat->Option (Zi S)):∀v:TV S,frz (dvh T h) (dv T v)=(YE h v).map (dv T)
 | .bool _=>by simp[dv,frz,YE,Zb,Zn] | .int _ _=>by simp[dv,frz,YE,Zb,Zn] | .str _=>by simp[dv,frz,YE,Zb,Zn]
 | .nilp=>by simp[dv,frz,YE,Zb,Zn] | .nils=>by simp[dv,frz,YE]
 | .sl0=>by simp[dv,frz,YE,Zb,Zn] | .sl _ _=>by simp[dv,frz,YE,Zb,Zn]
 | .arr _ _ _=>by simp[dv,frz,YE,Zb,Zn]
 | .stc _ _=>by simp[dv,frz,YE,Zb,Zn]
 | .narr _ _=>by simp[dv,frz,YE,Zn,Z9R _ (Z1f 0 _),Z7E]
 | .earr ts pid n a=>by
  simp only[dv,frz,YE,Zn,Z9R _ (YC _ _ _ _)];cases Za (eal ts pid n a)<;>simp[dv]
 | .ptr _ _=>by simp[dv,frz,YE,Zb,Zn] | .ap _ _ _ _ _=>by simp[dv,frz,YE,Zb,Zn] | .rptr _ _ _ _ _=>by simp[dv,frz,YE,Zb,Zn]
 | .pub cs=>by
  simp only[dv,frz,YE,Zb,Zn,Z1S hT];cases Yg cs<;>simp[dv]
 | .rs id v=>by
  simp only[dv,frz,YE,dvh];cases h id with
  | none=>rfl
  | some o =>
   cases o<;>simp only[jq,jm,dvO,jp];rename_i e t xs p u;cases Nat.beq u v<;>simp[dv]
 | .rv _ _ _ _ _=>by simp[dv,frz,YE,Zb,Zn] | .slen _=>by simp[dv,frz,YE,Zb,Zn]
 | .map _=>by simp[dv,frz,YE,Zb,Zn] | .iter _=>by simp[dv,frz,YE,Zb,Zn] | .yld _=>by simp[dv,frz,YE,Zb,Zn] | .nop _=>by simp[dv,frz,YE,Zb,Zn]
 | .nilfn=>by simp[dv,frz,YE,Zb,Zn] | .nilmap=>by simp[dv,frz,YE,Zb,Zn] | .nilif=>by simp[dv,frz,YE,Zb,Zn]
 | .agg cs=>by
  simp only[dv,frz,YE,Za7 h cs];cases Z2b h cs<;>simp[dv]
 | .tup cs=>by
  simp only[dv,frz,YE,ZdS h cs];cases Z2b h cs<;>simp[dv]
 | .fn f a c=>by
  simp only[dv,frz,YE,Zb,Zn,Z1R hT a,Z1R hT c];cases Yg a&&Yg c<;>simp[dv]
 | .iface t v=>by
  simp only[dv,frz,YE,Z6N h v];cases YE h v<;>simp[dv]
theorem Za7 (h:Nat->Option (Zi S)):∀cs:List (TV S),Z1D (dvh T h) (dvs T cs)=(Z2b h cs).map (dvs T)
 | []=>by simp[dvs,Z1D,Z2b]
 | c::cs=>by
  rw[Zu,Z8W,Za7 h cs,Z2b];have hc:=Z6N h c
  by_cases ha:ZT c=true
  ·cases c<;>simp only[ZT,jg]at ha
   ·simp only[Y3,YE,Zn,jB,jm];rw[Z6U _ (Yr hT _ _ _)];cases Z2b h cs<;>simp[dvs]
   ·simp only[Y3,YE,Zn,jB,jm];rw[Z6U _ (hT.plain _ _)];cases Z2b h cs<;>simp[dvs]
   ·rename_i ts pid n a;simp only[Y3,YE,Zn];rw[Z9R _ (YC _ _ _ _)];cases Za (eal ts pid n a)
    ·rfl
    ·cases Z2b h cs<;>simp[dvs]
   ·simp only[Y3,YE,Zn,jB,jm];rw[Z9R _ (Z1f 0 _),Z7E];cases Z2b h cs<;>simp[dvs]
  ·have f:Y3 T c=[dv T c]:=by cases c<;>simp[Y3,ZT]at ha⊢
   rw[f];simp only[Z1D,hc];cases b:YE h c with
   | none=>rfl
   | some c' =>
    have d:ZT c'=false:=by
     cases c<;>simp[ZT]at ha<;>simp only[YE,Zn,jB,jA,reduceCtorEq,jh]at b<;>first|(subst b;rfl)|skip
     ·obtain⟨_,b⟩:=Z1 b;cases b;rfl
     ·cases ho:h _ with
      | none=>rw[ho]at b;cases b
      | some o =>
       rw[ho]at b;cases o<;>simp only[jm,reduceCtorEq]at b;obtain⟨_,b⟩:=Z1 b;cases b;rfl
     ·obtain⟨_,_,b⟩:=Z0 b;cases b;rfl
     ·obtain⟨_,_,b⟩:=Z0 b;cases b;rfl
     ·obtain⟨_,b⟩:=Z1 b;cases b;rfl
     ·obtain⟨_,_,b⟩:=Z0 b;cases b;rfl
    have e:∀l,dvs T (c'::l)=dv T c'::dvs T l:=fun l=>by
     rw[Zu];cases c'<;>simp[Y3,ZT]at d⊢
    cases Z2b h cs<;>simp[e]
theorem ZdS (h:Nat->Option (Zi S)):∀cs:List (TV S),Z1D (dvh T h) (dvl T cs)=(Z2b h cs).map (dvl T)
 | []=>by simp[dvl,Z1D,Z2b]
 | c::cs=>by
  simp only[dvl,Z1D,Z2b,Z6N h c,ZdS h cs];cases YE h c with
  | none=>rfl
  | some c'=>cases Z2b h cs<;>simp[dvl]
end
theorem Zk6 (E:Env) (h:Nat->Option (Zi S)) (v:TV S):Za4 E (dvh T h) (dv T v)=(ZdQ E h v).map (dv T):=by
 cases v with
 | rv id ver i n e =>
  simp only[dv,Za4,ZdQ,dvh];cases h id with
  | none=>rfl
  | some o =>
   cases o<;>simp only[jq,jm,dvO,jp];rename_i t te xs p u;cases Nat.beq u ver&&Nat.beq (match E.ty t with|some ti=>ti.size|none=>0) e<;>simp[dv,List.map_drop,List.map_take]
 | _=>first|exact Z6N hT h _|(simp only[dv,Za4,ZdQ];exact Z6N hT h _)
theorem Z86 (E:Env) (h:Nat->Option (Zi S)):∀cs:List (TV S),Z4k E (dvh T h) (dvl T cs)=(Z85 E h cs).map (dvl T)
 | []=>by simp[dvl,Z4k,Z85]
 | c::cs=>by
  simp only[dvl,Z4k,Z85,Zk6 hT E h c,Z86 E h cs];cases ZdQ E h c with
  | none=>rfl
  | some c'=>cases Z85 E h cs<;>simp[dvl]
omit hT in
theorem Z9D:∀cs:List (TV S),(dvl T cs).any ZiO=cs.any ZgI
 | []=>by simp[dvl]
 | c::cs=>by
  simp only[dvl,List.any_cons,Z9D cs];cases c<;>simp[dv,ZiO,ZgI]
omit hT in
mutual
theorem Zhh:∀{v v':TV S},Zhg v=some v'->Yu (dv T v)=some (dv T v')
 | .bool _,_,h=>by cases h;simp[dv,Yu]
 | .int _ _,_,h=>by cases h;simp[dv,Yu]
 | .str _,_,h=>by cases h;simp[dv,Yu]
 | .sl0,_,h=>by cases h;simp[dv,Yu]
 | .sl _ _,_,h=>by cases h;simp[dv,Yu]
 | .tup vs,_,h=>by
  simp only[Zhg]at h;obtain⟨vs',a,h⟩:=Z0 h;cases h;simp only[dv,Yu,Zf2 a,jm]
theorem Zf2:∀{vs vs':List (TV S)},Zdd vs=some vs'->Z5U (dvl T vs)=some (dvl T vs')
 | [],_,h=>by cases h;simp[dvl,Z5U]
 | c::cs,_,h=>by
  simp only[Zdd]at h;obtain⟨c',a,h⟩:=Z0 h;obtain⟨cs',b,h⟩:=Z0 h;cases h;simp only[dvl,Z5U,Zhh a,Zf2 b,jm]
end
mutual
theorem ZcR (n:Nat) (L:List (Option (Nat×Nat))):∀(v v':TV S),Z3e n L v=some v'->ren n L (dv T v)=some (dv T v')
 | .rs id v,v',h=>by
  simp only[dv,ren,Z3e]at h⊢;cases hj:Z6i id v 0 L with
  | some j=>rw[hj]at h;cases h;rfl
  | none =>
   rw[hj]at h;obtain⟨d,h⟩:=Z1 h;cases h;simp only[d,jB];rfl
 | .agg cs,v',h=>by
  simp only[Z3e]at h;obtain⟨cs',d,h⟩:=Z0 h;cases h;simp only[dv,ren,Zax n L cs cs' d,jm]
 | .tup cs,v',h=>by
  simp only[Z3e]at h;obtain⟨cs',d,h⟩:=Z0 h;cases h;simp only[dv,ren,Zet n L cs cs' d,jm]
 | .narr ts m,v',h=>by
  simp only[Z3e]at h;obtain⟨_,h⟩:=Z1 h;cases h;simp only[dv,ren,Zh3 n L m,jm]
 | .earr ts pid m a,v',h=>by
  simp only[Z3e]at h;obtain⟨d,h⟩:=Z1 h;cases h;simp only[dv,ren,Zfq n L d (YC _ _ _ _),jm]
 | .bool _,v',h=>by cases h;simp[dv,ren,bdd] | .int _ _,v',h=>by cases h;simp[dv,ren,bdd] | .str _,v',h=>by cases h;simp[dv,ren,bdd]
 | .nilp,v',h=>by cases h;simp[dv,ren,bdd] | .nils,v',h=>by cases h;simp[dv,ren,bdd]
 | .sl0,v',h=>by cases h;simp[dv,ren,bdd] | .sl _ _,v',h=>by cases h;simp[dv,ren,bdd]
 | .arr _ _ _,v',h=>by cases h;simp[dv,ren,bdd]
 | .stc _ _,v',h=>by cases h;simp[dv,ren,bdd]
 | .nilfn,v',h=>by cases h;simp[dv,ren,bdd] | .nilmap,v',h=>by cases h;simp[dv,ren,bdd] | .nilif,v',h=>by cases h;simp[dv,ren,bdd]
 | .ptr i o,v',h=>by
  simp only[Z3e]at h;obtain⟨d,h⟩:=Z1 h;cases h;have:=Z22 hT n (.ptr i o) d;simp only[dv,ren]at this⊢;rw[this];rfl
 | .ap i b j e o,v',h=>by
  simp only[Z3e]at h;obtain⟨d,h⟩:=Z1 h;cases h;have:=Z22 hT n (.ap i b j e o) d;simp only[dv,ren]at this⊢;rw[this];rfl
 | .rptr i w j e o,v',h=>by
  simp only[Z3e]at h;obtain⟨d,h⟩:=Z1 h;cases h;have:=Z22 hT n (.rptr i w j e o) d;simp only[dv,ren]at this⊢;rw[this];rfl
 | .rv i w j m e,v',h=>by
  simp only[Z3e]at h;obtain⟨d,h⟩:=Z1 h;cases h;have:=Z22 hT n (.rv i w j m e) d;simp only[dv,ren]at this⊢;rw[this];rfl
 | .slen _,v',h=>by cases h;simp[dv,ren,bdd]
 | .pub cs,v',h=>by
  simp only[Z3e]at h;obtain⟨d,h⟩:=Z1 h;cases h;have:=Z22 hT n (.pub cs) d;simp only[dv,ren]at this⊢;rw[this];rfl
 | .map i,v',h=>by
  simp only[Z3e]at h;obtain⟨d,h⟩:=Z1 h;cases h;have:=Z22 hT n (.map i) d;simp only[dv,ren]at this⊢;rw[this];rfl
 | .iter i,v',h=>by
  simp only[Z3e]at h;obtain⟨d,h⟩:=Z1 h;cases h;have:=Z22 hT n (.iter i) d;simp only[dv,ren]at this⊢;rw[this];rfl
 | .yld i,v',h=>by
  simp only[Z3e]at h;obtain⟨d,h⟩:=Z1 h;cases h;have:=Z22 hT n (.yld i) d;simp only[dv,ren]at this⊢;rw[this];rfl
 | .nop i,v',h=>by
  simp only[Z3e]at h;obtain⟨d,h⟩:=Z1 h;cases h;have:=Z22 hT n (.nop i) d;simp only[dv,ren]at this⊢;rw[this];rfl
 | .fn f a c,v',h=>by
  simp only[Z3e]at h;obtain⟨d,h⟩:=Z1 h;cases h;have:=Z22 hT n (.fn f a c) d;simp only[dv,ren]at this⊢;rw[this];rfl
 | .iface t v,v',h=>by
  simp only[Z3e]at h;obtain⟨d,h⟩:=Z1 h;cases h;have:=Z22 hT n (.iface t v) d;simp only[dv,ren]at this⊢;rw[this];rfl
theorem Zax (n:Nat) (L:List (Option (Nat×Nat))):∀(cs cs':List (TV S)),Z95 n L cs=some cs'->Z2O n L (dvs T cs)=some (dvs T cs')
 | [],cs',h=>by cases h;simp[dvs,Z2O]
 | c::cs,r,h=>by
  simp only[Z95]at h;obtain⟨c',a,h⟩:=Z0 h;obtain⟨cs',e,h⟩:=Z0 h;cases h;rw[Zu,Z96,Zax n L cs cs' e,Zu];have hc:=ZcR n L c c' a
  by_cases ha:ZT c=true
  ·cases c<;>simp only[ZT,jg]at ha
   ·cases a;simp only[Y3,jm];rw[Z6W n L (Yr hT _ _ _)];rfl
   ·cases a;simp only[Y3,jm];rw[Z6W n L (hT.plain _ _)];rfl
   ·simp only[Z3e]at a;obtain⟨d,a⟩:=Z1 a;cases a;simp only[Y3,jm];rw[Zfq n L d (YC _ _ _ _)];rfl
   ·simp only[Z3e]at a;obtain⟨d,a⟩:=Z1 a;cases a;simp only[Y3,jm];rw[Zh3 n L];rfl
  ·have e1:Y3 T c=[dv T c]:=by cases c<;>simp[Y3,ZT]at ha⊢
   have b:ZT c'=false:=by
    cases c<;>simp[ZT]at ha<;>simp only[Z3e,Zb3,jB,jh]at a<;>first|(subst a;rfl)|(obtain⟨_,a⟩:=Z1 a;cases a;rfl)|(obtain⟨_,_,a⟩:=Z0 a;cases a;rfl)|skip
    rename_i id v;cases hj:Z6i id v 0 L with
    | some j=>rw[hj]at a;cases a;rfl
    | none=>rw[hj]at a;obtain⟨_,a⟩:=Z1 a;cases a;rfl
   have e2:Y3 T c'=[dv T c']:=by cases c'<;>simp[Y3,ZT]at b⊢
   rw[e1,e2];simp only[Z2O,hc,jm]
theorem Zet (n:Nat) (L:List (Option (Nat×Nat))):∀(cs cs':List (TV S)),Z95 n L cs=some cs'->Z2O n L (dvl T cs)=some (dvl T cs')
 | [],cs',h=>by cases h;simp[dvl,Z2O]
 | c::cs,r,h=>by
  simp only[Z95]at h;obtain⟨c',b,h⟩:=Z0 h;obtain⟨cs',a,h⟩:=Z0 h;cases h;simp only[dvl,Z2O,ZcR n L c c' b,Zet n L cs cs' a,jm]
end
omit hT in
theorem Z7O (h:Nat->Option (Zi S)):∀is,Zp (dvh T h) is=dvu T (Z6v h is)
 | []=>rfl
 | i::is=>by
  simp only[Zp,Z6v,Z7O h is,dvh,dvu,List.map_append];cases h i with
  | none=>rfl
  | some o =>
   cases o with
   | row e t xs p u=>simp only[jq,dvO];cases Nat.beq p 1<;>simp[dvO]
   | _=>simp[dvO]
end
end Go.Ab
namespace Go.Ab
variable {S:Nat->Type} {R:Type}
def Zfx:Option (Zi S)->Bool
 | some (.loop ..)=>true
 | _=>false
def Z6B (u:List (Nat×Option (Zi S))):Prop:=∀p∈u,Zfx p.2=false
theorem ZL:Z6B (S:=S) []:=fun _ h=>by cases h
theorem ZP {i:Nat} {x:Option (Zi S)} {u:List (Nat×Option (Zi S))} (b:Zfx x=false) (h:Z6B u):Z6B ((i,x)::u):=fun p a=>by
 rcases jv.1 a with e|a
 ·subst e;exact b
 ·exact h p a
theorem Z2L (h:Nat->Option (Zi S)):∀is,Z6B (Z6v h is)
 | []=>ZL
 | i::is=>fun p a=>by
  simp only[Z6v,List.mem_append]at a;rcases a with a|a
  ·cases hi:h i with
   | none=>rw[hi]at a;simp at a
   | some o =>
    rw[hi]at a;cases o with
    | row e t xs p1 u =>
     simp only at a;cases hb:Nat.beq p1 1 with
     | true=>rw[hb]at a;cases a
     | false=>rw[hb]at a;simp only[jA,List.mem_singleton]at a;subst a;rfl
    | _=>cases a
  ·exact Z2L h is p a
def Sim (T:TS S) (e:Option Out) (k:Z1Z S R) (r:R):Prop:=∃o:Zb2 S,e=some (ZU T o)/\Z6B o.upd/\k o=some r
theorem Zm {T:TS S} {k:Z1Z S R} {r:R} {v:TV S} {e:Option Out} (h:ZM v k=some r) (a:e=ret (dv T v)):Sim T e k r:=⟨⟨some v,[]⟩,by rw[a];rfl,ZL,h⟩
theorem Z25:∀{x y x' y':List DV},Zd x y=true->Zd (x++x') (y++y')=Zd x' y'
 | [],[],_,_,_=>rfl
 | [],_::_,_,_,h=>by simp[Zd]at h
 | a::x,[],_,_,h=>by cases a<;>simp[Zd]at h
 | a::x,b::y,x',y',h=>by
  cases a<;>cases b<;>simp only[Zd,jn,jg]at h<;>simp only[List.cons_append,Zd]
  ·exact Z25 h
  ·rw[h.1,Z25 h.2,Bool.true_and]
  ·exact Z25 h
theorem Z1b:∀{x y x' y':List DV} {p q:Bool},Zj x y=some p->Zj x' y'=some q->Zj (x++x') (y++y')=some (p&&q)
 | [],[],_,_,p,q,h,h'=>by simp[Zj]at h;subst h;simpa using h'
 | [],_::_,_,_,_,_,h,_=>by simp[Zj]at h
 | a::x,[],_,_,_,_,h,_=>by cases a<;>simp[Zj]at h
 | a::x,b::y,x',y',p,q,h,h'=>by
  cases a<;>cases b<;>simp only[Zj,reduceCtorEq]at h<;>simp only[List.cons_append,Zj]
  ·obtain⟨r,c,h⟩:=Z0 h;cases h;rw[Z1b c h'];simp[Bool.and_assoc]
  ·obtain⟨d,h⟩:=Z1 h;obtain⟨r,c,h⟩:=Z0 h;cases h;rw[d,Z1b c h'];simp[Bool.and_assoc]
  ·obtain⟨r,c,h⟩:=Z0 h;cases h;rw[Z1b c h'];simp[Bool.and_assoc]
section
variable (T:TS S)
theorem Zg8 {t:Ty} (a:(Z4a (S:=S) t).isSome=true) (x y:Val S t):Zd (dcl T t x) (dcl T t y)=true:=by
 cases t<;>simp[Z4a]at a<;>simp[dcl,Zd]
theorem ZkD {t:Ty} {e:Val S t->Val S t->Bool} (a:Z4a t=some e) (x y:Val S t):Zj (dcl T t x) (dcl T t y)=some (e x y):=by
 cases t<;>simp only[Z4a,reduceCtorEq]at a<;>cases a<;>simp[dcl,Zj]
theorem Zbc {t:Ty} (c:(Z4a (S:=S) t).isSome=true) (a b:Nat->Val S t):∀l:List Nat,Zd (l.flatMap fun j=>dcl T t (a j)) (l.flatMap fun j=>dcl T t (b j))=true
 | []=>rfl
 | j::l=>by
  simp only[List.flatMap_cons];rw[Z25 (Zg8 T c _ _)];exact Zbc c a b l
theorem Zig {t:Ty} {e:Val S t->Val S t->Bool} (c:Z4a t=some e) (a b:Nat->Val S t):∀l:List Nat,Zj (l.flatMap fun j=>dcl T t (a j)) (l.flatMap fun j=>dcl T t (b j))=some (l.all fun j=>e (a j) (b j))
 | []=>rfl
 | j::l=>by
  simp only[List.flatMap_cons,jt];exact Z1b (ZkD T c _ _) (Zig c a b l)
theorem Z2g:∀{z a:List (TV S)},Z3D z a=true->Zd (dvs T z) (dvs T a)=true
 | [],[],_=>by simp[dvs,Zd]
 | [],_::_,h=>by simp[Z3D]at h
 | z::zs,[],h=>by cases z<;>simp[Z3D]at h
 | z::zs,a::as,h=>by
  cases z<;>cases a<;>simp only[Z3D,jn,jg]at h<;>simp only[dvs,dv,Zd]
  ·exact Z2g h
  ·rw[h.1,Z2g h.2];rfl
  ·exact Z2g h
  ·obtain⟨⟨⟨b,c⟩,d⟩,e⟩:=h;have b:=of_decide_eq_true b;have c:=je c;subst b c;exact(Z25 (Zbc T d _ _ (List.range _))).trans (Z2g e)
theorem Z1N:∀{a b:List (TV S)} {r:Bool},Z1a a b=some r->Zj (dvs T a) (dvs T b)=some r
 | [],[],r,h=>by simp[Z1a]at h;subst h;simp[dvs,Zj]
 | [],_::_,_,h=>by simp[Z1a]at h
 | z::zs,[],_,h=>by cases z<;>simp[Z1a]at h
 | z::zs,a::as,r,h=>by
  cases z<;>cases a<;>simp only[Z1a,reduceCtorEq]at h<;>simp only[dvs,dv,Zj]
  ·obtain⟨q,c,h⟩:=Z0 h;rw[Z1N c];exact h
  ·obtain⟨d,h⟩:=Z1 h;obtain⟨q,c,h⟩:=Z0 h;rw[d,Z1N c];exact h
  ·obtain⟨q,c,h⟩:=Z0 h;rw[Z1N c];exact h
  ·split at h
   ·rename_i e;obtain⟨d,h⟩:=Z1 h;obtain⟨eq,c,h⟩:=Z0 h;obtain⟨q,f,h⟩:=Z0 h;cases h;have d:=je d;subst e d;exact Z1b (Zig T c _ _ _) (Z1N f)
   ·cases h
end
variable {X:Y2 S} (hX:XOk X)
include hX
theorem ZjP {op:BinOp} {t:TypeId} {x y:TV S} {k:Z1Z S R} {r:R} (h:Zl2 X op t x y k=some r):Sim X.T ((Zb4 X.E op t (dv X.T x) (dv X.T y)).bind ret) k r:=by
 unfold Zl2 at h;split at h
 ·rename_i kd a kd' b;simp only[dv,Zb4];cases op<;>simp only[reduceCtorEq]at h<;>simp only[Z61,jA,jB,Zka,Zd8,ZjU,Zgw]
  case shl =>
   cases hb:decide (b<0)with
   | true=>rw[hb]at h;cases h
   | false=>rw[hb]at h;exact Zm h rfl
  case shr =>
   cases hb:decide (b<0)with
   | true=>rw[hb]at h;cases h
   | false=>rw[hb]at h;exact Zm h rfl
  case quo =>
   obtain⟨e,h⟩:=Z1 h;rw[e];cases hb:b==0 with
   | true=>rw[hb]at h;cases h
   | false=>rw[hb]at h;exact Zm h rfl
  case rem =>
   obtain⟨e,h⟩:=Z1 h;rw[e];cases hb:b==0 with
   | true=>rw[hb]at h;cases h
   | false=>rw[hb]at h;exact Zm h rfl
  all_goals
   obtain⟨e,h⟩:=Z1 h;rw[e];exact Zm h rfl
 ·rename_i a b;simp only[dv,Zb4,ZkG];cases op<;>simp only[reduceCtorEq]at h
  case add =>
   obtain⟨e,h⟩:=Z1 h;rw[e];exact Zm h rfl
  all_goals exact Zm h rfl
 ·rename_i a b;obtain⟨ti,d,h⟩:=Z0 h;simp only[dv,Zb4,d,jm];cases hk:ti.k<;>rw[hk]at h<;>first|(cases h;done)|skip
  cases op<;>simp only[reduceCtorEq]at h<;>exact Zm h rfl
 ·rename_i a b;obtain⟨ti,d,h⟩:=Z0 h;obtain⟨z,i,h⟩:=Z0 h;obtain⟨f,h⟩:=Z1 h;simp only[jn]at f;simp only[dv,Zb4,d,jm];have hz:=hX.zero t z ti i d;have k1:=Z2g X.T f.1.2;have k2:=Z2g X.T f.2;rw[Z2z hX.t,Z2z hX.t]at k1 k2;rw[f.1.1,<-hz,k1,k2];simp only[ju,jB];split at h
  ·obtain⟨q,g,h⟩:=Z0 h;have k3:=Z1N X.T g;rw[Z2z hX.t,Z2z hX.t]at k3;rw[k3];exact Zm h rfl
  ·obtain⟨q,g,h⟩:=Z0 h;have k3:=Z1N X.T g;rw[Z2z hX.t,Z2z hX.t]at k3;rw[k3];exact Zm h rfl
  ·cases h
 ·rename_i tt xs;obtain⟨ti,d,h⟩:=Z0 h;cases xs with
  | nil =>
   cases hk:ti.k<;>rw[hk]at h<;>first|(cases h;done)|skip
   cases op<;>simp at h
  | cons c cs =>
   simp only[dv,jr,Zb4,d,jm];cases hk:ti.k<;>rw[hk]at h<;>first|(cases h;done)|skip
   cases op<;>simp only[reduceCtorEq]at h<;>exact Zm h rfl
 ·obtain⟨ti,d,h⟩:=Z0 h;simp only[dv,Zb4,d,jm];cases hk:ti.k<;>rw[hk]at h<;>first|(cases h;done)|skip
  cases op<;>simp only[reduceCtorEq]at h<;>exact Zm h rfl
 ·cases h
omit hX in
theorem Zko {op:BinOp} {t:TypeId} {k:Z1Z S R} {r:R} (h:Zla X op t k=some r):Sim X.T ((Zj5 X.E op t).bind ret) k r:=by
 unfold Zla at h;obtain⟨ti,a,h⟩:=Z0 h;simp only[Zj5,a,jm];cases hk:ti.k<;>rw[hk]at h<;>first|(cases h;done)|skip
 cases op<;>simp only[reduceCtorEq]at h<;>exact Zm h rfl
omit hX in
theorem Zlr {T:TS S} {op:UnOp} {x:TV S} {k:Z1Z S R} {r:R} (h:unK op x k=some r):Sim T ((unD op (dv T x)).bind ret) k r:=by
 unfold unK at h;split at h
 ·split at h
  ·exact Zm h rfl
  ·cases h
 ·split at h
  ·exact Zm h rfl
  ·cases h
 ·cases h
omit hX in
theorem Z60 {T:TS S} {n:Nat} {x:TV S} {k:Nat->Option R} {r:R} (h:ZdV n x k=some r):∃i,Z3B n (dv T x)=some i/\i<n/\k i=some r:=by
 unfold ZdV at h;split at h
 ·rename_i kd i;obtain⟨a,h⟩:=Z1 h;have b:=a;simp only[jn,jk]at b;refine⟨i.toNat,?_,by omega,h⟩
  simp only[dv,Z3B];rw[a];rfl
 ·cases h
omit hX in
theorem Z1K {T:TS S} {d:Option (TV S)} {dflt y:Nat} {k:Nat->Option R} {r:R} (h:Z44 d dflt y k=some r):∃i,Z2V (d.map (dv T)) dflt y=some i/\k i=some r:=by
 unfold Z44 at h;split at h
 ·exact⟨dflt,rfl,h⟩
 ·rename_i kd i;obtain⟨a,h⟩:=Z1 h;refine⟨i.toNat,?_,h⟩;simp only[jq,dv,Z2V];rw[a];rfl
 ·cases h
omit hX in
theorem ZhA {T:TS S} (h:Nat->Option (Zi S)) (d:TV S):Z3A (dvh T h) (dv T d)=Z7l h d:=by
 cases d with
 | rs id v =>
  simp only[dv,Z3A,Z7l,dvh];cases h id with
  | none=>rfl
  | some o=>cases o<;>rfl
 | _=>simp[dv,Z3A,Z7l]
omit hX in
theorem Z4g {T:TS S} {t:Ty} {h:Nat->Option (Zi S)} {x:TV S} {xs:List (Val S t)} (a:Z83 t h x=some xs):ZV (dvh T h) (dv T x)=some (xs.map (dcl T t)):=by
 unfold Z83 at a;split at a
 ·cases a;rfl
 ·cases a;simp[dv,ZV]
 ·split at a
  ·rename_i e;subst e;cases a;simp[dv,ZV]
  ·cases a
 ·rename_i id v;obtain⟨o,b,a⟩:=Z0 a;simp only[dv,ZV,dvh,b,jq,jm];cases o<;>simp only[reduceCtorEq]at a;obtain⟨c,a⟩:=Z1 a;split at a
  ·rename_i e;subst e;cases a;simp only[dvO,c,jB]
  ·cases a
 ·cases a
omit hX in
theorem Z4o {i n:Nat} (h:i<n):List.range n=List.range i++(i::List.range' (i+1) (n-(i+1))):=by
 rw[List.range_eq_range',List.range_eq_range',<-List.range'_succ,show n-(i+1)+1=n-i by omega]
 have:=(List.range'_append_1 (s:=0) (m:=i) (n:=n-i));rw[Nat.zero_add,show i+(n-i)=n by omega]at this
 exact this.symm
omit hX in
theorem ZdB {T:TS S} {pid m:Nat} {k:Z1Z S R} {r:R}:∀{ts:List TypeId} {j:Nat},Zk0 pid m ts j k=some r->j<=m->∃v:TV S,dv T v=enD pid ts (m-j+1)/\ZM v k=some r
 | [],_,h,_=>by cases h
 | t::ts,j,h,hj=>by
  simp only[Zk0]at h;cases hq:Nat.beq m j with
  | true =>
   rw[hq]at h;have:=je hq;subst this;refine⟨_,?_,h⟩;rw[Nat.sub_self];simp[dv,dvs,enD]
  | false =>
   rw[hq]at h;have a:m≠j:=fun e=>by subst e;rw[Nat.beq_refl]at hq;cases hq
   obtain⟨v,c,b⟩:=ZdB h (by omega)
   refine⟨v,?_,b⟩;rw[c,show m-j+1=(m-(j+1))+2 by omega]
   simp[enD]
omit hX in
theorem Zk1 {T:TS S} {ts:List TypeId} {pid m:Nat} {k:Z1Z S R} {r:R} (h:enK ts pid m k=some r):∃v:TV S,dv T v=enD pid ts m/\ZM v k=some r:=by
 unfold enK at h;cases hq:Nat.beq m 0 with
 | true =>
  rw[hq]at h;have:=je hq;subst this;exact⟨.nilif,by cases ts<;>rfl,h⟩
 | false =>
  rw[hq]at h;have a:m≠0:=fun e=>by subst e;cases hq
  obtain⟨v,c,b⟩:=ZdB (T:=T) h (by omega)
  exact⟨v,by rw[c,show m-1+1=m by omega],b⟩
theorem Z9Q {cs:List (TV S)} {base n pid:Nat} {ts:List TypeId} {a:Nat->Nat} (h:Zci X.T cs base=some (ts,pid,n,a)):∃q,base+n<=(dvs X.T cs).length/\(dvs X.T cs).drop base=eal ts pid n a++q:=by
 unfold Zci at h;obtain⟨q,d,h⟩:=Z0 h;split at h
 ·rename_i ts' pid' n' a' q' c;cases h;obtain⟨e,b⟩:=Z1M hX.t d;rw[<-Z3a hX.t 10 q,c,Zu]at b;refine⟨dvs X.T q',?_,b⟩;have:=congrArg List.length b;simp[Y3,eal]at this;rw[Y4 hX.t];rw[Y4 hX.t]at this;omega
 ·cases h
theorem Ze5 {ti:TI} {h:Nat->Option (Zi S)} {a:TV S} {k:Z1Z S R} {r:R} (b:ZgN X ti h a k=some r):Sim X.T ((Z3E ti (dvh X.T h) (dv X.T a)).bind ret) k r:=by
 unfold ZgN at b;split at b
 ·rename_i id off;obtain⟨o,ho,b⟩:=Z0 b;simp only[dv,Z3E,dvh,ho,jq,jm];cases o<;>simp only[reduceCtorEq]at b;obtain⟨v,d,b⟩:=Z0 b;simp only[dvO,(Z4n hX.t d).1];exact Zm b rfl
 ·rename_i id base i e off;obtain⟨o,ho,b⟩:=Z0 b;simp only[dv,Z3E,dvh,ho,jq,jm];cases o<;>simp only[reduceCtorEq]at b;rename_i ct cs;split at b
  ·rename_i ts pid n a hE;obtain⟨d,g⟩:=Z1 b;obtain⟨c,w⟩:=Z1 g;clear b g;simp only[jn,Bool.not_eq_true']at d;obtain⟨⟨h3,h4⟩,y⟩:=d;have h3:=je h3;have h4:=je h4;subst h3 h4;have c:i<n:=by simpa[Tr.blt_dec]using c
   obtain⟨v,h6,f⟩:=Zk1 (T:=X.T) w;obtain⟨q,h8,h9⟩:=Z9Q hX hE;have hp:YP ti (dvs X.T cs) (base+i*1+0)=some (dv X.T v):=by
    unfold YP;rw[y];simp only[jA];have:(dvs X.T cs)[base+i*1+0]?=((dvs X.T cs).drop base)[i]? := by simp
    rw[this,h9,List.getElem?_append_left (by simp[eal];exact c),h6]
    simp[eal,c]
   simp only[dvO,hp];exact Zm f rfl
  obtain⟨A,hA,b⟩:=Z0 b;obtain⟨t,n,a⟩:=A;simp only at b;obtain⟨d,g⟩:=Z1 b;obtain⟨c,w⟩:=Z1 g;obtain⟨v,h3,hk3⟩:=Z0 w;clear b g w;have d:=je d;have c:i<n:=by simpa[Tr.blt_dec]using c
  subst d;unfold Z8M at hA;obtain⟨q,h4,hA⟩:=Z0 hA;split at hA
  ·rename_i t' n' a' q' hq';cases hA;obtain⟨y,h6⟩:=Z1M hX.t h4;rw[<-Z3a hX.t 10 q,hq']at h6;rw[<-Y4 hX.t q,<-Z3a hX.t 10 q,hq',Y4 hX.t]at y;obtain⟨f,h8⟩:=Z4n hX.t h3;rw[Z3l hX.t]at f;have h9:YP ti (dvs X.T cs) (base+i*tsz X.T t+off)=some (dv X.T v):=by
    have z:∀m,(dvs X.T cs).drop (base+m)=(acl X.T t n a++dvs X.T q').drop m:=fun m=>by
     rw[<-List.drop_drop,h6,Zu];rfl
    have l:=Y4 hX.t cs;rw[y]at l;simp only[wds,wd]at l;have hin:(i+1)*tsz X.T t<=n*tsz X.T t:=Nat.mul_le_mul_right _ c;have s:∀m,m<=tsz X.T t->∃rest,(acl X.T t n a++dvs X.T q').drop (i*tsz X.T t+m)=(dcl X.T t (a i)).drop m++rest:=fun m hm=>by
     refine⟨((List.range' (i+1) (n-(i+1))).flatMap fun j=>dcl X.T t (a j))++dvs X.T q',?_⟩;have x:acl X.T t n a=((List.range i).flatMap fun j=>dcl X.T t (a j))++(dcl X.T t (a i)++(List.range' (i+1) (n-(i+1))).flatMap fun j=>dcl X.T t (a j)):=by
      unfold acl;rw[Z4o c,List.flatMap_append,List.flatMap_cons]
     have hl:((List.range i).flatMap fun j=>dcl X.T t (a j)).length=i*tsz X.T t:=Z17 hX.t t i a;rw[x,jj,List.drop_append,hl,jd (by rw[hl];omega),List.nil_append,Nat.add_sub_cancel_left,jj,List.drop_append_of_le_length (by rw[Y9 hX.t];exact hm)]
    unfold YP at f⊢;cases hag:ti.isAgg with
    | true =>
     rw[hag]at f;simp only[jB]at f⊢;obtain⟨h10,h11⟩:=Z1 f;rw[Nat.ble_eq,Y9 hX.t]at h10;obtain⟨rest,hr⟩:=s off (by omega)
     have hle:Nat.ble (base+i*tsz X.T t+off+ti.size) (dvs X.T cs).length=true:=by
      rw[Nat.ble_eq,l];rw[Nat.add_mul,Nat.one_mul]at hin;omega
     rw[hle,Nat.add_assoc,z,hr];simp only[jB];rw[List.take_append_of_le_length (by rw[List.length_drop,Y9 hX.t];omega)]
     exact h11
    | false =>
     rw[hag]at f;simp only[jA]at f⊢;have hlt:=(jc.1 f).1;rw[Y9 hX.t]at hlt;obtain⟨rest,hr⟩:=s off (by omega)
     have:(dvs X.T cs)[base+i*tsz X.T t+off]?=((dvs X.T cs).drop (base+(i*tsz X.T t+off)))[0]? := by simp[Nat.add_assoc]
     rw[this,z,hr,List.getElem?_append_left (by rw[List.length_drop,Y9 hX.t];omega)]
     simpa using f
   simp only[dvO,h9];exact Zm hk3 rfl
  ·cases hA
 ·rename_i id v i e off;obtain⟨o,ho,b⟩:=Z0 b;simp only[dv,Z3E,dvh,ho,jq,jm];cases o<;>simp only[reduceCtorEq]at b;rename_i re t xs p u;obtain⟨d,b⟩:=Z1 b;obtain⟨c,b⟩:=Z1 b;obtain⟨q,h3,b⟩:=Z0 b;have c:i<xs.length:=by simpa[Tr.blt_dec]using c
  simp only[jn]at d;have h4:=je d.2;have y:=(Z4n hX.t h3).1;rw[Z3l hX.t]at y;have h6:xs.getD i (tdf X.T t)=xs[i]:=by simp[List.getD_eq_getElem?_getD,c]
  rw[h6]at y;simp only[dvO,List.getElem?_map,List.getElem?_eq_getElem c,jq,jm];have f:Nat.beq (dcl X.T t xs[i]).length e=true:=by rw[Y9 hX.t,<-h4];exact Nat.beq_refl _
  rw[d.1,f,y];exact Zm b rfl
 ·rename_i cs;obtain⟨v,d,b⟩:=Z0 b;simp only[dv,Z3E,(Z4n hX.t d).1];exact Zm b rfl
 ·cases b
end Go.Ab
namespace Go.Ab
variable {S:Nat->Type} {R:Type}
theorem Z4c {T:TS S} {t:Ty} {n i:Nat} (h:i<n) (a:Nat->Val S t) :
  acl T t n a=((List.range i).flatMap fun j=>dcl T t (a j))++(dcl T t (a i)++(List.range' (i+1) (n-(i+1))).flatMap fun j=>dcl T t (a j)):=by
 unfold acl;rw[Z4o h,List.flatMap_append,List.flatMap_cons]
theorem Zgr {T:TS S} {t:Ty} {n i:Nat} (h:i<n) (a:Nat->Val S t) (x:Val S t) :
  acl T t n (fun j=>bif Nat.beq j i then x else a j)=((List.range i).flatMap fun j=>dcl T t (a j))++(dcl T t x++(List.range' (i+1) (n-(i+1))).flatMap fun j=>dcl T t (a j)):=by
 rw[Z4c h];have e1:∀j∈List.range i,dcl T t ((fun j=>bif Nat.beq j i then x else a j) j)=dcl T t (a j):=fun j b=>by
  have:j<i:=List.mem_range.1 b;have c:Nat.beq j i=false:=by rw[Tr.beq_dec];simp;omega
  simp[c]
 have e2:∀j∈List.range' (i+1) (n-(i+1)),dcl T t ((fun j=>bif Nat.beq j i then x else a j) j)=dcl T t (a j):=fun j b=>by
  have:=List.mem_range'_1.1 b;have c:Nat.beq j i=false:=by rw[Tr.beq_dec];simp;omega
  simp[c]
 have e3:Nat.beq i i=true:=Nat.beq_refl i;simp only[e3,jB];congr 1
 ·rw[List.flatMap_def,List.flatMap_def,List.map_congr_left e1]
 ·congr 1;rw[List.flatMap_def,List.flatMap_def,List.map_congr_left e2]
variable {X:Y2 S} (hX:XOk X)
include hX
theorem Z66 (t:TypeId) (cs:List (TV S)):dvs X.T (ZbG X t cs)=dvs X.T cs:=by
 unfold ZbG;cases X.code t with
 | none=>rfl
 | some c =>
  simp only;cases hd:Z7S X.T c cs with
  | none=>rfl
  | some x=>simp only;rw[Z3l hX.t,Z2Q hX.t hd]
omit hX in
theorem ZgA {pid:Nat} {l:List DV} (h:l.all (Z5v pid)=true):l.all Zv=true:=by
 rw[List.all_eq_true]at h⊢;intro d a;rcases Z1E (h d a)with rfl|⟨t,rfl⟩<;>rfl
theorem Z5m {v:TV S} (h:(Yb v).all Z7n=true):(cellsOf (dv X.T v)).all Zv=true:=by
 rw[YB];generalize Yb v=cs at h
 induction cs with
 | nil=>simp[dvs]
 | cons c cs ih =>
  simp only[jt,jn]at h;rw[Zu,List.all_append,ih h.2,Bool.and_true];cases c<;>simp only[Z7n,jg]at h<;>simp only[Y3,dv,jt,List.all_nil,Zv,Bool.and_true]
  ·exact Z2M (Yr hX.t _ _ _)
  ·exact Z2M (hX.t.plain _ _)
  ·exact ZgA (YC _ _ _ _)
  ·exact ZgA (Z1f 0 _)
  ·exact absurd h.1 (by simp)
  ·exact absurd h.1 (by simp)
omit hX in
theorem ZjZ {ts:List TypeId} {pid n i m:Nat} {ar:Nat->Nat} (h:i<n):eal ts pid n (fun j=>bif Nat.beq j i then m else ar j)=(eal ts pid n ar).take i++[enD pid ts m]++(eal ts pid n ar).drop (i+1):=by
 have b:∀j,j≠i->Nat.beq j i=false:=fun j a=>by
  cases hq:Nat.beq j i with
  | false=>rfl
  | true=>exact absurd (je hq) a
 have d:(eal ts pid n ar).take i=(List.range i).map fun j=>enD pid ts (ar j):=by
  unfold eal;rw[Z4o h,List.map_append,List.take_left' (by simp)]
 have c:(eal ts pid n ar).drop (i+1)=(List.range' (i+1) (n-(i+1))).map fun j=>enD pid ts (ar j):=by
  unfold eal;rw[Z4o h,List.map_append,jr,List.drop_append];simp
 rw[d,c];unfold eal;rw[Z4o h,List.map_append,jr];simp only[Nat.beq_refl,jB];have e1:(List.range i).map (fun j=>enD pid ts (bif Nat.beq j i then m else ar j))=(List.range i).map fun j=>enD pid ts (ar j):=List.map_congr_left fun j a=>by
  rw[b j (by have:=List.mem_range.1 a;omega)];rfl
 have e2:(List.range' (i+1) (n-(i+1))).map (fun j=>enD pid ts (bif Nat.beq j i then m else ar j))=(List.range' (i+1) (n-(i+1))).map fun j=>enD pid ts (ar j):=List.map_congr_left fun j a=>by
  rw[b j (by have:=List.mem_range'_1.1 a;omega)];rfl
 rw[e1,e2];simp
omit hX in
theorem ZdW {pid:Nat} {t:TypeId}:∀{ts:List TypeId} {j m:Nat},Zk9 t ts j=some m->j<=m/\enD pid ts (m-j+1)=.iface t (.agg [.ptr pid 0])
 | [],_,_,h=>by cases h
 | u::ts,j,m,h=>by
  simp only[Zk9]at h;cases hq:Nat.beq u t with
  | true =>
   rw[hq]at h;cases h;have:=je hq;subst this;exact⟨Nat.le_refl _,by rw[Nat.sub_self];simp[enD]⟩
  | false =>
   rw[hq]at h;obtain⟨b,a⟩:=ZdW (pid:=pid) h;refine⟨by omega,?_⟩
   rw[show m-j+1=(m-(j+1))+2 by omega]
   simpa[enD]using a
omit hX in
theorem ZiF {ts:List TypeId} {pid m:Nat} {v:TV S} (h:Zl3 ts pid v=some m):dvs X.T (Yb v)=[enD pid ts m]/\Yb v=[v]/\wds X.T (Yb v)=1:=by
 unfold Zl3 at h;split at h
 ·cases h;exact⟨by cases ts<;>simp[Yb,dvs,dv,enD],rfl,rfl⟩
 ·rename_i t p;obtain⟨b,hi⟩:=Z1 h;have a:=je b;obtain⟨d,c⟩:=ZdW (pid:=pid) hi;refine⟨?_,rfl,rfl⟩;rw[show m=m-1+1 by omega,c,a]
  simp[Yb,dvs,dv]
 ·cases h
theorem Zi2 {ti:TI} {h:Nat->Option (Zi S)} {a v:TV S} {k:Z1Z S R} {r:R} (b:Zge X ti h a v k=some r) :
  Sim X.T ((Z5R ti (dvh X.T h) (dv X.T a) (dv X.T v)).bind fun u=>some ⟨some (.tup []),u⟩) k r:=by
 unfold Zge at b;have h0:=(Z1 b).1;replace b:=(Z1 b).2;simp only[jn]at h0;have hc:(Nat.beq (cellsOf (dv X.T v)).length ti.size&&(cellsOf (dv X.T v)).all Zv)=true:=by
  rw[Z5m hX h0.2,YB,Y4 hX.t,h0.1];rfl
 have hsz:=je h0.1;unfold Z5R;rw[hc];simp only[jB];cases a with
 | ptr id off =>
  simp only at b;obtain⟨o,ho,b⟩:=Z0 b;cases o<;>simp only[reduceCtorEq]at b;rename_i ct cs;obtain⟨cs',g,b⟩:=Z0 b;obtain⟨d,h3⟩:=Z1g hX.t g;have f:Nat.ble (off+ti.size) (dvs X.T cs).length=true:=by rw[Nat.ble_eq,Y4 hX.t];omega
  refine⟨_,?_,?_,b⟩
  ·simp only[dv,dvh,ho,jq,jm,dvO,f,jB,YB,h3];simp[ZU,dvu,dvO,dv,dvl,Z66 hX]
  ·exact ZP rfl ZL
 | ap id base i e off =>
  simp only at b;obtain⟨o,ho,b⟩:=Z0 b;cases o<;>simp only[reduceCtorEq]at b;rename_i ct cs;split at b
  ·rename_i ts pid n ar hE;obtain⟨g,hk1⟩:=Z1 b;obtain⟨d,hk2⟩:=Z1 hk1;obtain⟨m,hm,hk3⟩:=Z0 hk2;obtain⟨cs',h5,hk4⟩:=Z0 hk3;clear b hk1 hk2 hk3;simp only[jn]at g;obtain⟨h3,h4⟩:=g;have h3:=je h3;have h4:=je h4;subst h3 h4;have d:i<n:=by simpa[Tr.blt_dec]using d
   obtain⟨q,h8,h9⟩:=Z9Q hX hE;obtain⟨hv,_,hw⟩:=ZiF (X:=X) hm;have hts:ti.size=1:=by rw[<-hsz,hw]
   obtain⟨g1,g2⟩:=Z1g hX.t h5;have f:Nat.ble (base+i*1+0+ti.size) (dvs X.T cs).length=true:=by rw[Nat.ble_eq,hts];omega
   have w:Yc (dvs X.T cs) (base+i*1+0) (dvs X.T (Yb v))=dvs X.T cs':=by
    rw[<-g2,hv];have l:dvs X.T [.earr ts pid n (fun j=>bif Nat.beq j i then m else ar j)]=eal ts pid n (fun j=>bif Nat.beq j i then m else ar j):=by simp[dvs]
    have hl1:(eal ts pid n (fun j=>bif Nat.beq j i then m else ar j)).length=n:=by simp[eal]
    have z:(eal ts pid n ar).length=n:=by simp[eal]
    rw[l,Z11 _ _ _ (by simp;omega),Z11 _ _ _ (by rw[hl1];exact h8),hl1]
    have e1:(dvs X.T cs).take (base+i*1+0)=(dvs X.T cs).take base++(eal ts pid n ar).take i:=by
     rw[Nat.mul_one,Nat.add_zero,List.take_add,h9,List.take_append_of_le_length (by rw[z];omega)]
    have e2:(dvs X.T cs).drop (base+i*1+0+[enD pid ts m].length)=(eal ts pid n ar).drop (i+1)++(dvs X.T cs).drop (base+n):=by
     have hq:(dvs X.T cs).drop (base+n)=q:=by
      rw[<-List.drop_drop,h9,List.drop_append,z,Nat.sub_self,jd (by rw[z];exact Nat.le_refl _)];rfl
     rw[hq,show base+i*1+0+[enD pid ts m].length=base+(i+1) by simp;omega,<-List.drop_drop,h9,List.drop_append_of_le_length (by rw[z];omega)]
    have e3:eal ts pid n (fun j=>bif Nat.beq j i then m else ar j)=(eal ts pid n ar).take i++[enD pid ts m]++(eal ts pid n ar).drop (i+1):=by
     exact ZjZ d
    rw[e1,e2,e3];simp only[jj]
   refine⟨_,?_,ZP rfl ZL,hk4⟩;simp only[dv,dvh,ho,jq,jm,dvO,f,jB,YB,w];simp[ZU,dvu,dvO,dv,dvl]
  obtain⟨A,hA,b⟩:=Z0 b;obtain⟨t,n,ar⟩:=A;simp only at b;obtain⟨g,b⟩:=Z1 b;obtain⟨d,b⟩:=Z1 b;obtain⟨c,h3,b⟩:=Z0 b;obtain⟨x,h4,b⟩:=Z0 b;obtain⟨cs',h5,b⟩:=Z0 b;have g:=je g;have d:i<n:=by simpa[Tr.blt_dec]using d
  obtain⟨h6,h7⟩:=Z1g hX.t h3;obtain⟨h8,h9⟩:=Z1g hX.t h5;rw[Z3l hX.t,Z2Q hX.t h4]at h7;unfold Z8M at hA;obtain⟨q,h10,hA⟩:=Z0 hA;split at hA
  ·rename_i t' n' a' q' hq';cases hA;obtain⟨h11,h12⟩:=Z1M hX.t h10;rw[<-Z3a hX.t 10 q,hq']at h12;rw[<-Y4 hX.t q,<-Z3a hX.t 10 q,hq',Y4 hX.t]at h11;have hlenT:wds X.T (tcl X.T t (ar i))=tsz X.T t:=by rw[<-Y4 hX.t,Z3l hX.t,Y9 hX.t]
   rw[hlenT]at h6;have hlen:=Y4 hX.t cs;rw[h11]at hlen;simp only[wds,wd]at hlen;have hin:i*tsz X.T t+tsz X.T t<=n*tsz X.T t:=by
    have:=Nat.mul_le_mul_right (tsz X.T t) d;rw[Nat.succ_mul]at this;exact this
   have f:Nat.ble (base+i*e+off+ti.size) (dvs X.T cs).length=true:=by rw[Nat.ble_eq,g];omega
   have w:Yc (dvs X.T cs) (base+i*e+off) (dvs X.T (Yb v))=dvs X.T cs':=by
    rw[<-h9];have y:(dvs X.T (Yb v)).length=wds X.T (Yb v):=Y4 hX.t _;rw[Z11 _ _ _ (by rw[y,g];omega)]
    have s:∀m,(dvs X.T cs).drop (base+m)=(acl X.T t n ar++dvs X.T q').drop m:=fun m=>by
     rw[<-List.drop_drop,h12,Zu];rfl
    have hal:(acl X.T t n (fun j=>bif Nat.beq j i then x else ar j)).length=n*tsz X.T t:=Z17 hX.t t n _;have l:dvs X.T [.arr t n (fun j=>bif Nat.beq j i then x else ar j)]=acl X.T t n (fun j=>bif Nat.beq j i then x else ar j):=by simp[dvs]
    rw[l,Z11 _ _ _ (by rw[hal];omega),hal]
    have hpre:(dvs X.T cs).take (base+i*e+off)=(dvs X.T cs).take base++(acl X.T t n ar++dvs X.T q').take (i*e+off):=by
     have:=s 0;rw[Nat.add_zero,List.drop_zero]at this;rw[<-this,Nat.add_assoc,List.take_add]
    have hq:(dvs X.T cs).drop (base+n*tsz X.T t)=dvs X.T q':=by
     rw[s,List.drop_append,Z17 hX.t,Nat.sub_self,jd (by rw[Z17 hX.t];exact Nat.le_refl _)];rfl
    rw[hpre,hq,Nat.add_assoc base,Nat.add_assoc base,s,y,Zgr d ar x,<-h7,Z11 _ _ _ (by rw[y,Y9 hX.t];omega),Z4c d ar,y]
    have hl:((List.range i).flatMap fun j=>dcl X.T t (ar j)).length=i*tsz X.T t:=Z17 hX.t t i ar;have hd:=Y9 hX.t t (ar i);generalize ((List.range i).flatMap fun j=>dcl X.T t (ar j))=P1 at *;generalize ((List.range' (i+1) (n-(i+1))).flatMap fun j=>dcl X.T t (ar j))=P2 at *;generalize dcl X.T t (ar i)=M at *;generalize dvs X.T (Yb v)=Vv at *;have e1:((P1++(M++P2))++dvs X.T q').take (i*e+off)=P1++M.take off:=by
     rw[jj,List.take_append,hl,g,List.take_of_length_le (by rw[hl];omega),Nat.add_sub_cancel_left,jj,List.take_append_of_le_length (by rw[hd];omega)]
    have e2:((P1++(M++P2))++dvs X.T q').drop (i*e+off+wds X.T (Yb v))=M.drop (off+wds X.T (Yb v))++P2++dvs X.T q':=by
     rw[jj,List.drop_append,hl,g,jd (by rw[hl];omega),List.nil_append,show i*tsz X.T t+off+wds X.T (Yb v)-i*tsz X.T t=off+wds X.T (Yb v) by omega,jj,List.drop_append_of_le_length (by rw[hd];omega),jj]
    rw[e1,e2];simp only[jj]
   refine⟨_,?_,?_,b⟩
   ·simp only[dv,dvh,ho,jq,jm,dvO,f,jB,YB,w];simp[ZU,dvu,dvO,dv,dvl,Z66 hX]
   ·exact ZP rfl ZL
  ·cases hA
 | rptr id v' i e off =>
  simp only at b;obtain⟨o,ho,b⟩:=Z0 b;cases o<;>simp only[reduceCtorEq]at b;rename_i et t xs p u;obtain⟨g,b⟩:=Z1 b;obtain⟨d,b⟩:=Z1 b;obtain⟨c,h3,b⟩:=Z0 b;obtain⟨x,h4,b⟩:=Z0 b;simp only[jn]at g;obtain⟨⟨⟨hu,he⟩,hp⟩,hf⟩:=g;have d:i<xs.length:=by simpa[Tr.blt_dec]using d
  have he':=je he;obtain⟨h6,h7⟩:=Z1g hX.t h3;have hw:wds X.T (tcl X.T t (xs.getD i (tdf X.T t)))=tsz X.T t:=by rw[<-Y4 hX.t,Z3l hX.t,Y9 hX.t]
  rw[hw]at h6;rw[Z3l hX.t,Z2Q hX.t h4]at h7;have hget:(xs.map (dcl X.T t))[i]? = some (dcl X.T t (xs.getD i (tdf X.T t))):=by
   rw[List.getElem?_map,List.getElem?_eq_getElem d,List.getD_eq_getElem?_getD,List.getElem?_eq_getElem d];rfl
  have f:Nat.ble (off+ti.size) (dcl X.T t (xs.getD i (tdf X.T t))).length=true:=by rw[Nat.ble_eq,Y9 hX.t];omega
  have hb:(Nat.beq u v'&&Nat.beq (dcl X.T t (xs.getD i (tdf X.T t))).length e&&Nat.beq p 0&&Za (cellsOf (dv X.T v))&&Nat.ble (off+ti.size) (dcl X.T t (xs.getD i (tdf X.T t))).length)=true:=by
   rw[f,hu,Y9 hX.t,he,hp,YB,Z1S hX.t,hf];rfl
  refine⟨_,?_,ZP rfl ZL,b⟩;simp only[dv,dvh,ho,jq,jm,dvO,hget,hb,jB];rw[YB,h7];simp[ZU,dvu,dvO,dv,dvl,List.map_set]
 | _=>cases b
end Go.Ab
namespace Go.Ab
variable {S:Nat->Type} {R:Type} {X:Y2 S} (hX:XOk X)
include hX
theorem Z2J {t:Ty} {n:Nat} (a:tsz X.T t=n) (xs:List (Val S t)):(xs.map (dcl X.T t)).all (fun c=>Nat.beq c.length n)=true:=by
 rw[List.all_eq_true];intro c hc;obtain⟨x,_,rfl⟩:=List.mem_map.1 hc;rw[Y9 hX.t,a];exact Nat.beq_refl n
omit hX in
theorem Zfh (T:TS S) (s:ByteArray):(Zfg s).map (fun n=>[DV.int .u8 n])=Z4E s:=by
 rw[Zhm];unfold Z4E;rw[List.map_map];rfl
omit hX in
theorem Zin {h:Nat->Option (Zi S)} {t t':TypeId} {te:Ty} {x:TV S} {xs:List (Val S te)} (a:Zim X h t t' te x=some xs):Z8L X.E (dvh X.T h) t t' (dv X.T x)=some (xs.map (dcl X.T te)):=by
 unfold Zim at a;unfold Z8L;cases hb:Nat.beq t t' with
 | true =>
  rw[hb]at a;exact Z4g a
 | false =>
  rw[hb]at a;simp only[jA]at a⊢;split at a
  ·rename_i s;obtain⟨ti,c,a⟩:=Z0 a;split at a
   ·rename_i b;split at a
    ·rename_i q;subst q;cases a;simp only[dv,c,jm,b];exact congrArg some (Zfh X.T s).symm
    ·cases a
   ·cases a
  ·cases a
theorem Zfc {nid:Nat} {h:Nat->Option (Zi S)} {t t':TypeId} {s x:TV S} {k:Z1Z S R} {r:R} (a:Zc9 X nid h t t' s x k=some r) :
  Sim X.T (Z2q X.E nid (dvh X.T h) t t' (dv X.T s) (dv X.T x)) k r:=by
 unfold Zc9 at a;obtain⟨ti,l,a⟩:=Z0 a;unfold Z2q;rw[l];simp only[jm];split at a
 ·rename_i e i;simp only[i];obtain⟨ei,d,a⟩:=Z0 a;obtain⟨te,g,a⟩:=Z0 a;obtain⟨xs,j,a⟩:=Z0 a;obtain⟨m,a⟩:=Z1 a;have b:=(hX.code e te ei g d).1;rw[d,Zin j];simp only[jm,m,jB];cases s with
  | nils =>
   cases xs with
   | nil=>exact Zm a rfl
   | cons y ys =>
    simp only at a;obtain⟨c,a⟩:=Z1 a;refine⟨_,?_,ZP rfl ZL,a⟩;simp only[dv,jr];rw[<-jr,Z2J hX b.symm,List.length_map,c];simp[ZU,dvu,dvO,dv]
  | rs id v =>
   simp only at a;obtain⟨o,f,a⟩:=Z0 a;cases o<;>simp only[reduceCtorEq]at a;rename_i e' te' es p u;obtain⟨c,a⟩:=Z1 a;split at a
   ·rename_i q;subst q;obtain⟨n,a⟩:=Z1 a;refine⟨_,?_,ZP rfl ZL,a⟩;simp only[dv,dvh,f,jq,jm,dvO];rw[c,Z2J hX b.symm,List.length_map,List.length_map,n];simp[ZU,dvu,dvO,dv]
   ·cases a
  | _=>cases a
 ·cases a
theorem Z8h (ρ:Nat->Option (TV S)):∀{ps:List (Nat×Operand)} {vs:List (Nat×TV S)},Zas ρ ps=some vs->Z2i (dvr X.T ρ) ps=some (vs.map fun p=>(p.1,dv X.T p.2))
 | [],vs,h=>by cases h;rfl
 | (i,x)::ps,vs,h=>by
  simp only[Zas]at h;obtain⟨v,a,h⟩:=Z0 h;obtain⟨vs',b,h⟩:=Z0 h;cases h;simp only[Z2i,ZF,a,jq,jm,Z8h ρ b,jr]
theorem Z9X {fs:List (Nat×Nat)}:∀{ps:List (Nat×TV S)} {cs r:List (TV S)},Z9q X fs ps cs=some r->Z1d fs X.E (ps.map fun p=>(p.1,dv X.T p.2)) (dvs X.T cs)=some (dvs X.T r)
 | [],cs,r,h=>by cases h;rfl
 | (i,v)::ps,cs,r,h=>by
  simp only[Z9q]at h;obtain⟨⟨ft,off⟩,f,h⟩:=Z0 h;obtain⟨ti,b,h⟩:=Z0 h;obtain⟨d,h⟩:=Z1 h;obtain⟨cs',c,h⟩:=Z0 h;simp only at b c;obtain⟨j,e⟩:=Z1g hX.t c;have g:=je d;have a:Nat.ble (off+ti.size) (dvs X.T cs).length=true:=by rw[Nat.ble_eq,Y4 hX.t];omega
  simp only[jr,Z1d,f,jm,b,YB,Y4 hX.t (Yb v),d,a,ju,jB,e];exact Z9X h
theorem Z9W {t:Ty} {n:Nat}:∀{ps:List (Nat×TV S)} {a a':Nat->Val S t},Z9p X t n ps a=some a'->Z1Q (tsz X.T t) (ps.map fun p=>(p.1,dv X.T p.2)) (acl X.T t n a)=some (acl X.T t n a')
 | [],a,a',h=>by cases h;rfl
 | (i,v)::ps,a,a',h=>by
  simp only[Z9p]at h;obtain⟨x,g,h⟩:=Z0 h;obtain⟨c,h⟩:=Z1 h;have c:i<n:=by simpa[Tr.blt_dec]using c
  have k:cellsOf (dv X.T v)=dcl X.T t x:=by
   rw[Z3T hX.t g];cases t<;>rfl
  have b:i*tsz X.T t+tsz X.T t<=n*tsz X.T t:=by
   have:=Nat.mul_le_mul_right (tsz X.T t) c;rw[Nat.succ_mul]at this;exact this
  have f:Yc (acl X.T t n a) (i*tsz X.T t) (dcl X.T t x)=acl X.T t n (fun j=>bif Nat.beq j i then x else a j):=by
   rw[Z11 _ _ _ (by rw[Z17 hX.t,Y9 hX.t];exact b),Zgr c,Z4c c,Y9 hX.t]
   have e:((List.range i).flatMap fun j=>dcl X.T t (a j)).length=i*tsz X.T t:=Z17 hX.t t i a;generalize ((List.range i).flatMap fun j=>dcl X.T t (a j))=P1 at *;rw[List.take_append_of_le_length (by omega),List.take_of_length_le (by omega),List.drop_append,jd (by omega),List.nil_append,e,Nat.add_sub_cancel_left,List.drop_append,jd (by rw[Y9 hX.t];exact Nat.le_refl _),Y9 hX.t,Nat.sub_self,List.drop_zero,List.nil_append,jj]
  have l:Nat.beq (dcl X.T t x).length (tsz X.T t)=true:=by rw[Y9 hX.t];exact Nat.beq_refl _
  have d:Nat.ble (i*tsz X.T t+tsz X.T t) (acl X.T t n a).length=true:=by rw[Nat.ble_eq,Z17 hX.t];exact b
  simp only[jr,Z1Q,k,l,d,ju,jB,f];exact Z9W h
theorem ZeF {h:Nat->Option (Zi S)} {t:Ty}:∀{k:Nat} {ps:List (Nat×TV S)} {xs:List (Val S t)},Zh6 X h t k ps=some xs->Z6s (dvh X.T h) (tsz X.T t) k (ps.map fun p=>(p.1,dv X.T p.2))=some (xs.map (dcl X.T t))
 | _,[],xs,hr=>by cases hr;rfl
 | k,(i,v)::ps,xs,hr=>by
  simp only[Zh6]at hr;obtain⟨d,hr⟩:=Z1 hr;obtain⟨c,a,hr⟩:=Z0 hr;obtain⟨x,f,hr⟩:=Z0 hr;obtain⟨r,b,hr⟩:=Z0 hr;cases hr;have e:=Z2Q hX.t f;simp only[jr,Z6s,YB,Y4 hX.t,d,jB,Za7 hX.t,a,jq,jm,e,Z2M (Z3o hX.t t x),ZeF b]
theorem Z6t:∀(vs:List (Nat×TV S)),Zg ((vs.map fun p=>(p.1,dv X.T p.2)).map (·.2))=Yq (vs.map (·.2))
 | []=>rfl
 | v::vs=>by simp only[jr,Zg,Yq,Z7K hX.t,Z6t vs]
theorem Zbe {cs:List (TV S)} {base n:Nat} {t:Ty} {a:Nat->Val S t} (h:Z8M X.T cs base=some ⟨t,n,a⟩):∃q,base+n*tsz X.T t<=(dvs X.T cs).length/\(dvs X.T cs).drop base=acl X.T t n a++q:=by
 unfold Z8M at h;obtain⟨q,e,h⟩:=Z0 h;split at h
 ·rename_i t' n' a' q' d;cases h;obtain⟨f,b⟩:=Z1M hX.t e;rw[<-Z3a hX.t 10 q,d,Zu]at b;refine⟨dvs X.T q',?_,b⟩;have c:=congrArg List.length b;rw[List.length_drop,List.length_append]at c;simp only[Y3]at c;rw[Z17 hX.t]at c
  by_cases h0:n*tsz X.T t=0
  ·have:wds X.T cs=base+wds X.T q:=f;rw[Y4 hX.t];omega
  ·omega
 ·cases h
theorem Z6G (t:Ty):∀(n:Nat) (a:Nat->Val S t) (q:List DV),Z16 (tsz X.T t) n (acl X.T t n a++q)=((List.range n).map a).map (dcl X.T t)
 | 0,_,_=>rfl
 | n+1,a,q=>by
  have c:acl X.T t (n+1) a=dcl X.T t (a 0)++acl X.T t n (fun j=>a (j+1)):=by
   unfold acl;rw[List.range_succ_eq_map,List.flatMap_cons,List.flatMap_map]
  have b:=Y9 hX.t t (a 0);unfold Z16;rw[c,jj,<-b,List.take_left,List.drop_left,b,Z6G t n,List.range_succ_eq_map,jr,jr,List.map_map,List.map_map,List.map_map];rfl
theorem Zae {t:Ty} {e:Val S t->Val S t->Bool} (a:Zad X.T t=some e) (x y:Val S t):Z7o (Yt X.T t x) (Yt X.T t y)=some (e x y):=by
 cases t with
 | st i =>
  have b:X.T.seq i=some e:=a;have h:=hX.t.seq i e b x y;show Zj (X.T.dcells i x) (X.T.dcells i y)=some (e x y);exact h
 | bool=>cases a;rfl
 | int k=>cases a;simp[Yt,Z7o]
 | str=>cases a;rfl
 | sl t=>cases a
 | arr n t=>cases a
theorem ZbC {kt et:Ty} {e:Val S kt->Val S kt->Bool} (a:Zad X.T kt=some e) (key:Val S kt):∀m:List (Val S kt×Val S et),
  Z3c (Yt X.T kt key) (m.map fun p=>(Yt X.T kt p.1,Yt X.T et p.2))=some ((Zal e key m).map (Yt X.T et))
 | []=>rfl
 | (k',v)::m=>by
  simp only[jr,Z3c,Zae hX a,jm,Zal];cases e key k' with
  | true=>rfl
  | false=>simp only[jA];exact ZbC a key m
theorem Zea {kt et:Ty} {e:Val S kt->Val S kt->Bool} (a:Zad X.T kt=some e) (key:Val S kt) (x:Val S et):∀m:List (Val S kt×Val S et),
  Z5z (Yt X.T kt key) (Yt X.T et x) (m.map fun p=>(Yt X.T kt p.1,Yt X.T et p.2))=some ((Zkn e key x m).map fun p=>(Yt X.T kt p.1,Yt X.T et p.2))
 | []=>rfl
 | (k',v)::m=>by
  simp only[jr,Z5z,Zae hX a,jm,Zkn];cases e key k' with
  | true=>simp
  | false=>simp only[jA,Zea a key x m,jm,jr]
theorem Z8Z {ki:TI} {kt:TypeId} (c:X.E.ty kt=some ki) {t:Ty} {x:Val S t} (h:Z7p X.T ki (X.zero kt) t x=true):Yn ki (Yt X.T t x)=true:=by
 unfold Z7p at h;split at h
 ·rename_i k n x a;simp[Yt,Yn,a]
 ·rename_i x a;simp[Yt,Yn,a]
 ·rename_i x a;simp[Yt,Yn,a]
 ·rename_i fs i x a;simp only[jn]at h;obtain⟨⟨f,e⟩,b⟩:=h;cases hz:X.zero kt with
  | none=>rw[hz]at b;cases b
  | some z =>
   rw[hz]at b;simp only at b;have d:=Z2g X.T b;rw[Z2z hX.t,Z2z hX.t,hX.zero kt z ki hz c]at d;simp only[dvs,jo]at d;simp[Yt,Yn,a,f,e,d]
 ·cases h
omit hX in
theorem Zhu {T:TS S} {t:Ty} (h:YZ t=false) (x:Val S t):Zv (Yt T t x)=true/\Zb (Yt T t x)=true:=by
 cases t<;>simp[YZ]at h<;>simp[Yt,Zv,Zb]
theorem Zke {k:TK} {h:Nat->Option (Zi S)} {d v:TV S} (a:Zl8 k h d=some v):Z6d k (dvh X.T h) (dv X.T d)=some (dv X.T v):=by
 unfold Zl8 at a;split at a<;>first|(cases a;done)|skip
 ·cases a;simp[dv,Z6d]
 ·cases a;simp[dv,Z6d]
 ·obtain⟨o,b,a⟩:=Z0 a;cases o<;>simp only[reduceCtorEq]at a;cases a;simp[dv,Z6d,dvh,b,dvO]
 ·cases a;simp[dv,Z6d,ZV]
 ·cases a;simp[dv,Z6d,ZV]
 ·cases a;simp[dv,Z6d]
 ·cases a;simp[dv,Z6d,ZV]
 ·obtain⟨o,b,a⟩:=Z0 a;cases o<;>simp only[reduceCtorEq]at a;obtain⟨c,a⟩:=Z1 a;cases a;simp[dv,Z6d,dvh,b,dvO,ZV,c]
 ·cases a;simp[dv,Z6d]
theorem Za2 {f:TV S->TV S->Option (TV S)} {g:DV->DV->Option DV} (a:∀x y z,f x y=some z->g (dv X.T x) (dv X.T y)=some (dv X.T z)):∀{xs:List (TV S)} {x z:TV S},ZdJ f x xs=some z->Z7j g (dv X.T x) (dvl X.T xs)=some (dv X.T z)
 | [],x,z,h=>by cases h;simp[dvl,Z7j]
 | y::ys,x,z,h=>by
  simp only[ZdJ]at h;obtain⟨w,b,h⟩:=Z0 h;simp only[dvl,Z7j,a _ _ _ b,jm];exact Za2 a h
theorem Zkk (x y z:TV S) (h:Zj0 x y=some z):Ze9 (dv X.T x) (dv X.T y)=some (dv X.T z):=by
 unfold Zj0 at h;split at h
 ·cases h;simp[dv,Ze9]
 ·cases h
theorem Zkj (x y z:TV S) (h:ZiY x y=some z):Ze8 (dv X.T x) (dv X.T y)=some (dv X.T z):=by
 unfold ZiY at h;split at h
 ·cases h;simp[dv,Ze8]
 ·cases h
omit hX in
theorem Zis (s:ByteArray) (i:Nat) (hi:i<s.size):(s[i]?).bind (fun b=>ret (.int .u8 b.toNat))=ret (.int .u8 (s.toList.getD i 0).toNat):=by
 have a:s[i]? = some s[i]:=by simp[hi]
 rw[a];have c:s.toList.getD i 0=s[i]:=by
  rw[List.getD_eq_getElem?_getD];simp[ByteArray.toList_eq,hi];rfl
 rw[c];rfl
end Go.Ab
namespace Go.Ab
variable {S:Nat->Type} {R:Type} {X:Y2 S} (hX:XOk X)
include hX
theorem Z4D {nid:Nat} {ρ:Nat->Option (TV S)} {h:Nat->Option (Zi S)} {op:Op} {k:Z1Z S R} {r:R} (c:opK X nid ρ h op k=some r)
  (hop:(∃t ps,op=.build t ps)\/(∃t n ps,op=.buildSlice t n ps)\/(∃t x lo hi,op=.slice t x lo hi none)\/(∃t x i,op=.indexAddr t x i)\/(∃t x i,op=.index t x i)\/(∃t m x ok,op=.lookup t m x ok)\/(∃t m x v,op=.mapUpdate t m x v)) :
  Sim X.T (Zw X.E nid (dvr X.T ρ) (dvh X.T h) op) k r:=by
 rcases hop with⟨t,ps,rfl⟩|⟨t,n,ps,rfl⟩|⟨t,x,lo,hi,rfl⟩|⟨t,x,i,rfl⟩|⟨t,x,i,rfl⟩|⟨t,m,x,ok,rfl⟩|⟨t,m,x,v,rfl⟩
 ·simp only[opK]at c;obtain⟨ti,h1,b⟩:=Z0 c;replace c:=b;clear b;obtain⟨vs,h2,b⟩:=Z0 c;replace c:=b;clear b;obtain⟨z,h3,b⟩:=Z0 c;replace c:=b;clear b;have hz:=hX.zero t z ti h3 h1;simp only[Zw,h1,jm,Z8h hX ρ h2];split at c
  ·rename_i fs g;obtain⟨cs,y,b⟩:=Z0 c;replace c:=b;clear b;simp only[g];rw[<-hz,Z9X hX y];exact Zm c rfl
  ·rename_i len e g;obtain⟨ei,hei,b⟩:=Z0 c;replace c:=b;clear b;obtain⟨te,y,b⟩:=Z0 c;replace c:=b;clear b;split at c
   ·rename_i te' n a;split at c
    ·rename_i q;subst q;obtain⟨a',f,b⟩:=Z0 c;replace c:=b;clear b;simp only[g];have a0:=(hX.code e te' ei y hei).1;have hz':ti.zero=acl X.T te' n a:=by rw[<-hz];simp[dvs]
     simp only[hei,jm];rw[hz',a0,Z9W hX f];refine Zm c ?_;simp[dv,dvs,ret]
    ·cases c
   ·cases c
  ·cases c
 ·simp only[opK]at c;obtain⟨ti,h1,b⟩:=Z0 c;replace c:=b;clear b;simp only[Zw,h1,jm];split at c
  ·rename_i e g;obtain⟨ei,h2,b⟩:=Z0 c;replace c:=b;clear b;obtain⟨te,h3,b⟩:=Z0 c;replace c:=b;clear b;obtain⟨vs,y,b⟩:=Z0 c;replace c:=b;clear b;obtain⟨es,f,b⟩:=Z0 c;replace c:=b;clear b;obtain⟨w,b⟩:=Z1 c;replace c:=b;clear b;have a0:=(hX.code e te ei h3 h2).1;simp only[g,h2,jm,Z8h hX ρ y];rw[a0,ZeF hX f];simp only[jm,List.length_map];rw[a0]at w;rw[w];refine⟨_,?_,ZP rfl (Z2L _ _),c⟩;simp only[jB,ZU,dvu,jr,jq,dvO,dv,Z7O,Z6t hX]
  ·cases c
 ·simp only[opK]at c;obtain⟨ti,h1,b⟩:=Z0 c;replace c:=b;clear b;obtain⟨d,h2,b⟩:=Z0 c;replace c:=b;clear b;obtain⟨lo',h3,b⟩:=Z0 c;replace c:=b;clear b;obtain⟨hi',y,b⟩:=Z0 c;replace c:=b;clear b;simp only[Zw,h1,jm,ZF,h2,jq,Zle,h3,y];split at c
  ·rename_i s g;simp only[g,dv];obtain⟨hh,f,b⟩:=Z1K (T:=X.T) c;replace c:=b;clear b;obtain⟨l,w,b⟩:=Z1K (T:=X.T) c;replace c:=b;clear b;simp only[Zgh,f,w,jm];exact Zm c rfl
  ·rename_i n e id off g;obtain⟨ei,f,b⟩:=Z0 c;replace c:=b;clear b;obtain⟨o,ho,b⟩:=Z0 c;replace c:=b;clear b;cases o<;>simp only[reduceCtorEq]at c;rename_i ct cs;obtain⟨A,hA,b⟩:=Z0 c;replace c:=b;clear b;obtain⟨h8,b⟩:=Z1 c;replace c:=b;clear b;obtain⟨hh,h9,b⟩:=Z1K (T:=X.T) c;replace c:=b;clear b;obtain⟨l,p,b⟩:=Z1K (T:=X.T) c;replace c:=b;clear b;obtain⟨t,m,a⟩:=A;simp only[jn]at h8;obtain⟨⟨e1,e2⟩,e3⟩:=h8;have e1:=je e1;have e2:=je e2;subst e1;obtain⟨q,g1,g2⟩:=Zbe hX hA;have hal:=Z17 hX.t t m a;have hdl:=congrArg List.length g2;rw[List.length_drop,List.length_append,hal]at hdl
   have c1:Nat.ble (off+m*ei.size) (dvs X.T cs).length=true:=by rw[Nat.ble_eq,<-e2];omega
   have c2:Za (((dvs X.T cs).drop off).take (m*ei.size))=true:=by
    rw[g2,<-e2,<-hal,List.take_left];exact Z1V (Yr hX.t t m a)
   have c3:Z16 ei.size m ((dvs X.T cs).drop off)=((List.range m).map a).map (dcl X.T t):=by
    rw[g2,<-e2];exact Z6G hX t m a q
   simp only[g,dv,f,jm,dvh,ho,jq,dvO,c1,c2,e3,ju,jB,c3,Z5d,List.length_map,List.length_range,h9,p];refine⟨_,?_,ZP rfl ZL,c⟩;simp[ZU,dvu,dv,List.map_drop,List.map_take]
  ·rename_i n e cs g;obtain⟨ei,f,b⟩:=Z0 c;replace c:=b;clear b;obtain⟨A,hA,b⟩:=Z0 c;replace c:=b;clear b;obtain⟨h8,b⟩:=Z1 c;replace c:=b;clear b;obtain⟨hh,h9,b⟩:=Z1K (T:=X.T) c;replace c:=b;clear b;obtain⟨l,p,b⟩:=Z1K (T:=X.T) c;replace c:=b;clear b;obtain⟨t,m,a⟩:=A;simp only[jn]at h8;obtain⟨⟨e1,e2⟩,e3⟩:=h8;have e1:=je e1;have e2:=je e2;subst e1;obtain⟨q,g1,g2⟩:=Zbe hX hA;rw[Nat.zero_add]at g1;rw[List.drop_zero]at g2;have c1:Nat.ble (m*ei.size) (dvs X.T cs).length=true:=by rw[Nat.ble_eq,<-e2];exact g1
   have c2:(dvs X.T cs).all Zv=true:=by
    have:=Z5m hX (v:=.agg cs) e3;simpa[cellsOf,dv]using this
   have c3:Z16 ei.size m (dvs X.T cs)=((List.range m).map a).map (dcl X.T t):=by
    rw[g2,<-e2];exact Z6G hX t m a q
   simp only[g,dv,f,jm,c1,c2,ju,jB,c3,Z5d,List.length_map,List.length_range,h9,p];unfold ZM at c;refine⟨_,?_,ZL,c⟩;simp[ret,ZU,dvu,dv,List.map_drop,List.map_take]
  ·rename_i d _ d' e g;obtain⟨ei,f,b⟩:=Z0 c;replace c:=b;clear b;obtain⟨te,w,b⟩:=Z0 c;replace c:=b;clear b;obtain⟨es,u,b⟩:=Z0 c;replace c:=b;clear b;obtain⟨h8,b⟩:=Z1 c;replace c:=b;clear b;obtain⟨hh,h9,b⟩:=Z1K (T:=X.T) c;replace c:=b;clear b;obtain⟨l,p,b⟩:=Z1K (T:=X.T) c;replace c:=b;clear b;have a0:=(hX.code e te ei w f).1;have hhid:=ZhA (T:=X.T) h d;cases hvw:ti.view&&Z7l h d with
   | true =>
    rw[hvw]at c;simp only[jB]at c;unfold ZkW at c;split at c
    ·unfold ZM at c;have he7:=Z4g (T:=X.T) u;simp only[dv]at he7 hhid;simp only[g,f,jm,dv,he7,Z2J hX a0.symm,h8,ju,jB,hhid,hvw,Zhe,List.length_map,h9,p];refine⟨_,?_,ZL,c⟩;simp[ret,ZU,dvu,dv]
    ·cases c
   | false =>
   rw[hvw]at c;simp only[jA]at c;simp only[g,f,jm,Z4g u,Z2J hX a0.symm,h8,ju,jB,hhid,hvw,jA,Z5d,List.length_map,h9,p];refine⟨_,?_,Z2L _ _,c⟩;simp only[ZU,jq,dv,List.map_drop,List.map_take,Z7O,Z7K hX.t]
  ·cases c
 ·simp only[opK]at c;obtain⟨ti,h1,b⟩:=Z0 c;replace c:=b;clear b;obtain⟨d,h2,b⟩:=Z0 c;replace c:=b;clear b;obtain⟨i',h3,b⟩:=Z0 c;replace c:=b;clear b;simp only[Zw,h1,jm,ZF,h2,jq,h3];split at c
  ·rename_i len e g;obtain⟨ei,y,b⟩:=Z0 c;replace c:=b;clear b;simp only[g,y,jm];cases d with
   | ptr id o =>
    simp only at c;obtain⟨j,f,w,b⟩:=Z60 (T:=X.T) c;replace c:=b;clear b;obtain⟨_,b⟩:=Z1 c;replace c:=b;clear b;simp only[f,jm,dv,Z1i];exact Zm c (by simp[dv,ret])
   | pub cs0 =>
    simp only at c;split at c
    ·rename_i t' n a cs hcs;obtain⟨f,b⟩:=Z1 c;replace c:=b;clear b;obtain⟨j,w,u,b⟩:=Z60 (T:=X.T) c;replace c:=b;clear b;simp only[jn]at f;have e1:=je f.1;have e2:=je f.2;subst e1;have hl:((List.range j).flatMap fun j=>dcl X.T t' (a j)).length=j*tsz X.T t':=Z17 hX.t t' j a;have hcut:(dvs X.T cs0).drop (j*ei.size)=dvs X.T (tcl X.T t' (a j)++.arr t' (n-(j+1)) (fun m=>a (j+1+m))::cs):=by
      rw[<-Z3a hX.t 10 cs0,hcs,Z2d,Zu,Zu,Z3l hX.t,<-e2];simp only[Y3];rw[Z4c u,jj,List.drop_append,hl,Nat.sub_self,jd (by omega),List.nil_append,List.drop_zero,jj]
      congr 2;unfold acl;rw[List.range'_eq_map_range,List.flatMap_map]
     simp only[w,jm,dv,Z1i,hcut];exact Zm c (by simp[dv,ret])
    ·cases c
   | _=>cases c
  ·rename_i e g;obtain⟨ei,y,b⟩:=Z0 c;replace c:=b;clear b;simp only[g,y,jm];cases d with
   | sl te xs =>
    simp only at c;obtain⟨f,b⟩:=Z1 c;replace c:=b;clear b;obtain⟨j,w,u,b⟩:=Z60 (T:=X.T) c;replace c:=b;clear b;simp only[jn]at f;have e1:=je f.1;have hg:xs.getD j (tdf X.T te)=xs[j]:=by simp[List.getD_eq_getElem?_getD,u]
    rw[hg]at c;simp only[dv,List.length_map,w,jm,List.getElem?_map,List.getElem?_eq_getElem u,jq];have h8:Nat.beq (dcl X.T te xs[j]).length ei.size=true:=by rw[Y9 hX.t,e1];exact Nat.beq_refl _
    rw[h8,f.2];exact Zm c (by simp[dv,Z3l hX.t,ret])
   | rs id v =>
    simp only at c;obtain⟨o,ho,b⟩:=Z0 c;replace c:=b;clear b;cases o<;>simp only[reduceCtorEq]at c;obtain⟨f,b⟩:=Z1 c;replace c:=b;clear b;obtain⟨j,w,u,b⟩:=Z60 (T:=X.T) c;replace c:=b;clear b;simp only[dv,dvh,ho,jq,jm,dvO,List.length_map,w,f,jB];exact Zm c rfl
   | _=>cases c
  ·cases c
 ·simp only[opK]at c;obtain⟨ti,h1,b⟩:=Z0 c;replace c:=b;clear b;obtain⟨d,h2,b⟩:=Z0 c;replace c:=b;clear b;obtain⟨i',h3,b⟩:=Z0 c;replace c:=b;clear b;simp only[Zw,h1,jm,ZF,h2,jq,h3];split at c
  ·rename_i len e te n a g;obtain⟨ei,y,b⟩:=Z0 c;replace c:=b;clear b;obtain⟨f,b⟩:=Z1 c;replace c:=b;clear b;obtain⟨j,w,u,b⟩:=Z60 (T:=X.T) c;replace c:=b;clear b;simp only[jn]at f;have e1:=je f.1.1;have e2:=je f.1.2;have e3:=eq_of_beq f.2;subst e1;simp only[g,y,jm,dv,w];have hp:YP ei (dvs X.T [.arr te n a]) (j*ei.size)=some (Yt X.T te (a j)):=by
    have hl:((List.range j).flatMap fun j=>dcl X.T te (a j)).length=j*tsz X.T te:=Z17 hX.t te j a;have hd:=Y9 hX.t te (a j);have hal:=Z17 hX.t te n a;have hin:j*tsz X.T te+tsz X.T te<=n*tsz X.T te:=by
     have:=Nat.mul_le_mul_right (tsz X.T te) u;rw[Nat.succ_mul]at this;exact this
    simp only[dvs,jo];unfold YP;rw[<-e2,e3];have hle:Nat.ble (j*tsz X.T te+tsz X.T te) (acl X.T te n a).length=true:=by rw[Nat.ble_eq,hal];exact hin
    have hdrop:(acl X.T te n a).drop (j*tsz X.T te)=dcl X.T te (a j)++(List.range' (j+1) (n-(j+1))).flatMap fun j=>dcl X.T te (a j):=by
     rw[Z4c u,List.drop_append,hl,Nat.sub_self,jd (by omega)];rfl
    cases hag:YZ te with
    | true =>
     simp only[jB,hle,hdrop];rw[List.take_append_of_le_length (by omega),List.take_of_length_le (by omega)]
     cases te<;>simp[YZ]at hag<;>rfl
    | false =>
     simp only[jA];have:(acl X.T te n a)[j*tsz X.T te]?=((acl X.T te n a).drop (j*tsz X.T te))[0]? := by simp
     rw[this,hdrop,Z9M _ hag];rfl
   rw[hp];exact Zm c (by rw[Z1Y hX.t];rfl)
  ·rename_i s g;obtain⟨j,w,u,b⟩:=Z60 (T:=X.T) c;replace c:=b;clear b;simp only[g,dv,w,jm,Zis s j u];exact Zm c rfl
  ·cases c
 ·simp only[opK]at c;obtain⟨ti,h1,b⟩:=Z0 c;replace c:=b;clear b;obtain⟨mv,h2,b⟩:=Z0 c;replace c:=b;clear b;obtain⟨kv,h3,b⟩:=Z0 c;replace c:=b;clear b;simp only[Zw,h1,jm,ZF,h2,jq,h3];split at c
  ·rename_i kt e id g;obtain⟨ei,y,b⟩:=Z0 c;replace c:=b;clear b;obtain⟨ki,f,b⟩:=Z0 c;replace c:=b;clear b;obtain⟨z,w,b⟩:=Z0 c;replace c:=b;clear b;obtain⟨o,ho,b⟩:=Z0 c;replace c:=b;clear b;cases o<;>simp only[reduceCtorEq]at c;rename_i kc ec es;obtain⟨key,h8,b⟩:=Z0 c;replace c:=b;clear b;obtain⟨u,b⟩:=Z1 c;replace c:=b;clear b;obtain⟨zv,h9,b⟩:=Z0 c;replace c:=b;clear b;obtain⟨eq,p,b⟩:=Z0 c;replace c:=b;clear b;simp only[jn,Bool.not_eq_true']at u;obtain⟨⟨⟨q1,q2⟩,q3⟩,q4⟩:=u;have hz:=hX.zero e z ei w y;have hkey:=Z3T hX.t h8
   have hzd:ei.zero=[Yt X.T ec zv]:=by rw[<-hz,Z2Q hX.t h9,Z9M _ q4]
   simp only[g,y,f,jm,dv,dvh,ho,jq,dvO,hkey,Z8Z hX f q1,q2,q3,Bool.not_false,ju,jB,ZbC hX p,hzd];cases hm:Zal eq key es with
   | none =>
    rw[hm]at c;cases ok
    ·exact Zm c (by simp[Z1Y hX.t])
    ·exact Zm c (by simp[dv,dvl,Z1Y hX.t])
   | some v =>
    rw[hm]at c;cases ok
    ·exact Zm c (by simp[Z1Y hX.t])
    ·exact Zm c (by simp[dv,dvl,Z1Y hX.t])
  ·cases c
 ·simp only[opK]at c;obtain⟨ti,h1,b⟩:=Z0 c;replace c:=b;clear b;obtain⟨mv,h2,b⟩:=Z0 c;replace c:=b;clear b;obtain⟨kv,h3,b⟩:=Z0 c;replace c:=b;clear b;obtain⟨vv,h3',b⟩:=Z0 c;replace c:=b;clear b;simp only[Zw,h1,jm,ZF,h2,jq,h3,h3'];split at c
  ·rename_i kt e id g;obtain⟨ki,f,b⟩:=Z0 c;replace c:=b;clear b;obtain⟨o,ho,b⟩:=Z0 c;replace c:=b;clear b;cases o<;>simp only[reduceCtorEq]at c;rename_i kc ec es;obtain⟨key,h8,b⟩:=Z0 c;replace c:=b;clear b;obtain⟨u,b⟩:=Z1 c;replace c:=b;clear b;obtain⟨_,_,b⟩:=Z0 c;replace c:=b;clear b;obtain⟨xv,h9,b⟩:=Z0 c;replace c:=b;clear b;obtain⟨eq,p,b⟩:=Z0 c;replace c:=b;clear b;simp only[jn,Bool.not_eq_true']at u;obtain⟨q1,q4⟩:=u;have hkey:=Z3T hX.t h8;have hval:=Z3T hX.t h9;obtain⟨c1,c2⟩:=Zhu q4 xv;simp only[g,f,jm,dv,dvh,ho,jq,dvO,hkey,hval,Z8Z hX f q1,c1,c2,ju,jB,Zea hX p]
   refine⟨_,?_,ZP rfl ZL,c⟩;rw[c1,c2];simp[ZU,dvu,dvO,dv,dvl]
  ·cases c
omit hX in
theorem Z5S (T:TS S):∀xs:List Int,Z9m xs=true->Z2R (List.map (dcl T (.int .u8)) xs)=some (xs.map fun n=>UInt8.ofNat n.toNat)
 | [],_=>rfl
 | n::xs,h=>by
  rw[Z9H]at h;simp only[jt,jn]at h;have:=Z5S T xs (by rw[Z9H];exact h.2)
  show Z2R ([.int .u8 n]::List.map (dcl T (.int .u8)) xs)=_;simp only[Z2R,h.1.1,h.1.2,ju,jB,this,jm,jr]
omit hX in
theorem Zdv {si:TI} {h:Nat->Option (Zi S)} {x:TV S} {k:Z1Z S R} {r:R} (a:Zgy X si h x k=some r):Sim X.T (Z8O X.E si (dvh X.T h) (dv X.T x)) k r:=by
 unfold Zgy at a;unfold Z8O;split at a
 ·rename_i e g;obtain⟨ei,d,a⟩:=Z0 a;split at a
  ·rename_i b;obtain⟨xs,c,a⟩:=Z0 a;obtain⟨f,a⟩:=Z1 a;simp only[g,d,jm,b,Z4g c];rw[Z5S X.T (xs:List Int) f];refine Zm a ?_;simp only[jm,dv];exact congrArg (fun s=>ret (DV.str s)) (Zbi (xs:List Int)).symm
  ·cases a
 ·cases a
omit hX in
theorem Z69 {T:TS S} (nid:Nat):∀cs:List (TV S),dvs T (Zaw nid cs)=dvs T cs
 | []=>rfl
 | c::cs=>by
  cases c<;>first|(simp only[Zaw,Zu,Z69 nid cs];done)|skip
  rename_i ts n;simp only[Zaw,Zu,Z69 nid cs];congr 1;simp only[Y3,eal];have e:enD nid ts 0=.nilif:=by cases ts<;>rfl
  rw[e,List.map_const',List.length_range]
theorem Zia {t:TypeId} {ti:TI} {z:TV S} (b:X.E.ty t=some ti) (h:zeroT X t ti=some z):Z1h ti=some (dv X.T z):=by
 unfold zeroT at h;obtain⟨zs,a,h⟩:=Z0 h;have hz:=hX.zero t zs ti a b;unfold Z1h;cases ha:ti.isAgg with
 | true =>
  rw[ha]at h;simp only[jB,jh]at h⊢;subst h;rw[<-hz];simp[dv]
 | false =>
  rw[ha]at h;simp only[jA]at h⊢;split at h
  ·rename_i c;cases hc:ZT c with
   | true=>rw[hc]at h;cases h
   | false =>
    rw[hc]at h;cases h;rw[<-hz];have:dvs X.T [z]=[dv X.T z]:=by
     rw[Zu,Z9o,jo];cases z<;>simp[Y3,ZT]at hc⊢
    rw[this];rfl
  ·cases h
theorem Zld {nid:Nat} {ρ:Nat->Option (TV S)} {h:Nat->Option (Zi S)} {op:Op} {k:Z1Z S R} {r:R} (g:opK X nid ρ h op k=some r) :
  Sim X.T (Zw X.E nid (dvr X.T ρ) (dvh X.T h) op) k r:=by
 cases op with
 | build t ps=>exact Z4D hX g (.inl ⟨_,_,rfl⟩)
 | buildSlice t n ps=>exact Z4D hX g (.inr (.inl ⟨_,_,_,rfl⟩))
 | slice t x lo hi mx =>
  cases mx with
  | none=>exact Z4D hX g (.inr (.inr (.inl ⟨_,_,_,_,rfl⟩)))
  | some _=>cases g
 | indexAddr t x i=>exact Z4D hX g (.inr (.inr (.inr (.inl ⟨_,_,_,rfl⟩))))
 | index t x i=>exact Z4D hX g (.inr (.inr (.inr (.inr (.inl ⟨_,_,_,rfl⟩)))))
 | lookup t m x ok=>exact Z4D hX g (.inr (.inr (.inr (.inr (.inr (.inl ⟨_,_,_,_,rfl⟩))))))
 | mapUpdate t m x v=>exact Z4D hX g (.inr (.inr (.inr (.inr (.inr (.inr ⟨_,_,_,_,rfl⟩))))))
 | makeInterface t x =>
  obtain⟨ti,j,g⟩:=Z0 g;obtain⟨v,h2,g⟩:=Z0 g;cases ha:ZT v with
  | true=>rw[ha]at g;cases g
  | false =>
   rw[ha]at g;simp only[jA]at g;simp only[Zw,j,jm,ZF,h2,jq];cases hk2:ti.k<;>rw[hk2]at g<;>first|exact Zm g rfl|cases g
 | typeAssert x xt t ok =>
  obtain⟨ti,j,g⟩:=Z0 g;obtain⟨v,h2,g⟩:=Z0 g;simp only[Zw,j,jm,ZF,h2,jq];have hf:∀{r:R},(bif ok then(zeroT X t ti).bind fun z=>ZM (.tup [z,.bool false]) k else none)=some r->Sim X.T (bif ok then(Z1h ti).bind fun z=>ret (.tup [z,.bool false])else none) k r:=fun h=>by
   cases ok with
   | false=>cases h
   | true =>
    obtain⟨z,h3,h⟩:=Z0 h;simp only[jB,Zia hX j h3,jm];exact Zm h (by simp[dv,dvl])
  cases v with
  | nilif=>cases hk2:ti.k<;>rw[hk2]at g<;>first|exact hf g|cases g
  | iface t' w =>
   have h3:(bif Nat.beq t' t then ZM (bif ok then .tup [w,.bool true]else w) k else bif ok then(zeroT X t ti).bind fun z=>ZM (.tup [z,.bool false]) k else none)=some r/\ti.k≠.iface:=by
    cases hk2:ti.k<;>rw[hk2]at g<;>first|exact⟨g,by simp⟩|cases g
   obtain⟨h3,hni⟩:=h3;have h4:Sim X.T (bif Nat.beq t' t then ret (bif ok then .tup [dv X.T w,.bool true]else dv X.T w)else bif ok then(Z1h ti).bind fun z=>ret (.tup [z,.bool false])else none) k r:=by
    cases hq:Nat.beq t' t with
    | true =>
     rw[hq]at h3;cases ok
     ·exact Zm h3 rfl
     ·exact Zm h3 (by simp[dv,dvl])
    | false=>rw[hq]at h3;exact hf h3
   simp only[dv];cases hk2:ti.k<;>first|exact h4|exact absurd hk2 hni
  | _=>cases hk2:ti.k<;>rw[hk2]at g<;>cases g
 | makeSlice t l c =>
  obtain⟨ti,j,g⟩:=Z0 g;obtain⟨dl,h2,g⟩:=Z0 g;obtain⟨dc,h3,g⟩:=Z0 g;simp only[Zw,j,jm,ZF,h2,h3,jq];cases he:ti.k with
  | slice e =>
   rw[he]at g;obtain⟨k1,n,rfl⟩:∃k n,dl=.int k n:=by cases dl<;>first|exact⟨_,_,rfl⟩|cases g
   obtain⟨k2,n',rfl⟩:∃k n,dc=.int k n:=by cases dc<;>first|exact⟨_,_,rfl⟩|cases g
   simp only at g;obtain⟨ei,h4,g⟩:=Z0 g;obtain⟨te,h5,g⟩:=Z0 g;obtain⟨z,h6,g⟩:=Z0 g;obtain⟨zv,h7,g⟩:=Z0 g;obtain⟨h8,g⟩:=Z1 g;have hz:=hX.zero e z ei h6 h4;have hzd:ei.zero=dcl X.T te zv:=by rw[<-hz,Z2Q hX.t h7]
   have hfree:Za ei.zero=true:=by rw[hzd];exact Z1V (Z3o hX.t te zv)
   simp only[dv,h4,jm,h8,hfree,ju,jB];refine⟨_,?_,ZP rfl ZL,g⟩;simp[ZU,dvu,dvO,dv,hzd,List.map_replicate]
  | _=>rw[he]at g;cases g
 | move x =>
  obtain⟨v,j,g⟩:=Z0 g;simp only[Zw,ZF,j,jq,jm];exact Zm g rfl
 | assign x =>
  obtain⟨v,j,g⟩:=Z0 g;simp only[Zw,ZF,j,jq,jm];exact Zm g rfl
 | pick c a b =>
  obtain⟨v,j,g⟩:=Z0 g;cases v<;>simp only[reduceCtorEq]at g;rename_i c;simp only[Zw,ZF,j,jq,jm,dv];unfold ZkS at g;split at g
  ·rename_i x y ha hb;rw[ha,hb];cases c<;>exact Zm g rfl
  ·cases c with
   | true =>
    simp only[jB]at g⊢;obtain⟨v,h2,g⟩:=Z0 g;rw[h2];exact Zm g rfl
   | false =>
    simp only[jA]at g⊢;obtain⟨v,h2,g⟩:=Z0 g;rw[h2];exact Zm g rfl
 | alloc t =>
  obtain⟨ti,j,g⟩:=Z0 g;obtain⟨z,h2,g⟩:=Z0 g;have hz:=hX.zero t z ti h2 j;cases hb:X.E.bl t with
  | true =>
   rw[hb]at g;simp only[jB]at g;split at g
   ·rename_i cs;refine⟨_,?_,ZP rfl ZL,g⟩;simp only[Zw,j,hb,jm,ZU,dvu,jr,List.map_nil,jq,dv,dvO,jB,<-hz,Zu,Y3,List.cons_append,List.nil_append,Zec]
   ·cases g
  | false =>
   rw[hb]at g;refine⟨_,?_,ZP rfl ZL,g⟩;simp only[Zw,j,hb,jm,ZU,dvu,jr,List.map_nil,jq,dv,dvO,Z66 hX,Z69,hz,jA]
 | box t x =>
  obtain⟨v,j,g⟩:=Z0 g;obtain⟨h2,g⟩:=Z1 g;refine⟨_,?_,ZP rfl ZL,g⟩;have h3:=Z5m hX h2;rw[YB]at h3;simp only[Zw,ZF,j,jq,jm,YB,h3,jB,ZU,dvu,jr,List.map_nil,dv,dvO,Z66 hX,Z69]
 | load t a =>
  obtain⟨ti,j,g⟩:=Z0 g;obtain⟨v,h2,g⟩:=Z0 g;simp only[Zw,j,ZF,h2,jq,jm];exact Ze5 hX g
 | store t a x =>
  obtain⟨ti,j,g⟩:=Z0 g;obtain⟨v,h2,g⟩:=Z0 g;obtain⟨u,h3,g⟩:=Z0 g;simp only[Zw,j,ZF,h2,h3,jq,jm];exact Zi2 hX g
 | nilCheck x =>
  obtain⟨v,j,g⟩:=Z0 g;simp only[Zw,ZF,j,jq,jm];cases v<;>simp only[reduceCtorEq]at g<;>exact Zm g rfl
 | binOp op t x y u =>
  obtain⟨a,j,g⟩:=Z0 g;obtain⟨b,h2,g⟩:=Z0 g;simp only[Zw,ZF,j,h2,jq,jm];split at g
  ·obtain⟨h3,g⟩:=Z1 g;simp only[dv,h3,jB];exact Zko g
  ·rename_i hne;split
   ·rename_i e1 e2;exfalso;cases a<;>first|(simp only[dv,reduceCtorEq]at e1;done)|(cases b<;>first|(simp only[dv,reduceCtorEq]at e2;done)|exact hne rfl rfl)
   ·exact ZjP hX g
 | unOp op t x =>
  obtain⟨a,j,g⟩:=Z0 g;simp only[Zw,ZF,j,jq,jm];exact Zlr g
 | convert s d x =>
  obtain⟨ts,j,g⟩:=Z0 g;obtain⟨td,h2,g⟩:=Z0 g;obtain⟨v,h3,g⟩:=Z0 g;simp only[Zw,j,h2,ZF,h3,jq,jm];split at g
  ·rename_i he;simp only[he,dv];exact Zm g rfl
  ·rename_i he;simp only[he,dv];exact Zm g rfl
  ·rename_i he;simp only[he];exact Zdv g
  ·rename_i he;simp only[he];exact Zdv g
  ·cases g
 | makeFunc f a c =>
  obtain⟨as,j,g⟩:=Z0 g;obtain⟨bs,h2,g⟩:=Z0 g;simp only[Zw,Z3H,j,h2,jq,jm];exact Zm g (by simp[dv,ret])
 | makeMap t sz =>
  cases sz with
  | some _=>cases g
  | none =>
   obtain⟨ti,j,g⟩:=Z0 g;split at g
   ·obtain⟨kt,h2,g⟩:=Z0 g;obtain⟨et,h3,g⟩:=Z0 g;refine⟨_,?_,ZP rfl ZL,g⟩;simp[Zw,ZU,dvu,dv,dvO]
   ·cases g
 | fieldAddr s x f =>
  obtain⟨ti,j,g⟩:=Z0 g;obtain⟨v,h2,g⟩:=Z0 g;simp only[Zw,j,ZF,h2,jq,jm];split at g
  ·rename_i fs he;obtain⟨⟨ft,off⟩,h3,g⟩:=Z0 g;obtain⟨fi,h4,g⟩:=Z0 g;obtain⟨h5,g⟩:=Z1 g;obtain⟨w,h6,g⟩:=Z0 g;simp only at h4 h6;simp only[he,h3,h4,jm,h5,jB,Zii hX.t h6];exact Zm g rfl
  ·cases g
 | field s x f =>
  obtain⟨ti,j,g⟩:=Z0 g;obtain⟨v,h2,g⟩:=Z0 g;simp only[Zw,j,ZF,h2,jq,jm];split at g
  ·rename_i fs cs he;obtain⟨⟨ft,off⟩,h3,g⟩:=Z0 g;obtain⟨fi,h4,g⟩:=Z0 g;obtain⟨w,h6,g⟩:=Z0 g;simp only at h4 h6;simp only[he,dv,h3,h4,jm,(Z4n hX.t h6).1];exact Zm g rfl
  ·cases g
 | range t x =>
  obtain⟨ti,j,g⟩:=Z0 g;obtain⟨v,h2,g⟩:=Z0 g;simp only[Zw,j,ZF,h2,jq,jm];split at g
  ·rename_i s he;refine⟨_,?_,ZP rfl ZL,g⟩;simp[he,ZU,dvu,dv,dvO]
  ·rename_i kt et id he;obtain⟨o,ho,g⟩:=Z0 g;cases o<;>simp only[reduceCtorEq]at g;rename_i kt' et' m;refine⟨_,?_,ZP rfl ZL,g⟩;simp[he,ZU,dvu,dv,dvO,dvh,ho]
  ·cases g
 | next it b =>
  cases b with
  | false=>cases g
  | true =>
   obtain⟨v,j,g⟩:=Z0 g;cases v<;>simp only[reduceCtorEq]at g;rename_i id;obtain⟨o,ho,g⟩:=Z0 g;cases o<;>simp only[reduceCtorEq]at g;rename_i s pos;simp only[Zw,ZF,j,jq,jm,dv,dvh,ho,dvO];cases hp:decide (pos<s.size)with
   | true =>
    rw[hp]at g;refine⟨_,?_,ZP rfl ZL,g⟩;simp[ZU,dvu,dv,dvl,dvO]
   | false =>
    rw[hp]at g;exact Zm g (by simp[dv,dvl])
 | extract t i =>
  obtain⟨v,j,g⟩:=Z0 g;cases v<;>simp only[reduceCtorEq]at g;rename_i vs;obtain⟨w,h2,g⟩:=Z0 g;simp only[Zw,ZF,j,jq,jm,dv,Z4H,List.getElem?_map,h2];exact Zm g rfl
 | call c =>
  simp only[opK]at g;split at g
  ·rename_i hc;split at g
   ·rename_i x t ts hx ht;obtain⟨ti,j,g⟩:=Z0 g;obtain⟨v,h2,g⟩:=Z0 g;obtain⟨w,h3,g⟩:=Z0 g;simp only[Zw,hc,hx,ht,j,ZF,h2,jq,jm,Zke hX h3];exact Zm g rfl
   ·cases g
  ·rename_i hc;split at g
   ·rename_i s x t t' hx ht;obtain⟨v,h2,hz⟩:=Z0 g;obtain⟨w,h3,g⟩:=Z0 hz;simp only[Zw,hc,hx,ht,ZF,h2,h3,jq,jm];exact Zfc hX g
   ·cases g
  ·rename_i hc;split at g
   ·rename_i x hx;obtain⟨v,h2,g⟩:=Z0 g;simp only[Zw,hc,hx,ZF,h2,jq,jm];cases v<;>simp only[reduceCtorEq]at g
    ·exact Zm g rfl
    ·rename_i id v;obtain⟨o,h3,g⟩:=Z0 g;cases o<;>simp only[reduceCtorEq]at g;rename_i e t xs p u;obtain⟨h4,g⟩:=Z1 g;cases xs with
     | nil=>cases g
     | cons y ys =>
      simp only[List.isEmpty_cons,jA]at g;simp only[dv,dvh,h3,jq,jm,dvO,jr,h4,jB,Y9 hX.t];exact Zm g rfl
   ·cases g
  ·rename_i hc;split at g
   ·rename_i x n t t2 hx ht;obtain⟨v,h2,g⟩:=Z0 g;obtain⟨m,h3,g⟩:=Z0 g;obtain⟨ti,h4,g⟩:=Z0 g;simp only[Zw,hc,hx,ht,ZF,h2,h3,h4,jq,jm];generalize ti.k=tk at g⊢;split at g
    ·obtain⟨h6,g⟩:=Z1 g;obtain rfl:=eq_of_beq h6;simp only[dv];exact Zm g rfl
    ·obtain⟨o,h6,g⟩:=Z0 g;cases o<;>simp only[reduceCtorEq]at g;rename_i e' t xs p u;obtain⟨h7,g⟩:=Z1 g;split at g
     ·rename_i q;subst q;obtain⟨h8,g⟩:=Z1 g;simp only[jn]at h7 h8;refine⟨_,?_,ZP rfl ZL,g⟩;simp only[dv,dvh,h6,jq,jm,dvO,List.length_map,h7.1,h7.2,h8.1.1.1,h8.1.1.2,h8.1.2,ju,jB];rw[Z5S X.T (xs:List Int) h8.2];simp[ZU,dvu,dv];exact(Zbi (xs:List Int)).symm
     ·cases g
    ·cases g
   ·cases g
  ·rename_i hc;obtain⟨vs,j,g⟩:=Z0 g;simp only[Zw,hc,Z3H,j,jq,jm];split at g
   ·obtain⟨w,h2,g⟩:=Z0 g;simp only[dvl,Za2 hX (Zkk hX) h2,jm];exact Zm g rfl
   ·cases g
  ·rename_i hc;obtain⟨vs,j,g⟩:=Z0 g;simp only[Zw,hc,Z3H,j,jq,jm];split at g
   ·obtain⟨w,h2,g⟩:=Z0 g;simp only[dvl,Za2 hX (Zkj hX) h2,jm];exact Zm g rfl
   ·cases g
  ·cases g
 | _=>cases g
end Go.Ab
namespace Go.Ab
variable {S:Nat->Type} {R:Type}
theorem Z2e {α β:Type} (f:α->β):∀(t:Tr α) (a b:Nat),(t.mapv f).ents a b=(t.ents a b).map fun p=>(p.1,f p.2)
 | .leaf,_,_=>rfl
 | .node l v r,a,b=>by
  simp only[Tr.mapv,Tr.ents,Z2e f l,Z2e f r,List.map_append];cases v<;>rfl
theorem Z98:∀(a b:List DV),Z1x (a++b)=Z1x a++Z1x b
 | [],b=>by simp[Z1x]
 | c::a,b=>by simp only[List.cons_append,Z1x,Z98 a b,jj]
theorem Z6X:∀{cs:List DV},cs.all plain=true->Z1x cs=[]
 | [],_=>rfl
 | c::cs,h=>by
  simp only[jt,jn]at h;simp only[Z1x,Z6X h.2,jo];cases c<;>simp[plain]at h<;>simp[rid]
theorem Z9S {pid:Nat}:∀{cs:List DV},cs.all (Z5v pid)=true->Z1x cs=[]
 | [],_=>rfl
 | c::cs,h=>by
  simp only[jt,jn]at h;simp only[Z1x,Z9S h.2,jo];cases c<;>simp[Z5v]at h<;>simp[rid]
theorem Z6S (h:Nat->Option Z9):∀{cs:List DV},cs.all plain=true->cs.map (Z6M h)=cs
 | [],_=>rfl
 | c::cs,hp=>by
  simp only[jt,jn]at hp;rw[jr,Z6S h hp.2];cases c<;>simp[plain]at hp<;>simp[Z6M]
theorem Z7d (h:Nat->Option Z9) {pid:Nat}:∀{cs:List DV},cs.all (Z5v pid)=true->cs.map (Z6M h)=cs
 | [],_=>rfl
 | c::cs,hp=>by
  simp only[jt,jn]at hp;rw[jr,Z7d h hp.2];cases c<;>simp[Z5v]at hp<;>simp[Z6M]
section
variable {T:TS S} (hT:TOk T)
include hT
mutual
theorem ZcW:∀v:TV S,rid (dv T v)=Z27 v
 | .bool _=>rfl | .int _ _=>rfl | .str _=>rfl | .nilp=>rfl | .nils=>rfl
 | .sl0=>by simp[dv,rid,Z27] | .sl _ _=>by simp[dv,rid,Z27]
 | .arr _ _ _=>by simp[dv,rid,Z27]
 | .stc _ _=>by simp[dv,rid,Z27]
 | .narr _ n=>by simp only[dv,rid,Z27];exact Z9S (Z1f 0 n)
 | .earr ts pid n a=>by simp only[dv,rid,Z27];exact Z9S (YC ts pid n a)
 | .ptr _ _=>by simp[dv,rid,Z27] | .ap _ _ _ _ _=>by simp[dv,rid,Z27] | .rptr _ _ _ _ _=>by simp[dv,rid,Z27]
 | .pub _=>by simp[dv,rid,Z27]
 | .rv _ _ _ _ _=>by simp[dv,rid,Z27] | .slen _=>by simp[dv,rid,Z27]
 | .rs _ _=>by simp[dv,rid,Z27] | .map _=>by simp[dv,rid,Z27] | .iter _=>by simp[dv,rid,Z27] | .yld _=>by simp[dv,rid,Z27] | .nop _=>by simp[dv,rid,Z27]
 | .nilfn=>by simp[dv,rid,Z27] | .nilmap=>by simp[dv,rid,Z27] | .nilif=>by simp[dv,rid,Z27]
 | .agg cs=>by simp only[dv,rid,Z27];exact ZcX cs
 | .tup cs=>by simp only[dv,rid,Z27];exact Z50 cs
 | .fn _ a c=>by simp only[dv,rid,Z27,Z50 a,Z50 c]
 | .iface _ v=>by simp only[dv,rid,Z27]
theorem ZcX:∀cs:List (TV S),Z1x (dvs T cs)=Z36 cs
 | []=>by simp[dvs,Z1x,Z36]
 | c::cs=>by
  rw[Zu,Z98,Z36,ZcX cs];have h:=ZcW c;cases c<;>simp only[Y3,Z1x,jo]<;>first|rw[h]|skip
  ·rw[Z6X (Yr hT _ _ _)];rfl
  ·rw[Z6X (hT.plain _ _)];rfl
  ·rw[Z9S (YC _ _ _ _)];rfl
  ·rw[Z9S (Z1f 0 _)];rfl
theorem Z50:∀cs:List (TV S),Z1x (dvl T cs)=Z36 cs
 | []=>by simp[dvl,Z1x,Z36]
 | c::cs=>by simp only[dvl,Z1x,Z36,ZcW c,Z50 cs]
end
theorem ZkB (o:Zi S):Zlj (dvO T o)=Zjo o:=by
 cases o<;>simp only[dvO,Zlj,Zjo]
 ·exact ZcX hT _
 ·rw[Z2e,List.flatMap_map];congr 1;funext p;exact ZcW hT p.2
theorem Z3K (h:Nat->Option (Zi S)):∀(n:Nat) (todo acc:List Nat),Z1l (dvh T h) n todo acc=Z2l h n todo acc
 | 0,_,_=>by simp[Z1l,Z2l]
 | n+1,[],_=>by simp[Z1l,Z2l]
 | n+1,i::todo,acc=>by
  simp only[Z1l,Z2l,dvh];cases acc.any (Nat.beq i)with
  | true=>exact Z3K h n todo acc
  | false =>
   simp only[jA];cases hi:h i with
   | none=>exact Z3K h n todo acc
   | some o =>
    simp only[jq,ZkB hT];exact Z3K h n _ _
omit hT in
theorem ZaQ (h:Nat->Option (Zi S)):∀(is:List Nat),Z2P (dvh T h) is=(Z8z h is).mapv (dvO T)
 | []=>rfl
 | i::is=>by
  simp only[Z2P,Z8z,ZaQ h is,ZR,dvh]
omit hT in
theorem Zbm (o:Tr (Zi S)) (Rs:List Nat) (nx:Nat):Z5o (o.mapv (dvO T)) Rs nx=dvu T (Zce o Rs nx):=by
 unfold Z5o Zce dvu;rw[Z2e,List.map_map,List.map_map];have e:((fun x=>x.1)∘fun(p:Nat×Zi S)=>(p.1,dvO T p.2))=fun p=>p.1:=rfl;rw[e];congr 1;funext i;simp only[Function.comp,ZD]
theorem ZgG (h:Nat->Option (Zi S)) (v:TV S):Z6M (dvh T h) (dv T v)=dv T (Z34 h v):=by
 cases v<;>simp only[dv,Z6M,Z34];rename_i id ver;simp only[dvh];cases h id with
 | none=>rfl
 | some o =>
  cases o<;>simp only[jq,dvO,dv];rename_i e t xs p u;cases Nat.beq p 1&&Nat.beq u ver<;>simp[dv]
theorem ZdP (h:Nat->Option (Zi S)):∀cs:List (TV S),(dvs T cs).map (Z6M (dvh T h))=dvs T (cs.map (Z34 h))
 | []=>by simp[dvs]
 | c::cs=>by
  rw[Zu,List.map_append,jr,Zu,ZdP h cs];congr 1;have hc:=ZgG hT h c
  by_cases ha:ZT c=true
  ·cases c<;>simp only[ZT,jg]at ha<;>simp only[Y3,Z34]
   ·exact Z6S _ (Yr hT _ _ _)
   ·exact Z6S _ (hT.plain _ _)
   ·exact Z7d _ (YC _ _ _ _)
   ·exact Z7d _ (Z1f 0 _)
  ·have b:Y3 T c=[dv T c]:=by cases c<;>simp[Y3,ZT]at ha⊢
   have d:Y3 T (Z34 h c)=[dv T (Z34 h c)]:=by
    have a:ZT (Z34 h c)=false:=by
     cases c<;>simp[ZT]at ha<;>simp only[Z34]<;>first|rfl|skip
     split
     ·rename_i p u _;cases Nat.beq p 1&&Nat.beq u _<;>rfl
     ·rfl
    cases hq:Z34 h c<;>rw[hq]at a<;>simp[ZT]at a<;>simp[Y3]
   rw[b,d,jr,List.map_nil,hc]
theorem Zk5 (h:Nat->Option (Zi S)) (v:TV S):Z3W (dvh T h) (dv T v)=dv T (Z6j h v):=by
 cases v with
 | agg cs=>simp only[dv,Z3W,Z6j,ZdP hT]
 | arr t n a=>simp only[dv,Z3W,Z6j,Z34,Z6M]
 | stc i x=>simp only[dv,Z3W,Z6j,Z34,Z6M]
 | earr ts pid n a =>
  simp only[dv,Z3W,Z6j,Z34];rw[Z7d _ (YC ts pid n a)]
 | narr ts n =>
  simp only[dv,Z3W,Z6j,Z34];rw[Z7d _ (Z1f 0 n)]
 | rs id ver=>exact ZgG hT h (.rs id ver)
 | _=>simp only[dv,Z3W,Z6j,Z34,Z6M]
theorem Za3 (h:Nat->Option (Zi S)):∀vs:List (TV S),(dvl T vs).map (Z3W (dvh T h))=dvl T (vs.map (Z6j h))
 | []=>by simp[dvl]
 | c::cs=>by simp only[dvl,jr,Zk5 hT,Za3 h cs]
end
theorem Z37 {α:Type} (n:Nat) (k:Nat->α):sN n k=k n:=by cases n<;>rfl
mutual
theorem ZbR {α:Type}:∀(v:TV S) (k:TV S->α),sV v k=k v
 | .ptr _ _,_=>by simp only[sV,Z37]
 | .ap _ _ _ _ _,_=>by simp only[sV,Z37]
 | .rptr _ _ _ _ _,_=>by simp only[sV,Z37]
 | .pub cs,_=>by simp only[sV,Z3Q cs]
 | .rs _ _,_=>by simp only[sV,Z37]
 | .rv _ _ _ _ _,_=>by simp only[sV,Z37]
 | .slen _,_=>by simp only[sV]
 | .agg cs,_=>by simp only[sV,Z3Q cs]
 | .tup cs,_=>by simp only[sV,Z3Q cs]
 | .fn _ a c,_=>by simp only[sV,Z3Q a,Z3Q c]
 | .map _,_=>by simp only[sV,Z37]
 | .iface _ v,_=>by simp only[sV,ZbR v]
 | .iter _,_=>by simp only[sV,Z37]
 | .yld _,_=>by simp only[sV,Z37] | .nop _,_=>by simp only[sV,Z37]
 | .bool _,_=>by simp only[sV]
 | .int _ _,_=>by simp only[sV]
 | .str _,_=>by simp only[sV]
 | .nilp,_=>by simp only[sV]
 | .nils,_=>by simp only[sV]
 | .sl0,_=>by simp only[sV]
 | .sl _ _,_=>by simp only[sV]
 | .arr _ _ _,_=>by simp only[sV]
 | .stc _ _,_=>by simp only[sV]
 | .earr _ _ _ _,_=>by simp only[sV,Z37]
 | .narr _ _,_=>by simp only[sV]
 | .nilfn,_=>by simp only[sV]
 | .nilmap,_=>by simp only[sV]
 | .nilif,_=>by simp only[sV]
theorem Z3Q {α:Type}:∀(v:List (TV S)) (k:List (TV S)->α),sVs v k=k v
 | [],_=>by simp only[sVs]
 | c::cs,_=>by simp only[sVs,ZbR c,Z3Q cs]
end
theorem Z3P {α β:Type} {f:β->(β->α)->α} (a:∀v k,f v k=k v):∀(t:Tr β) (k:Tr β->α),sTr f t k=k t
 | .leaf,_=>rfl
 | .node l v r,k=>by
  simp only[sTr,Z3P a l,Z3P a r];cases v with
  | none=>rfl
  | some x=>simp only[a]
theorem ZaH {α:Type} (v:Zi S) (k:Zi S->α):sO v k=k v:=by
 cases v<;>simp only[sO,Z3Q,Z37,Z3P ZbR]
theorem Zd5 {α:Type} (s:StT S) (k:StT S->α):sSt s k=k s:=by
 unfold sSt;rw[Z3P ZbR,Z3P ZaH,Z37]
theorem ZaG {α:Type}:∀(v:List Nat) (k:List Nat->α),sNs v k=k v
 | [],_=>rfl
 | i::is,k=>by simp only[sNs,Z37,ZaG is]
end Go.Ab
namespace Go.Ab
variable {S:Nat->Type} {R:Type}
def Evt (p:Nat->Prop):Prop:=∃N,∀n,N<=n->p n
theorem Evt.and {p q:Nat->Prop} (c:Evt p) (d:Evt q):Evt fun n=>p n/\q n:=by
 obtain⟨a,e⟩:=c;obtain⟨b,f⟩:=d;exact⟨max a b,fun n g=>⟨e n (by omega),f n (by omega)⟩⟩
theorem Evt.mono {p q:Nat->Prop} (b:Evt p) (h:∀n,p n->q n):Evt q:=by
 obtain⟨a,c⟩:=b;exact⟨a,fun n d=>h n (c n d)⟩
theorem Evt.of {p:Nat->Prop} (h:∀n,p n):Evt p:=⟨0,fun n _=>h n⟩
theorem Evt.succ {p:Nat->Prop} (b:Evt fun n=>p (n+1)):Evt p:=by
 obtain⟨a,c⟩:=b;refine⟨a+1,fun n d=>?_⟩;cases n with
 | zero=>omega
 | succ n=>exact c n (by omega)
def WfL (E:Env) (o:Option (Zi S)):Prop:=match o with
 | some (.loop fid _ ps as bo _ _ _ po)=>∃F f,E.fn fid=some F/\Code.sub F.body po=some (.rangeFunc f ps.toArray as bo)
 | _=>True
def WfO (E:Env) (o:Tr (Zi S)):Prop:=∀i,WfL E (o.get i)
theorem ZaY {E:Env} {x:Option (Zi S)} (h:Zfx x=false):WfL E x:=by
 cases x with
 | none=>trivial
 | some o=>cases o<;>first|trivial|cases h
theorem WfO.set {E:Env} {o:Tr (Zi S)} (h:WfO E o) {i:Nat} {x:Option (Zi S)} (a:WfL E x):WfO E (o.set i x):=fun j=>by
 rw[Tr.get_set];split
 ·exact a
 ·exact h j
theorem WfO.upd {E:Env}:∀{u:List (Nat×Option (Zi S))} {o:Tr (Zi S)},WfO E o->Z6B u->WfO E (Z4A o u)
 | [],_,h,_=>h
 | (i,x)::u,o,h,hu=>by
  simp only[Z4A];exact WfO.upd (h.set (ZaY (hu (i,x) (by simp)))) (fun p a=>hu p (by simp[a]))
theorem WfO.updW {E:Env}:∀{u:List (Nat×Option (Zi S))} {o:Tr (Zi S)},WfO E o->(∀p∈u,WfL E p.2)->WfO E (Z4A o u)
 | [],_,h,_=>h
 | (i,x)::u,o,h,hu=>by
  simp only[Z4A];exact WfO.updW (h.set (hu (i,x) (by simp))) (fun p a=>hu p (by simp[a]))
def Zjg (E:Env) (n:Nat):ZY:=Z9j E (fun g as=>(evX E n false g as .leaf 0).bind fun x=>frz x.2.1.get x.1) (evX E n false) (evX E n true) n
structure Z9k (X:Y2 S) (cs:Z3v S R):Prop where
 fn:∀g as k r,cs.fn g as k=some r->∃d,Evt (fun n=>evF X.E n g (dvl X.T as)=some (dv X.T d))/\k d=some r
 pr:∀g as s n0 k r,cs.pr g as s n0 k=some r->WfO X.E s->∃v os n',
  Evt (fun n=>(Zjg X.E n g (dvl X.T as) (s.mapv (dvO X.T)) n0).bind (Z8S n0)=some (dv X.T v,os.mapv (dvO X.T),n'))/\WfO X.E os/\k v os n'=some r
def Z1n (X:Y2 S) (b:Bool) (callH:Z1m S R):Prop:=∀path g as objs next k r,callH path g as objs next k=some r->WfO X.E objs →
 ∃v objs' next',Evt (fun n=>evX X.E n b g (dvl X.T as) (objs.mapv (dvO X.T)) next=some (dv X.T v,objs'.mapv (dvO X.T),next'))/\WfO X.E objs'/\k v objs' next'=some r
def Zbp (T:TS S) (l:List (Nat×Option (TV S))):Loc:=l.map fun p=>(p.1,p.2.map (dv T))
def dvM (T:TS S) (m:Z1B S):Mid:=⟨m.base.mapv (dv T),Zbp T m.loc,m.objs.mapv (dvO T),m.next⟩
def Zo (T:TS S) (s:StT S):St:=⟨s.base.mapv (dv T),s.objs.mapv (dvO T),s.next⟩
section
variable (T:TS S)
theorem ZgD:∀(l:List (Nat×Option (TV S))) (t:Nat),Loc.find (Zbp T l) t=(Z9Z l t).map (Option.map (dv T))
 | [],t=>rfl
 | (s,v)::l,t=>by
  simp only[Zbp,jr,Loc.find,Z9Z];cases Nat.beq s t with
  | true=>rfl
  | false=>exact ZgD l t
theorem Zda (V:Nat) (b:Tr (TV S)) (l:List (Nat×Option (TV S))):ZQ V (b.mapv (dv T)) (Zbp T l)=dvr T (Z14 V b l):=by
 funext t;unfold ZQ Z14 dvr;cases hv:Nat.testBit V t with
 | true=>simp only[hv,jB];exact ZD _ _ _
 | false =>
  simp only[hv,jA,ZgD];cases Z9Z l t with
  | none=>rfl
  | some v=>rfl
theorem ZaW:∀(u:List (Nat×Option (Zi S))) (o:Tr (Zi S)),ZW (o.mapv (dvO T)) (dvu T u)=(Z4A o u).mapv (dvO T)
 | [],o=>rfl
 | (i,x)::u,o=>by
  simp only[dvu,jr,ZW,Z4A];rw[<-ZR];exact ZaW u _
theorem Z8m (V nt:Nat) (m:Z1B S) (dst:Option Tmp) (v:Option (TV S)):(dvM T m).put V nt dst (v.map (dv T))=dvM T (m.put V nt dst v):=by
 unfold Mid.put Z1B.put;cases dst with
 | none=>rfl
 | some d =>
  simp only;cases(!Nat.blt d nt)with
  | true=>rfl
  | false =>
   cases Nat.testBit V d with
   | true=>simp only[jA,jB,dvM,ZR]
   | false=>simp only[jA,dvM,Zbp,jr]
theorem ZgX (V nt:Nat) (m:Z1B S) (dst:Option Tmp) (o:Zb2 S):({ dvM T m with objs:=ZW (dvM T m).objs (ZU T o).upd }:Mid).put V nt dst (ZU T o).val=dvM T (({ m with objs:=Z4A m.objs o.upd }:Z1B S).put V nt dst o.val):=by
 rw[<-Z8m];simp only[dvM,ZU,ZaW]
theorem Z7v (m:Z1B S):(dvM T m).objs.get=dvh T m.objs.get:=funext fun i=>ZD _ _ _
end
theorem Z3s (V nt:Nat) (m:Z1B S) (dst:Option Tmp) (v:Option (TV S)):(m.put V nt dst v).objs=m.objs:=by
 unfold Z1B.put;cases dst with
 | none=>rfl
 | some d =>
  simp only;cases(!Nat.blt d nt)with
  | true=>rfl
  | false=>cases Nat.testBit V d<;>rfl
theorem Zi0 (V nt:Nat) (m:Z1B S) (dst:Option Tmp) (v:Option (TV S)) (t:Nat) :
  Z14 V (m.put V nt dst v).base (m.put V nt dst v).loc t=if dst=some t/\t<nt then v else Z14 V m.base m.loc t:=by
 unfold Z1B.put;cases dst with
 | none=>simp
 | some d =>
  simp only[Tr.blt_dec]
  by_cases hl:d<nt
  ·simp only[hl,decide_true,Bool.not_true,jA];cases hv:Nat.testBit V d with
   | true =>
    simp only[jB];unfold Z14
    by_cases e:d=t
    ·subst e;simp[hv,hl,Tr.get_set]
    ·have:¬t=d:=fun h=>e h.symm;simp[e,Tr.get_set,this]
   | false =>
    simp only[jA];unfold Z14
    by_cases e:d=t
    ·subst e;simp[hv,hl,Z9Z]
    ·simp[e,Z9Z,Tr.beq_dec]
  ·simp only[hl,decide_false,Bool.not_false,jB]
   by_cases e:d=t
   ·subst e;simp[hl]
   ·simp[e]
def Zb1 (kn:List (Nat×Bool)) (ρ:Nat->Option (TV S)):Prop:=∀t b0 b,knF kn t=some b0->ρ t=some (.bool b)->b=b0
theorem ZcG {kn:List (Nat×Bool)} {ρ:Nat->Option (TV S)} (h:Zb1 kn ρ):(fun t=>ovK kn t (ρ t))=ρ:=by
 funext t;unfold ovK;cases kn with
 | nil=>rfl
 | cons p l =>
  simp only;cases hv:ρ t with
  | none=>rfl
  | some v =>
   cases v<;>simp only;rename_i b;cases hk:knF (p::l) t with
   | none=>rfl
   | some b0=>rw[h t b0 b hk hv]
theorem Zkb (kn:List (Nat×Bool)) (d t:Nat):knF (Z5w kn (some d)) t=if t=d then none else knF kn t:=by
 unfold Z5w
 induction kn with
 | nil=>simp[knF]
 | cons p l ih =>
  simp only[List.filter_cons]
  by_cases e:p.1=d
  ·subst e;simp only[Tr.beq_dec,decide_true,Bool.not_true,jg,if_false];simp only[Tr.beq_dec]at ih;rw[ih];simp only[knF,Tr.beq_dec]
   by_cases e2:t=p.1
   ·simp[e2]
   ·have:¬p.1=t:=fun h=>e2 h.symm;simp[e2,this]
  ·simp only[Tr.beq_dec]at ih⊢;simp only[e,decide_false,Bool.not_false,if_true,knF,Tr.beq_dec]
   by_cases e2:p.1=t
   ·subst e2;simp[e]
   ·simp only[e2,decide_false,jA];exact ih
theorem Ze4 {kn:List (Nat×Bool)} {ρ ρ':Nat->Option (TV S)} {dst:Option Tmp} (h:Zb1 kn ρ) (hρ:∀t v,dst≠some t->ρ' t=some v->ρ t=some v):Zb1 (Z5w kn dst) ρ':=fun t b0 b a hv=>by
 cases dst with
 | none=>exact h t b0 b a (hρ t _ (by simp) hv)
 | some d =>
  rw[Zkb]at a
  by_cases e:t=d
  ·rw[if_pos e]at a;cases a
  ·rw[if_neg e]at a;exact h t b0 b a (hρ t _ (fun q=>e (by cases q;rfl)) hv)
theorem Zag {kn:List (Nat×Bool)} {V nt:Nat} {m:Z1B S} {dst:Option Tmp} {v:Option (TV S)} (h:Zb1 kn (Z14 V m.base m.loc)):Zb1 (Z5w kn dst) (Z14 V (m.put V nt dst v).base (m.put V nt dst v).loc) :=
 Ze4 h fun t w a b=>by
  rw[Zi0,if_neg (fun q=>a q.1)]at b;exact b
theorem Zf1 (T:TS S) {ops:Array Oper} {ρ:Nat->Option (TV S)} {o:Oper} {kn:List (Nat×Bool)} (d:Zb1 kn ρ) {f:Bool->List (Nat×Bool)->Option R} {r:R} (h:Zhf ops ρ o kn f=some r) :
  ∃want kn',Z1A ops (dvr T ρ) o=some want/\Zb1 kn' ρ/\(∀t b,knF kn' t=some b->knF kn t=some b\/ρ t=some (.bool b))/\f want kn'=some r:=by
 unfold Zhf at h;unfold Z1A;split at h
 ·rename_i l;rw[l];exact⟨true,kn,rfl,d,fun t b a=>.inl a,h⟩
 ·rename_i j want l;rw[l];simp only;split at h
  ·rename_i t ht;rw[ht];simp only[dvr];split at h
   ·rename_i b a;rw[a];simp only[jq,dv];have g:Zb1 ((t,b)::kn) ρ:=fun t' b0 b' c hv=>by
     simp only[knF,Tr.beq_dec]at c
     by_cases e:t=t'
     ·subst e;simp at c;subst c;rw[a]at hv;cases hv;rfl
     ·simp[e]at c;exact d t' b0 b' c hv
    have i:∀ t' b',knF ((t,b)::kn) t'=some b'->knF kn t'=some b'\/ρ t'=some (.bool b'):=fun t' b' c=>by
     simp only[knF,Tr.beq_dec]at c
     by_cases e:t=t'
     ·subst e;simp at c;subst c;exact .inr a
     ·simp[e]at c;exact .inl c
    cases b with
    | true=>exact⟨_,_,rfl,g,i,h⟩
    | false=>exact⟨_,_,rfl,g,i,h⟩
   ·rename_i v hv k;rw[k];simp only[jq];have:∀b,dv T v≠.bool b:=fun b a=>by
     cases v<;>simp[dv]at a;exact hv _ rfl
    refine⟨false,kn,?_,d,fun t b a=>.inl a,h⟩;split
    ·rename_i b a;injection a with a
     exact absurd a (this _)
    ·rfl
    ·rename_i m;cases m
   ·cases h
  ·cases h
theorem Zgi {T:TS S} {E:Env} {ρ:Nat->Option (TV S)} {c:Call} {tgt:TV S×List (TV S)} (h:Zdb E ρ c=some tgt):target E (dvr T ρ) c=some (dv T tgt.1,dvl T tgt.2):=by
 unfold Zdb at h;unfold target;split at h
 ·rename_i f hc;rw[hc];obtain⟨v,b,h⟩:=Z0 h;simp only[ZF,b,jq,jm];split at h
  ·obtain⟨as,a,h⟩:=Z0 h;cases h;simp only[dv,Z3H,a,jq,jm,Z6J,dvl]
  ·obtain⟨as,a,h⟩:=Z0 h;cases h;simp only[dv,Z3H,a,jq,jm]
  ·cases h
 ·rename_i rv m hc;rw[hc];obtain⟨v,b,h⟩:=Z0 h;simp only[ZF,b,jq,jm];split at h
  ·obtain⟨ti,a,h⟩:=Z0 h;obtain⟨g,e,h⟩:=Z0 h;obtain⟨as,d,h⟩:=Z0 h;cases h;simp only[dv,a,e,Z3H,d,jq,jm,dvl]
  ·cases h
 ·cases h
theorem ZfV (T:TS S) (E:Env) (tgt:TV S×List (TV S)):ZfU E (dv T tgt.1,dvl T tgt.2)=ZgV E tgt:=by
 obtain⟨v,as⟩:=tgt;cases v<;>simp only[dv,ZfU,ZgV];rename_i f a c;cases f<;>rfl
section
variable {X:Y2 S} (hX:XOk X) {cs:Z3v S R} (hcs:Z9k X cs)
include hX hcs
theorem ZeT {nid:Nat} {ρ:Nat->Option (TV S)} {h:Nat->Option (Zi S)} {op:Op} {k:Z1Z S R} {ki:TV S×List (TV S)->Option R} {r:R} (a:ZbX X cs nid ρ h op k ki=some r) :
  (∃o:Zb2 S,Evt (fun n=>Z4y X.E (evF X.E n) nid (dvr X.T ρ) (dvh X.T h) op=some (some (ZU X.T o)))/\Z6B o.upd/\k o=some r) ∨
  (∃c tgt,Z3C op=some c/\(∀call,Z4y X.E call nid (dvr X.T ρ) (dvh X.T h) op=some none)/\target X.E (dvr X.T ρ) c=some (dv X.T tgt.1,dvl X.T tgt.2)/\ki tgt=some r):=by
 unfold ZbX at a;split at a
 ·rename_i hc;obtain⟨o,i,b,e⟩:=Zld hX a;refine .inl ⟨o,Evt.of fun n=>?_,b,e⟩;unfold Z4y;rw[hc,i];rfl
 ·rename_i c hc;obtain⟨tgt,i,a⟩:=Z0 a;have b:=Zgi (T:=X.T) i;cases hp:ZgV X.E tgt with
  | false =>
   rw[hp]at a;refine .inr ⟨c,tgt,hc,fun call=>?_,b,a⟩;unfold Z4y;rw[hc];simp only[b,jm,ZfV,hp,jA]
  | true =>
   rw[hp]at a;simp only[jB]at a;unfold ZkN at a;split at a
   ·rename_i g x y as;obtain⟨fs,e,a⟩:=Z0 a;obtain⟨d,j,a⟩:=hcs.fn _ _ _ _ a;cases hrv:as.any ZgI with
    | true =>
     rw[hrv]at a;simp only[jB]at a;obtain⟨d',l,a⟩:=Z0 a;unfold ZM at a;refine .inl ⟨_,j.mono fun n f=>?_,ZL,a⟩;unfold Z4y;rw[hc];simp only[b,jm];rw[show ZfU X.E (dv X.T (TV.fn (Fn.func g) x y,as).1,dvl X.T (TV.fn (Fn.func g) x y,as).2)=true from(ZfV X.T X.E _).trans hp];simp only[jB];unfold Z5q;rw[b];simp only[jm,dv,Z86 hX.t,e,jq,f,Z9D,hrv,jB,Zhh l];simp[ret,ZU,dvu]
    | false =>
    rw[hrv]at a;simp only[jA]at a;refine .inl ⟨_,j.mono fun n f=>?_,Z2L _ _,a⟩;unfold Z4y;rw[hc];simp only[b,jm];rw[show ZfU X.E (dv X.T (TV.fn (Fn.func g) x y,as).1,dvl X.T (TV.fn (Fn.func g) x y,as).2)=true from(ZfV X.T X.E _).trans hp];simp only[jB];unfold Z5q;rw[b];simp only[jm,dv,Z86 hX.t,e,jq,f,Z9D,hrv,jA];simp[ZU,Z7O,Z4v hX.t]
   ·cases a
omit hcs in
theorem Zgz {callH callY:Z1m S R} (p:Z1n X false callH) (q:Z1n X true callY) {path:List Nat} {h:Nat->Option (Zi S)} {nx:Nat} {tgt:TV S×List (TV S)} {k:Zb2 S->List Nat->Nat->Option R} {r:R}
  (a:Z78 callH callY path h nx tgt k=some r) (o:∀i,WfL X.E (h i)) :
  ∃x Ts n,Evt (fun m=>YS (evX X.E m false) (evX X.E m true) (dvh X.T h) nx (dv X.T tgt.1,dvl X.T tgt.2)=some (ZU X.T x,Ts,n))/\(∀u∈x.upd,WfL X.E u.2)/\k x Ts n=some r:=by
 have b:∀Rs:List Nat,WfO X.E (Z8z h Rs):=fun Rs=>by
  induction Rs with
  | nil=>intro i;exact trivial
  | cons j Rs ih =>
   simp only[Z8z];exact ih.set (o j)
 unfold Z78 at a;split at a
 ·rename_i g x y as;rw[Z3Q]at a;unfold ZjW at a;rw[ZaG,Z3P (fun v k=>ZaH v k)]at a;obtain⟨v,o',n',l,c,a⟩:=p _ _ _ _ _ _ _ a (b _);obtain⟨e,a⟩:=Z1 a;refine⟨_,_,_,l.mono fun m f=>?_,fun u d=>?_,a⟩
  ·simp only[dv,YS,Z46];rw[Za3 hX.t,Z50 hX.t,Z3K hX.t,ZaQ,f];simp only[jm,e,jB,Zbm,Z4v hX.t,ZU,jq]
  ·obtain⟨j,_,rfl⟩:=List.mem_map.1 d;exact c j
 ·rename_i id as;rw[Z3Q]at a;unfold ZjW at a;rw[ZaG,Z3P (fun v k=>ZaH v k)]at a;obtain⟨v,o',n',l,c,a⟩:=q _ _ _ _ _ _ _ a (b _);obtain⟨e,a⟩:=Z1 a;refine⟨_,_,_,l.mono fun m f=>?_,fun u d=>?_,a⟩
  ·simp only[dv,YS,Z46];rw[Za3 hX.t,Z50 hX.t,Z3K hX.t,ZaQ,f];simp only[jm,e,jB,Zbm,Z4v hX.t,ZU,jq]
  ·obtain⟨j,_,rfl⟩:=List.mem_map.1 d;exact c j
 ·cases a
omit hX hcs in
theorem Zgd {nid:Nat} {ρ:Nat->Option (TV S)} {h:Nat->Option (Zi S)} {op:Op} {k:Z1Z S R} {ki:TV S×List (TV S)->Option R} {r:R} (a:ZbX X cs nid ρ h op k ki=some r) (ρ':Nat->Option DV):Zej ρ' op=none:=by
 cases op with
 | panic c=>simp[ZbX,Z3C,opK]at a
 | _=>rfl
omit hX hcs in
theorem Zkv (T:TS S) {ρ:Nat->Option (TV S)} {op:Op} {d:TV S} (h:Zku ρ op=some d):Zej (dvr T ρ) op=some (dv T d):=by
 cases op with
 | panic x =>
  simp only[Zku]at h;simp only[Zej];cases hv:ZO ρ x with
  | none=>rw[hv]at h;cases h
  | some v =>
   rw[hv]at h;have e:ZS (dvr T ρ) x=some (dv T v):=by rw[ZF,hv];rfl
   rw[e];cases v<;>first|cases h|skip
   rfl
 | _=>cases h
omit hX hcs in
theorem Z91 (T:TS S) {v d:TV S} (h:Z10 v=some d):Yd (dv T v)=some (dv T d):=by
 unfold Z10 at h;split at h
 ·cases h;rfl
 ·cases h
omit hX hcs in
theorem Zap (T:TS S) (v:TV S):Yd (dv T v)=(Z10 v).map (dv T):=by
 cases hp:Z10 v with
 | some d=>exact Z91 T hp
 | none =>
  cases hq:Yd (dv T v)with
  | none=>rfl
  | some d =>
   exfalso;unfold Yd at hq;split at hq
   ·rename_i e;cases v<;>simp only[dv,DV.tup.injEq,reduceCtorEq]at e;rename_i vs;rcases vs with _|⟨a,_|⟨b,_|⟨c,_|⟨x,vs⟩⟩⟩⟩<;>simp only[dvl,List.cons.injEq,reduceCtorEq,and_false,and_true]at e
    obtain⟨e1,e2,e3⟩:=e;cases a<;>simp only[dv,reduceCtorEq]at e1;cases b<;>simp only[dv,DV.tup.injEq,reduceCtorEq]at e2;rename_i ws;rcases ws with _|⟨y,_|⟨z,ws⟩⟩<;>simp only[dvl,List.cons.injEq,reduceCtorEq,and_false,and_true]at e2
    cases c<;>simp only[dv,DV.slen.injEq,reduceCtorEq]at e3;cases hp
   ·cases hq
omit hX hcs in
theorem ZgT (T:TS S) (x:Zb2 S):(ZU T x).val.bind Yd=(x.val.bind Z10).map (dv T):=by
 show(x.val.map (dv T)).bind Yd=_;cases x.val with
 | none=>rfl
 | some v=>exact Zap T v
theorem Z7N {callH callY:Z1m S R} (t:Z1n X false callH) (s:Z1n X true callY) {path:List Nat} {V nt:Nat} {ops:Array Oper} {b:Nat} :
  ∀(os:List Oper) (k:Nat) (kn:List (Nat×Bool)) (m:Z1B S) (kk:Option (TV S)->Z1B S->Option R) (r:R),Zg9 X cs callH callY path V nt ops b k os kn m kk=some r->Zb1 kn (Z14 V m.base m.loc)->WfO X.E m.objs →
   ∃pd m',Evt (fun n=>Z1O X.E (evF X.E n) (evX X.E n false) (evX X.E n true) V nt ops b k os (dvM X.T m)=some (pd.map (dv X.T),dvM X.T m'))/\WfO X.E m'.objs/\kk pd m'=some r
 | [],k,kn,m,kk,r,h,_,hw=>⟨none,m,Evt.of fun _=>rfl,hw,h⟩
 | o::os,k,kn,m,kk,r,h,hkn,hw=>by
  simp only[Zg9]at h;rw[ZcG hkn]at h;obtain⟨want,kn',j,a,_,h⟩:=Zf1 X.T hkn h;have e1:ZQ V (dvM X.T m).base (dvM X.T m).loc=dvr X.T (Z14 V m.base m.loc):=Zda X.T V m.base m.loc;cases want with
  | false =>
   simp only[jA]at h;obtain⟨pd,m',g,i,l⟩:=Z7N t s os (k+1) _ _ kk r h (Zag a) (by rw[Z3s];exact hw)
   refine⟨pd,m',g.mono fun n e=>?_,i,l⟩;simp only[Z1O];rw[e1,j];simp only[jm,jA];have e2:=Z8m X.T V nt m o.dst (some (.tup []));simp only[jq,dv,dvl]at e2;rw[e2];exact e
  | true =>
   simp only[jB]at h;rw[ZcG a]at h;cases hpt:Zku (Z14 V m.base m.loc) o.op with
   | some d =>
    rw[hpt]at h;refine⟨some d,m,Evt.of fun n=>?_,hw,h⟩;simp only[Z1O];rw[e1,j];simp only[jm,jB];rw[Zkv X.T hpt];rfl
   | none =>
   rw[hpt]at h;simp only at h;have f:=Zgd h;rcases ZeT hX hcs h with⟨q,g,i,h⟩|⟨c,tgt,g,i,l,h⟩
   ·obtain⟨pd,m',p,u,v⟩:=Z7N t s os (k+1) _ _ kk r h (Zag (m:={ m with objs:=Z4A m.objs q.upd }) a) (by rw[Z3s];exact hw.upd i)
    refine⟨pd,m',(g.and p).mono fun n e=>?_,u,v⟩;simp only[Z1O];rw[e1,j];simp only[jm,jB,Z7v,f];rw[e.1];simp only[jm];rw[ZgX];exact e.2
   ·obtain⟨x,Ts,nn,p,u,h⟩:=Zgz hX t s h hw;have e4:({ dvM X.T m with objs:=ZW (dvM X.T m).objs (ZU X.T x).upd,next:=nn }:Mid)=dvM X.T { m with objs:=Z4A m.objs x.upd,next:=nn }:=by
     simp only[dvM,ZU,ZaW]
    have e6:(ZU X.T x).val=x.val.map (dv X.T):=rfl;have e7:=ZgT X.T x;cases hpo:x.val.bind Z10 with
    | some d =>
     rw[hpo]at h;refine⟨some d,{ m with objs:=Z4A m.objs x.upd,next:=nn },p.mono fun n e=>?_,hw.updW u,h⟩
     simp only[Z1O];rw[e1,j];simp only[jm,jB,Z7v,f,i,g,l];have e5:YS (evX X.E n false) (evX X.E n true) (dvh X.T m.objs.get) (dvM X.T m).next (dv X.T tgt.1,dvl X.T tgt.2)=some (ZU X.T x,Ts,nn):=e;rw[e5];simp only[jm];rw[e7,hpo,e4];rfl
    | none =>
    rw[hpo]at h;obtain⟨pd,m',v,w,y⟩:=Z7N t s os (k+1) _ _ kk r h (Zag (m:={ m with objs:=Z4A m.objs x.upd,next:=nn }) a) (by rw[Z3s];exact hw.updW u)
    refine⟨pd,m',(p.and v).mono fun n e=>?_,w,y⟩;simp only[Z1O];rw[e1,j];simp only[jm,jB,Z7v,f,i,g,l];have e5:YS (evX X.E n false) (evX X.E n true) (dvh X.T m.objs.get) (dvM X.T m).next (dv X.T tgt.1,dvl X.T tgt.2)=some (ZU X.T x,Ts,nn):=e.1;rw[e5];simp only[jm];rw[e7,hpo];simp only[jp];have e2:=Z8m X.T V nt { m with objs:=Z4A m.objs x.upd,next:=nn } o.dst x.val
    rw[e4,e6,e2];exact e.2
end
end Go.Ab
namespace Go.Ab
variable {S:Nat->Type} {R:Type}
def dvD (T:TS S) (d:Z1p S):YK:=⟨d.dst,d.anc,d.touch,ZU T d.out,d.new⟩
def Z12 (T:TS S) (ds:List (Nat×Z1p S)):List (Nat×YK):=ds.map fun p=>(p.1,dvD T p.2)
section
variable {T:TS S} (hT:TOk T)
include hT
theorem ZjD (ρ:Nat->Option (TV S)) (op:Op):touch (dvr T ρ) op=ZaT ρ op:=by
 unfold touch ZaT;congr 1;funext x;rw[ZF];cases ZO ρ x with
 | none=>rfl
 | some v=>exact Zcs hT v
omit hT in
theorem Zh9 (anc:Nat) (ρ:Nat->Option (TV S)):∀(ds:List (Nat×Z1p S)) (t:Nat),seen anc (dvr T ρ) (Z12 T ds) t=(Z43 anc ρ ds t).map (dv T)
 | [],t=>rfl
 | (j,d)::ds,t=>by
  have ih:=Zh9 anc ρ ds t;show seen anc (dvr T ρ) ((j,dvD T d)::Z12 T ds) t=_;simp only[seen,Z43,dvD];rw[ih];cases d.dst with
  | none=>rfl
  | some s =>
   simp only;cases Nat.beq s t with
   | true =>
    simp only[jB];cases Nat.testBit anc j<;>rfl
   | false=>rfl
omit hT in
theorem Z9y (id:Nat):∀(u:List (Nat×Option (Zi S))),Zq id (dvu T u)=(Z3V id u).map (Option.map (dvO T))
 | []=>rfl
 | (i,x)::u=>by
  have ih:=Z9y id u;unfold dvu at ih;simp only[dvu,jr,Zq,Z3V,ih];cases Z3V id u with
  | some y=>rfl
  | none =>
   simp only[jp];cases Nat.beq i id<;>rfl
omit hT in
theorem ZeK (anc:Nat) (h:Nat->Option (Zi S)):∀(ds:List (Nat×Z1p S)),Z6u anc (dvh T h) (Z12 T ds)=dvh T (Z53 anc h ds)
 | []=>rfl
 | (j,d)::ds=>by
  funext id;have ih:=congrFun (ZeK anc h ds) id;unfold Z12 at ih;simp only[Z12,jr,Z6u,dvD,ZU,Z9y];show _=(Z53 anc h ((j,d)::ds) id).map (dvO T);simp only[Z53];cases Z3V id d.out.upd with
  | none=>exact ih
  | some x =>
   simp only[jq];cases Nat.testBit anc j<;>rfl
omit hT in
theorem Z5j (ops:Array Oper) (ds:List (Nat×Z1p S)) (o:Oper) (k:Nat):Z21 ops (Z12 T ds) o k=Z5i ops ds o k:=by
 unfold Z21 Z5i;congr 1;funext m e;have:((Z12 T ds).find? (fun d=>Nat.beq d.1 e.on)).map (·.2.anc)=(ds.find? (fun d=>Nat.beq d.1 e.on)).map (·.2.anc):=by
  unfold Z12;rw[List.find?_map,Option.map_map];rfl
 rw[this]
omit hT in
theorem ZbI (V nt:Nat):∀(ds:List (Nat×Z1p S)) (m:Z1B S),YV V nt (Z12 T ds) (dvM T m)=dvM T (Z4X V nt ds m)
 | [],m=>rfl
 | (j,d)::ds,m=>by
  have ih:=ZbI V nt ds m;unfold Z12 at ih;simp only[Z12,jr,YV,Z4X,ih];exact ZgX T V nt (Z4X V nt ds m) d.dst d.out
end
def ZkZ (E:Env) (ds:List (Nat×Z1p S)):Prop:=∀p∈ds,∀u∈p.2.out.upd,WfL E u.2
theorem ZbJ {E:Env} {V nt:Nat}:∀{ds:List (Nat×Z1p S)} {m:Z1B S},ZkZ E ds->WfO E m.objs->WfO E (Z4X V nt ds m).objs
 | [],_,_,h=>h
 | (j,d)::ds,m,hd,h=>by
  simp only[Z4X];rw[Z3s];exact(ZbJ (fun p a=>hd p (by simp[a])) h).updW (hd (j,d) (by simp))
theorem Z72 {ρ:Nat->Option (TV S)} {a a':Nat} {v v':TV S}:∀{ds:List (Nat×Z1p S)} {t:Nat},Z43 a ρ ds t=some v->Z43 a' ρ ds t=some v'->v=v'
 | [],t,h,h'=>by simp only[Z43]at h h';rw[h]at h';cases h';rfl
 | (j,d)::ds,t,h,h'=>by
  simp only[Z43]at h h';cases hd:d.dst with
  | none =>
   rw[hd]at h h';exact Z72 h h'
  | some s =>
   rw[hd]at h h';simp only at h h';cases hm:Nat.beq s t with
   | true =>
    rw[hm]at h h';simp only[jB]at h h';cases h1:Nat.testBit a j with
    | false=>rw[h1]at h;cases h
    | true=>cases h2:Nat.testBit a' j with
     | false=>rw[h2]at h';cases h'
     | true=>rw[h1]at h;rw[h2]at h';simp only[jB]at h h';rw[h]at h';cases h';rfl
   | false =>
    rw[hm]at h h';exact Z72 h h'
def KnD (kn:List (Nat×Bool)) (ρ:Nat->Option (TV S)) (ds:List (Nat×Z1p S)):Prop:=∀anc,Zb1 kn (Z43 anc ρ ds)
theorem Zaf {kn:List (Nat×Bool)} {ρ:Nat->Option (TV S)} {ds:List (Nat×Z1p S)} {j:Nat} {d:Z1p S} (h:KnD kn ρ ds):KnD (Z5w kn d.dst) ρ ((j,d)::ds):=fun anc =>
 Ze4 (h anc) fun t v a hv=>by
  simp only[Z43]at hv;cases hd:d.dst with
  | none=>rw[hd]at hv;exact hv
  | some s =>
   rw[hd]at hv;have b:Nat.beq s t=false:=by
    simp only[Tr.beq_dec,decide_eq_false_iff_not];intro e;subst e;exact a hd
   simp only[b,jA]at hv;exact hv
theorem Z2B {α:Type} {c:Bool} {x y:α} (h:c=true):(bif c then x else y)=x:=by rw[h];rfl
theorem Zcd {T:TS S} {ops:Array Oper} {ds:List (Nat×Z1p S)} {o:Oper} {k nt:Nat}
  (hc:(o.after.all (fun e => !Region.binds .any e||Nat.blt e.on k)&&(match o.dst with|none=>true|some t=>Nat.blt t nt)&&ds.all (fun d=>Nat.testBit (Z5i ops ds o k) d.1||(match o.dst with
    | none=>true
    | some t => !((ops.getD d.1 o).looksAt ops).contains t && !(match d.2.dst with|some s=>Nat.beq s t|none=>false))))=true) :
  (o.after.all (fun e => !Region.binds .any e||Nat.blt e.on k)&&(match o.dst with|none=>true|some t=>Nat.blt t nt)&&(Z12 T ds).all (fun d=>Nat.testBit (Z21 ops (Z12 T ds) o k) d.1||(match o.dst with
    | none=>true
    | some t => !((ops.getD d.1 o).looksAt ops).contains t && !(match d.2.dst with|some s=>Nat.beq s t|none=>false))))=true:=by
 refine Eq.trans ?_ hc;rw[Z5j];congr 1;have:∀f:Nat×YK->Bool,(Z12 T ds).all f=ds.all fun p=>f (p.1,dvD T p.2):=fun f=>by
  unfold Z12;rw[List.all_map];rfl
 rw[this];rfl
section
variable {X:Y2 S} (hX:XOk X) {cs:Z3v S R} (hcs:Z9k X cs)
include hX hcs
omit hX hcs in
theorem ZeL {anc:Nat} {h:Nat->Option (Zi S)} (b:∀i,WfL X.E (h i)):∀{ds:List (Nat×Z1p S)},ZkZ X.E ds->∀i,WfL X.E (Z53 anc h ds i)
 | [],_,i=>b i
 | (j,d)::ds,hd,i=>by
  simp only[Z53];have ih:=ZeL (anc:=anc) b (ds:=ds) (fun p c=>hd p (by simp[c])) i
  cases hq:Z3V i d.out.upd with
  | none=>exact ih
  | some x =>
   simp only;cases Nat.testBit anc j with
   | false=>trivial
   | true =>
    obtain⟨u,a,rfl⟩:∃u∈d.out.upd,u.2=x:=by
     have key:∀(us:List (Nat×Option (Zi S))),Z3V i us=some x->∃u∈us,u.2=x:=by
      intro us
      induction us with
      | nil=>intro h;cases h
      | cons u us ihu =>
       obtain⟨i',y⟩:=u;intro h;simp only[Z3V]at h;cases hu:Z3V i us with
       | some z =>
        rw[hu]at h;cases h;obtain⟨v,a,e⟩:=ihu hu;exact⟨v,by simp[a],e⟩
       | none =>
        rw[hu]at h;simp only at h;cases hb:Nat.beq i' i with
        | false=>rw[hb]at h;cases h
        | true=>rw[hb]at h;cases h;exact⟨(i',x),by simp,rfl⟩
     exact key _ hq
    exact hd (j,d) (by simp) u a
theorem Z7b {callH callY:Z1m S R} (y:Z1n X false callH) (w:Z1n X true callY) {path:List Nat} {V nt:Nat} {ops:Array Oper} {b:Nat} :
  ∀(os:List Oper) (k:Nat) (kn:List (Nat×Bool)) (m:Z1B S) (ds:List (Nat×Z1p S)) (kk:Z1B S->Option R) (r:R),Z9O X cs callH callY path V nt ops b k os kn m ds kk=some r->KnD kn (Z14 V m.base m.loc) ds->ZkZ X.E ds->WfO X.E m.objs →
   ∃m',Evt (fun n=>Z1c X.E (evF X.E n) (evX X.E n false) (evX X.E n true) V nt ops b k os (dvM X.T m) (Z12 X.T ds)=some (dvM X.T m'))/\WfO X.E m'.objs/\kk m'=some r
 | [],k,kn,m,ds,kk,r,h,_,hd,hw=>by
  simp only[Z9O]at h;exact⟨_,Evt.of fun _=>by simp only[Z1c,ZbI],ZbJ hd hw,h⟩
 | o::os,k,kn,m,ds,kk,r,h,hkn,hd,hw=>by
  simp only[Z9O]at h;obtain⟨hc,h⟩:=Z1 h;rw[ZcG (hkn _)]at h;obtain⟨want,kn',h1,hkn1,v,h⟩:=Zf1 X.T (hkn _) h;have a:KnD kn' (Z14 V m.base m.loc) ds:=fun anc t b0 b' hk hv=>by
   rcases v t b0 hk with i|i
   ·exact hkn anc t b0 b' i hv
   ·have:=Z72 i hv;cases this;rfl
  have e1:ZQ V (dvM X.T m).base (dvM X.T m).loc=dvr X.T (Z14 V m.base m.loc):=Zda X.T V m.base m.loc;have e2:seen (Z21 ops (Z12 X.T ds) o k) (ZQ V (dvM X.T m).base (dvM X.T m).loc) (Z12 X.T ds)=dvr X.T (Z43 (Z5i ops ds o k) (Z14 V m.base m.loc) ds):=by
   rw[e1,Z5j];exact funext fun t=>Zh9 _ _ ds t
  have e3:Z6u (Z21 ops (Z12 X.T ds) o k) (dvM X.T m).objs.get (Z12 X.T ds)=dvh X.T (Z53 (Z5i ops ds o k) m.objs.get ds):=by
   rw[Z7v,Z5j];exact ZeK _ _ ds
  cases want with
  | false =>
   simp only[jA]at h;obtain⟨m',i,s,h4⟩:=Z7b y w os (k+1) _ m _ kk r h (Zaf (d:=⟨o.dst,Z5i ops ds o k,[],⟨some (.tup []),[]⟩,none⟩) a)
    (fun p c=>by
     rcases jv.1 c with e|c
     ·subst e;intro u hu;cases hu
     ·exact hd p c) hw
   refine⟨m',i.mono fun n j=>?_,s,h4⟩;simp only[Z1c];refine(Z2B (Zcd hc)).trans ?_;simp only[e2,h1,jm,jA];have e4:Z12 X.T ((k,⟨o.dst,Z5i ops ds o k,[],⟨some (.tup []),[]⟩,none⟩)::ds)=(k,⟨o.dst,Z21 ops (Z12 X.T ds) o k,[],⟨some (.tup []),[]⟩,none⟩)::Z12 X.T ds:=by
    rw[Z5j];simp[Z12,dvD,ZU,dv,dvl,dvu]
   rw[e4]at j;exact j
  | true =>
   simp only[jB]at h;rw[ZcG (a _)]at h;have e9:∀(up:List (Nat×Option (Zi S))) (f:Z1p S->Bool) (g:YK->Bool),(∀d,g (dvD X.T d)=f d) →
     (Z12 X.T ds).all (fun d=>Nat.testBit (Z21 ops (Z12 X.T ds) o k) d.1||g d.2&&(dvu X.T up).all (fun u => !d.2.touch.contains u.1&&(Zq u.1 d.2.out.upd).isNone)) =
     ds.all (fun d=>Nat.testBit (Z5i ops ds o k) d.1||f d.2&&up.all (fun u => !d.2.touch.contains u.1&&(Z3V u.1 d.2.out.upd).isNone)):=fun up f g hfg=>by
    rw[Z5j];simp only[Z12,List.all_map];congr 1;funext d;simp only[Function.comp,dvD,dvu,List.all_map];have:=hfg d.2;simp only[dvD]at this;rw[this];congr 2;congr 1;funext u;simp only[Function.comp,ZU,Z9y];cases Z3V u.1 d.2.out.upd<;>rfl
   rcases ZeT hX hcs h with⟨q,i,s,h⟩|⟨cl,tgt,i,s,h4,h⟩
   ·obtain⟨h5,h⟩:=Z1 h;obtain⟨m',h6,l,h8⟩:=Z7b y w os (k+1) _ m _ kk r h (Zaf (d:=⟨o.dst,Z5i ops ds o k,ZaT (Z43 (Z5i ops ds o k) (Z14 V m.base m.loc) ds) o.op,q,none⟩) a)
     (fun p c=>by
      rcases jv.1 c with e|c
      ·subst e;exact fun u hu=>ZaY (s u hu)
      ·exact hd p c) hw
    refine⟨m',(i.and h6).mono fun n j=>?_,l,h8⟩;simp only[Z1c];refine(Z2B (Zcd hc)).trans ?_;simp only[e2,e3,h1,jm,jB];rw[j.1];simp only[jm];have h9:(ZU X.T q).upd.all (fun u=>(Z12 X.T ds).all (fun d=>Nat.testBit (Z21 ops (Z12 X.T ds) o k) d.1 || !d.2.touch.contains u.1&&(Zq u.1 d.2.out.upd).isNone))=true:=by
     rw[<-h5,Z5j];simp only[ZU,dvu,Z12,List.all_map];congr 1;funext u;simp only[Function.comp];congr 1;funext d;simp only[Function.comp,dvD,ZU,Z9y];cases Z3V u.1 d.2.out.upd<;>rfl
    rw[h9];simp only[jB];have e4:Z12 X.T ((k,⟨o.dst,Z5i ops ds o k,ZaT (Z43 (Z5i ops ds o k) (Z14 V m.base m.loc) ds) o.op,q,none⟩)::ds)=(k,⟨o.dst,Z21 ops (Z12 X.T ds) o k,touch (dvr X.T (Z43 (Z5i ops ds o k) (Z14 V m.base m.loc) ds)) o.op,ZU X.T q,none⟩)::Z12 X.T ds:=by
     rw[Z5j,ZjD hX.t];simp[Z12,dvD]
    rw[<-e4];exact j.2
   ·obtain⟨x,Ts,nn,h5,h6,h⟩:=Zgz hX y w h (ZeL hw hd);obtain⟨l,h⟩:=Z1 h;rw[jn]at l;obtain⟨m',h8,h9,z⟩:=Z7b y w os (k+1) _ { m with next:=nn } _ kk r h (Zaf (d:=⟨o.dst,Z5i ops ds o k,Ts,x,some (m.next,nn)⟩) a)
     (fun p c=>by
      rcases jv.1 c with e|c
      ·subst e;exact h6
      ·exact hd p c) hw
    refine⟨m',(h5.and h8).mono fun n j=>?_,h9,z⟩;simp only[Z1c];refine(Z2B (Zcd hc)).trans ?_;simp only[e2,e3,h1,jm,jB,s,i,h4];have e5:YS (evX X.E n false) (evX X.E n true) (dvh X.T (Z53 (Z5i ops ds o k) m.objs.get ds)) (dvM X.T m).next (dv X.T tgt.1,dvl X.T tgt.2)=some (ZU X.T x,Ts,nn):=j.1;rw[e5];simp only[jm];have h11:=e9 x.upd (fun d=>d.new.isNone) (fun d=>d.new.isNone) (fun d=>rfl);refine(Z2B (by rw[jn];exact⟨h11.trans l.1,by rw[ZgT,Option.isNone_map];exact l.2⟩)).trans ?_
    have e4:Z12 X.T ((k,⟨o.dst,Z5i ops ds o k,Ts,x,some (m.next,nn)⟩)::ds)=(k,⟨o.dst,Z21 ops (Z12 X.T ds) o k,Ts,ZU X.T x,some ((dvM X.T m).next,nn)⟩)::Z12 X.T ds:=by
     rw[Z5j];simp[Z12,dvD,dvM]
    rw[e4]at j;exact j.2
theorem Zg2 {callH callY:Z1m S R} (i:Z1n X false callH) (j:Z1n X true callY) {path:List Nat} {V nt:Nat} {ops:Array Oper} {draw:Bool} {s:StT S} {kk:Option (TV S)->StT S->Option R} {r:R}
  (h:ZcP X cs callH callY path V nt ops draw s kk=some r) (g:WfO X.E s.objs) :
  ∃pd s',Evt (fun n=>Z2F X.E (evF X.E n) (evX X.E n false) (evX X.E n true) V nt ops draw (Zo X.T s)=some (pd.map (dv X.T),Zo X.T s'))/\WfO X.E s'.objs/\kk pd s'=some r:=by
 unfold ZcP at h;cases draw with
 | true =>
  simp only[jB]at h;obtain⟨m',f,b,a⟩:=Z7b hX hcs i j _ 0 [] ⟨s.base,[],s.objs,s.next+ops.size⟩ [] _ r h (fun _ _ _ _ d _=>by cases d) (fun _ k=>by cases k) g
  rw[Zd5]at a;refine⟨none,⟨m'.base,m'.objs,m'.next⟩,f.mono fun n c=>?_,b,a⟩;unfold Z2F;simp only[jB];have e:Z1c X.E (evF X.E n) (evX X.E n false) (evX X.E n true) V nt ops (Zo X.T s).next 0 ops.toList ⟨(Zo X.T s).base,[],(Zo X.T s).objs,(Zo X.T s).next+ops.size⟩ []=some (dvM X.T m'):=c;rw[e];rfl
 | false =>
  simp only[jA]at h;obtain⟨pd,m',f,b,a⟩:=Z7N hX hcs i j _ 0 [] ⟨s.base,[],s.objs,s.next+ops.size⟩ _ r h (fun _ _ _ d _=>by cases d) g
  rw[Zd5]at a;refine⟨pd,⟨m'.base,m'.objs,m'.next⟩,f.mono fun n c=>?_,b,a⟩;unfold Z2F;simp only[jA];have e:Z1O X.E (evF X.E n) (evX X.E n false) (evX X.E n true) V nt ops (Zo X.T s).next 0 ops.toList ⟨(Zo X.T s).base,[],(Zo X.T s).objs,(Zo X.T s).next+ops.size⟩=some (pd.map (dv X.T),dvM X.T m'):=c;rw[e];rfl
end
end Go.Ab
namespace Go.Ab
variable {S:Nat->Type} {R:Type}
section
variable (T:TS S)
theorem Z9J (hT:TOk T) {cs:List (TV S)} {off:Nat} {o:Option (TV S)} (h:Zcb T cs off=some o):(o=none/\(dvs T cs)[off]? = none)\/(∃c d,o=some c/\(dvs T cs)[off]? = some d/\((ZT c=false/\d=dv T c)\/(c=.bool false/\plain d=true))):=by
 unfold Zcb at h;obtain⟨r,g,h⟩:=Z0 h;obtain⟨j,i⟩:=Z1M hT g;have e:(dvs T cs)[off]?=(dvs T r)[0]? := by rw[<-i];simp
 cases r with
 | nil=>cases h;exact .inl ⟨rfl,by rw[e,Z9o];rfl⟩
 | cons c r =>
  simp only at h;cases ha:ZT c with
  | true =>
   rw[ha]at h;obtain⟨a,h⟩:=Z1 h;cases h;rw[jn]at a;obtain⟨b,a⟩:=a;have a:0<wd T c:=by simpa[Tr.blt_dec]using a
   rw[<-Z3n hT c]at a;refine .inr ⟨_,(Y3 T c)[0],rfl,?_,.inr ⟨rfl,?_⟩⟩
   ·rw[e,Zu,List.getElem?_append_left a,List.getElem?_eq_getElem a]
   ·have f:(Y3 T c).all plain=true:=by
     cases c<;>simp only[Zlz,jg]at b
     ·exact Yr hT _ _ _
     ·exact hT.plain _ _
    exact List.all_eq_true.1 f _ (jl a)
  | false =>
   rw[ha]at h;cases h;refine .inr ⟨c,dv T c,rfl,?_,.inl ⟨ha,rfl⟩⟩;rw[e,Zu];cases c<;>simp[Y3,ZT]at ha⊢
theorem ZjM (hT:TOk T) {o:Tr (Zi S)} {b:Tr (TV S)} {a:Acc} {x:Option (Nat×Nat)} (h:ZjL T o b a=some x):Z6D (o.mapv (dvO T)) (b.mapv (dv T)) a=x:=by
 cases a with
 | slot t e =>
  simp only[ZjL]at h;simp only[Z6D,ZD];cases hb:b.get t with
  | none=>rw[hb]at h;cases h;rfl
  | some v =>
   rw[hb]at h;cases v<;>simp only[jh]at h<;>subst h<;>simp[dv]
 | cell t off e =>
  simp only[ZjL]at h;simp only[Z6D,ZD];cases hb:b.get t with
  | none=>rw[hb]at h;cases h;rfl
  | some v =>
   rw[hb]at h;cases v with
   | ptr q p =>
    cases p with
    | zero =>
     simp only[jq,dv];simp only at h;cases ho:o.get q with
     | none=>rw[ho]at h;cases h;rfl
     | some ob =>
      rw[ho]at h;cases ob with
      | cells ct cs =>
       simp only at h;simp only[jq,dvO];obtain⟨oc,i,h⟩:=Z0 h;rcases Z9J T hT i with⟨rfl,f⟩|⟨c,d,rfl,f,g⟩
       ·rw[f];cases h;rfl
       ·rw[f];rcases g with⟨_,rfl⟩|⟨rfl,g⟩
        ·cases c<;>simp only[jh]at h<;>subst h<;>simp[dv]
        ·cases h;cases d<;>simp[plain]at g<;>rfl
      | _=>simp only[jh]at h;subst h;simp[dvO]
    | succ p=>simp only[jh]at h;subst h;simp[dv]
   | ap=>cases h
   | _=>simp only[jh]at h;subst h;simp[dv]
theorem Zdg (hT:TOk T) {o:Tr (Zi S)} {b:Tr (TV S)}:∀{as:List Acc} {L:List (Option (Nat×Nat))},Zgq T o b as=some L->as.map (Z6D (o.mapv (dvO T)) (b.mapv (dv T)))=L
 | [],L,h=>by cases h;rfl
 | a::as,L,h=>by
  simp only[Zgq]at h;obtain⟨x,d,h⟩:=Z0 h;obtain⟨xs,c,h⟩:=Z0 h;cases h;rw[jr,ZjM T hT d,Zdg hT c]
end
theorem ZaP:∀(cs:List DV) (off:Nat) (v:DV),off<cs.length->Yc cs off [v]=cs.set off v
 | [],off,v,h=>by simp at h
 | c::cs,0,v,h=>by cases cs<;>simp[Yc]
 | c::cs,n+1,v,h=>by
  simp only[Yc,List.set_cons_succ];rw[ZaP cs n v (by simpa using h)]
theorem Z6p:∀(a b:List DV),YQ (a++b)=YQ a++YQ b
 | [],b=>by simp[YQ]
 | c::a,b=>by simp only[List.cons_append,YQ,Z6p a b,jj]
theorem Z5E:∀{cs:List DV},cs.all plain=true->YQ cs=[]
 | [],_=>rfl
 | c::cs,h=>by
  simp only[jt,jn]at h;simp only[YQ,Z5E h.2,jo];cases c<;>simp[plain,YD]at h⊢
theorem Z7e {pid:Nat}:∀{l:List DV},l.all (Z5v pid)=true->YQ l=[]
 | [],_=>rfl
 | d::l,h=>by
  simp only[jt,jn]at h;rcases Z1E h.1 with rfl|⟨t,rfl⟩<;>simp[YQ,YD,Z7e h.2]
section
variable {T:TS S} (hT:TOk T)
include hT
mutual
theorem Z7B:∀v:TV S,YD (dv T v)=YM v
 | .rs _ _=>by simp[dv,YD,YM]
 | .rv _ _ _ _ _=>by simp[dv,YD,YM] | .slen _=>by simp[dv,YD,YM]
 | .agg cs=>by simp only[dv,YD,YM];exact Zav cs
 | .tup cs=>by simp only[dv,YD,YM];exact Z7C cs
 | .fn _ a c=>by simp only[dv,YD,YM,Z7C a,Z7C c]
 | .iface _ v=>by simp only[dv,YD,YM];exact Z7B v
 | .bool _=>rfl | .int _ _=>rfl | .str _=>rfl | .nilp=>rfl | .nils=>rfl
 | .sl0=>by simp[dv,YD,YM] | .sl _ _=>by simp[dv,YD,YM]
 | .arr _ _ _=>by simp[dv,YD,YM] | .stc _ _=>by simp[dv,YD,YM]
 | .earr _ _ _ _=>by simp only[dv,YD,YM];exact Z7e (YC _ _ _ _)
 | .narr _ _=>by simp only[dv,YD,YM];exact Z7e (Z1f 0 _)
 | .ptr _ _=>by simp[dv,YD,YM] | .ap _ _ _ _ _=>by simp[dv,YD,YM] | .rptr _ _ _ _ _=>by simp[dv,YD,YM]
 | .pub _=>by simp[dv,YD,YM] | .map _=>by simp[dv,YD,YM] | .iter _=>by simp[dv,YD,YM] | .yld _=>by simp[dv,YD,YM] | .nop _=>by simp[dv,YD,YM]
 | .nilfn=>by simp[dv,YD,YM] | .nilmap=>by simp[dv,YD,YM] | .nilif=>by simp[dv,YD,YM]
theorem Zav:∀cs:List (TV S),YQ (dvs T cs)=Z30 cs
 | []=>by simp[dvs,YQ,Z30]
 | c::cs=>by
  rw[Zu,Z6p,Z30,Zav cs];have h:=Z7B c;cases c<;>simp only[Y3,YQ,jo]<;>first|rw[h]|skip
  ·rw[Z5E (Yr hT _ _ _)];rfl
  ·rw[Z5E (hT.plain _ _)];rfl
  ·rw[Z7e (YC _ _ _ _)];rfl
  ·rw[Z7e (Z1f 0 _)];rfl
theorem Z7C:∀cs:List (TV S),YQ (dvl T cs)=Z30 cs
 | []=>by simp[dvl,YQ,Z30]
 | c::cs=>by simp only[dvl,YQ,Z30,Z7B c,Z7C cs]
end
theorem Zjj (o:Zi S):Zji (dvO T o)=Zg1 o:=by
 cases o<;>simp only[dvO,Zji,Zg1]
 ·exact Zav hT _
 ·rw[Z2e,List.flatMap_map];congr 1;funext p;exact Z7B hT p.2
theorem ZiK (o:Tr (Zi S)) (b:Tr (TV S)) (n0 keep:Nat) (A:List (Option (Nat×Nat))):Zcm (o.mapv (dvO T)) (b.mapv (dv T)) n0 keep A=Zcn o b n0 keep A:=by
 unfold Zcm Zcn;have e1:Zg5 (o.mapv (dvO T)).get=Zd1 o.get:=by
  funext p;unfold Zg5 Zd1;rw[ZD];cases o.get p.1 with
  | none=>rfl
  | some x=>cases x<;>rfl
 rw[e1,Z2e,Z2e,List.flatMap_map,List.flatMap_map];congr 2
 ·congr 1;funext p;simp only[Zjj hT]
 ·congr 1;funext p;simp only[Z7B hT]
end
theorem ZlN {E:Env} {g:Nat->Zi S->Option (Option (Zi S))} {t t':Tr (Zi S)} (h:t.tm g 1 0=some t') (b:WfO E t) (d:∀k x y,g k x=some y->WfL E (some x)->WfL E y):WfO E t':=fun i=>by
 rcases Tr.tm_get1 h i with⟨_,a⟩|⟨x,y,c,a,e⟩
 ·rw[a];trivial
 ·rw[e];have:=b i;rw[c]at this;exact d i x y a this
section
variable {X:Y2 S} (hX:XOk X)
include hX
theorem Zjk {n0:Nat} {L:List (Option (Nat×Nat))} {x y:Zi S} (h:Z94 n0 L x=some y):Z31 n0 L (dvO X.T x)=some (dvO X.T y):=by
 cases x with
 | cells t cs =>
  simp only[Z94]at h;obtain⟨cs',a,h⟩:=Z0 h;cases h;simp only[dvO,Z31,Zax hX.t _ _ _ _ a,jm]
 | loop fid b ps as bo bid ex pa po =>
  simp only[Z94]at h;obtain⟨b',a,h⟩:=Z0 h;cases h;simp only[dvO,Z31];have:=Z7s (dv X.T) (fun _ d=>(Z3e n0 L d).bind fun d=>some (some d)) (fun _ d=>(ren n0 L d).bind fun d=>some (some d)) (fun k x y c=>by
   obtain⟨z,e,f⟩:=Z0 c;cases f;simp only[ZcR hX.t _ _ _ _ e,jm,jq]) b 1 0 b' a
  rw[this];rfl
 | row=>cases h;rfl
 | map=>cases h;rfl
 | siter=>cases h;rfl
 | mit m n =>
  simp only[Z94]at h;obtain⟨a,h⟩:=Z1 h;cases h;simp only[dvO,Z31,a,jB]
 | bag=>cases h;rfl
theorem Z5h {o:Tr (Zi S)} {n0:Nat}:∀{L:List (Option (Nat×Nat))} {j:Nat} {no r:Tr (Zi S)},Z4d o n0 j L no=some r->WfO X.E no->Z2p (o.mapv (dvO X.T)) n0 j L (no.mapv (dvO X.T))=some (r.mapv (dvO X.T))/\WfO X.E r
 | [],j,no,r,h,hw=>by cases h;exact⟨rfl,hw⟩
 | none::L,j,no,r,h,hw=>by simp only[Z4d]at h;simp only[Z2p];exact Z5h h hw
 | some (id,v)::L,j,no,r,h,hw=>by
  simp only[Z4d]at h;simp only[Z2p,ZD];cases ho:o.get id with
  | none=>rw[ho]at h;cases h
  | some ob =>
   rw[ho]at h;cases ob<;>simp only[reduceCtorEq]at h;rename_i e t es p u;obtain⟨b,h⟩:=Z1 h;obtain⟨a,c⟩:=Z5h h (hw.set (x:=some (.row e t es p 0)) trivial);simp only[jq,dvO,b,jB];rw[ZR]at a;exact⟨a,c⟩
theorem Yi {n0:Nat}:∀{as:List Acc} {j:Nat} {b:Tr (TV S)} {no:Tr (Zi S)} {r:Tr (TV S)×Tr (Zi S)},Z13 X n0 j as (b,no)=some r->WfO X.E no →
  Yj X.E n0 j as (b.mapv (dv X.T),no.mapv (dvO X.T))=some (r.1.mapv (dv X.T),r.2.mapv (dvO X.T))/\WfO X.E r.2
 | [],j,b,no,r,h,hw=>by cases h;exact⟨rfl,hw⟩
 | .slot t e::as,j,b,no,r,h,hw=>by
  simp only[Z13]at h;simp only[Yj,ZD];cases hb:b.get t with
  | none=>rw[hb]at h;exact Yi h hw
  | some v =>
   rw[hb]at h;cases v with
   | nils =>
    simp only at h;obtain⟨ei,m,h⟩:=Z0 h;obtain⟨te,g,h⟩:=Z0 h;obtain⟨a,h⟩:=Z1 h;obtain⟨l,n⟩:=Yi h (hw.set (x:=some (.row e te [] 0 0)) trivial);simp only[jq,dv,m,jm];have s:(Nat.blt 0 ei.size&&(Option.map (dvO X.T) (no.get (n0+j))).isNone)=true:=by
     rw[<-a];cases no.get (n0+j)<;>rfl
    rw[s];simp only[jB];rw[ZR,ZR]at l;exact⟨l,n⟩
   | _=>simp only[jq,dv];exact Yi h hw
 | .cell t off e::as,j,b,no,r,h,hw=>by
  simp only[Z13]at h;simp only[Yj,ZD];cases hb:b.get t with
  | none=>rw[hb]at h;exact Yi h hw
  | some v =>
   rw[hb]at h;cases v with
   | ptr q p =>
    cases p with
    | zero =>
     simp only[jq,dv];simp only at h;cases ho:no.get q with
     | none=>rw[ho]at h;exact Yi h hw
     | some ob =>
      rw[ho]at h;cases ob with
      | cells ct cs =>
       simp only at h;simp only[jq,dvO];obtain⟨oc,hc,h⟩:=Z0 h;have other:(∀d,(dvs X.T cs)[off]? = some d->d≠.nils)->Z13 X n0 (j+1) as (b,no)=some r->(match(dvs X.T cs)[off]? with
         | some .nils=>(X.E.ty e).bind fun ei=>bif Nat.blt 0 ei.size&&(Option.map (dvO X.T) (no.get (n0+j))).isNone then Yj X.E n0 (j+1) as (b.mapv (dv X.T),((no.mapv (dvO X.T)).set q (some (.cells ct ((dvs X.T cs).set off (.rs (n0+j) 0))))).set (n0+j) (some (.row e [] 0 0)))else none
         | _=>Yj X.E n0 (j+1) as (b.mapv (dv X.T),no.mapv (dvO X.T)))=some (r.1.mapv (dv X.T),r.2.mapv (dvO X.T))/\WfO X.E r.2:=fun z hh=>by
        obtain⟨g1,g2⟩:=Yi hh hw;refine⟨?_,g2⟩;split
        ·rename_i w;exact absurd rfl (z _ w)
        ·exact g1
       rcases Z9J X.T hX.t hc with⟨rfl,g⟩|⟨c,d,rfl,g,a⟩
       ·exact other (fun d u=>by rw[g]at u;cases u) h
       ·by_cases hcn:c=.nils
        ·subst hcn;rcases a with⟨_,rfl⟩|⟨a,_⟩
         ·simp only at h;obtain⟨ei,m,h⟩:=Z0 h;obtain⟨te,l,h⟩:=Z0 h;obtain⟨cs',n,h⟩:=Z0 h;obtain⟨s,h⟩:=Z1 h;obtain⟨h7,y⟩:=Z1g hX.t n;have h9:dvs X.T cs'=(dvs X.T cs).set off (.rs (n0+j) 0):=by
           rw[<-y,<-ZaP _ _ _ (jc.1 g).1];simp[dvs,dv]
          obtain⟨f,o⟩:=Yi h ((hw.set (x:=some (.cells ct cs')) trivial).set (x:=some (.row e te [] 0 0)) trivial);rw[g];simp only[dv,m,jm];have k:(Nat.blt 0 ei.size&&(Option.map (dvO X.T) (no.get (n0+j))).isNone)=true:=by
           rw[<-s];cases no.get (n0+j)<;>rfl
          rw[k];simp only[jB];rw[ZR,ZR]at f;simp only[jq,dvO,h9]at f;exact⟨f,o⟩
         ·cases a
        ·refine other (fun d' i=>?_) ?_
         ·rw[g]at i;cases i;rcases a with⟨_,rfl⟩|⟨_,a⟩
          ·cases c<;>simp[dv]at hcn⊢
          ·intro e;subst e;simp[plain]at a
         ·cases c<;>first|exact h|exact absurd rfl hcn
      | _=>simp only[jq,dvO];exact Yi h hw
    | succ p=>simp only[jq,dv];exact Yi h hw
   | ap=>cases h
   | _=>simp only[jq,dv];exact Yi h hw
theorem ZhK {c:Z4b} {n0:Nat} {s s':StT S} (h:ZfJ X c n0 s=some s') (v:WfO X.E s.objs):Zee X.E c n0 (Zo X.T s)=some (Zo X.T s')/\WfO X.E s'.objs:=by
 unfold ZfJ at h;obtain⟨A,q,h⟩:=Z0 h;have g:=ZiK hX.t s.objs s.base n0 c.keep A;generalize Zcn s.objs s.base n0 c.keep A=XL at h g;simp only at h;generalize hLd:XL.map some++A=L at h;obtain⟨p,h⟩:=Z1 h;obtain⟨b,w,h⟩:=Z0 h;obtain⟨o,l,h⟩:=Z0 h;obtain⟨o2,u,h⟩:=Z0 h;obtain⟨r,h6,h⟩:=Z0 h;cases h;have e1:=Zdg X.T hX.t q;have e2:=Z7s (dv X.T) _ (fun t d=>bif Nat.testBit c.keep t then(ren n0 L d).bind fun d=>some (some d)else some none) (fun k x y a=>by
  cases hk:Nat.testBit c.keep k with
  | true =>
   rw[hk]at a;obtain⟨z,e,f⟩:=Z0 a;cases f;simp only[jB,ZcR hX.t _ _ _ _ e,jm,jq]
  | false=>rw[hk]at a;cases a;rfl) s.base 1 0 b w
 have e3:=Z7s (dvO X.T) _ (fun i x=>bif Nat.blt i n0 && !Z3G i L then(Z31 n0 L x).bind fun x=>some (some x)else some none) (fun k x y a=>by
  cases hk:(Nat.blt k n0 && !Z3G k L)with
  | true =>
   rw[hk]at a;obtain⟨z,e,f⟩:=Z0 a;cases f;simp only[jB,Zjk hX e,jq,jm]
  | false=>rw[hk]at a;cases a;rfl) s.objs 1 0 o l
 have w1:WfO X.E o:=ZlN l v fun k x y a g=>by
  cases hk:(Nat.blt k n0 && !Z3G k L)with
  | true =>
   rw[hk]at a;obtain⟨z,e,f⟩:=Z0 a;cases f;cases x with
   | loop fid bb ps as bo bid ex pa po =>
    simp only[Z94]at e;obtain⟨b',_,j⟩:=Z0 e;cases j;exact g
   | cells t cs =>
    simp only[Z94]at e;obtain⟨b',_,j⟩:=Z0 e;cases j;trivial
   | row=>cases e;trivial
   | map=>cases e;trivial
   | siter=>cases e;trivial
   | mit m n =>
    simp only[Z94]at e;obtain⟨_,e⟩:=Z1 e;cases e;trivial
   | bag=>cases e;trivial
  | false=>rw[hk]at a;cases a;trivial
 obtain⟨e4,w2⟩:=Z5h hX u w1;obtain⟨e5,w3⟩:=Yi hX h6 w2;refine⟨?_,w3⟩;unfold Zee;simp only[Zo];rw[e1,g,hLd,p];simp only[jB];rw[e2];simp only[jm];rw[e3];simp only[jm];rw[e4];simp only[jm];rw[e5];rfl
omit hX in
theorem Zkf (T:TS S) (x:Zi S):dvO T (ZiT x)=Z5y (dvO T x):=by cases x<;>rfl
omit hX in
theorem Z64 {α β γ:Type} (f:α->β) (g:β->γ):∀(t:Tr α),(t.mapv f).mapv g=t.mapv fun x=>g (f x)
 | .leaf=>rfl
 | .node l v r=>by simp only[Tr.mapv,Z64 f g l,Z64 f g r,Option.map_map];rfl
omit hX in
theorem Zkg {E:Env} {o:Tr (Zi S)} (a:WfO E o):WfO E (o.mapv ZiT):=fun i=>by
 rw[ZD];have:=a i;cases hq:o.get i with
 | none=>trivial
 | some x=>rw[hq]at this;cases x<;>exact this
theorem Zeg {a:Z4b} {n0:Nat} {s s':StT S} (h:ZgQ X a n0 s=some s') (b:WfO X.E s.objs):Zed X.E a n0 (Zo X.T s)=some (Zo X.T s')/\WfO X.E s'.objs:=by
 unfold ZgQ at h;obtain⟨s1,c,h⟩:=Z0 h;cases h;obtain⟨k1,k2⟩:=ZhK hX c b;unfold Zed;rw[k1];cases a.raw with
 | true=>exact⟨rfl,k2⟩
 | false =>
  refine⟨?_,Zkg k2⟩;simp only[jm,jA,Zo];congr 2;rw[Z64,Z64];congr 1;funext x;exact(Zkf X.T x).symm
end
end Go.Ab
