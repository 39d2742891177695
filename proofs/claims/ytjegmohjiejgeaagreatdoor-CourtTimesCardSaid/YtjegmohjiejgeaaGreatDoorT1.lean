/- The same on typed values. -/
import Derived.Test.YtjegmohjiejgeaaGreatDoorA1
import Derived.Test.YtjegmohjiejgeaaGreatDoorA2
set_option linter.unusedSectionVars false
set_option linter.unusedVariables false
set_option linter.unusedSimpArgs false
namespace Go.Ab
inductive Ty where
 | bool
 | int (k:IntKind)
 | str
 | sl (t:Ty)
 | arr (n:Nat) (t:Ty)
 | st (i:Nat)
 deriving DecidableEq,Inhabited
def Val (S:Nat->Type):Ty->Type
 | .bool=>Bool
 | .int _=>Int
 | .str=>ByteArray
 | .sl t=>List (Val S t)
 | .arr _ t=>Nat->Val S t
 | .st i=>S i
inductive TV (S:Nat->Type) where
 | bool (b:Bool)
 | int (k:IntKind) (n:Int)
 | str (s:ByteArray)
 | nilp
 | ptr (id off:Nat)
 | ap (id base i esz off:Nat)
 | rptr (id ver i esz off:Nat)
 | pub (cs:List (TV S))
 | nils
 | sl0
 | sl (t:Ty) (xs:List (Val S t))
 | rv (id ver i n e:Nat)
 | slen (n:Nat)
 | rs (id ver:Nat)
 | arr (t:Ty) (n:Nat) (a:Nat->Val S t)
 | stc (i:Nat) (x:S i)
 | earr (ts:List TypeId) (pid n:Nat) (a:Nat->Nat)
 | narr (ts:List TypeId) (n:Nat)
 | agg (cs:List (TV S))
 | tup (vs:List (TV S))
 | fn (f:Fn) (first caps:List (TV S))
 | nilfn
 | map (id:Nat)
 | nilmap
 | iface (t:TypeId) (v:TV S)
 | nilif
 | iter (id:Nat)
 | yld (id:Nat)
inductive Zk (S:Nat->Type) where
 | cells (t:TypeId) (cs:List (TV S))
 | row (e:TypeId) (t:Ty) (xs:List (Val S t)) (pubd ver:Nat)
 | map (kt et:Ty) (m:List (Val S kt×Val S et))
 | siter (s:ByteArray) (pos:Nat)
 | mit (m n:Nat)
 | bag (e:TypeId) (t:Ty) (xs:List (Val S t)) (ver:Nat)
 | loop (fid:Nat) (base:Tr (TV S)) (params:List Nat) (assign body:Code) (bid:Nat) (done:Ex) (path at_:List Nat)
structure TS (S:Nat->Type) where
 size:Nat->Nat
 cells:∀i,S i->List (TV S)
 dcells:∀i,S i->List DV
 rd:∀i,List (TV S)->Option (S i×List (TV S))
 dflt:∀i,S i
 seq:∀i,Option (S i->S i->Bool)
section
variable {S:Nat->Type}
def tsz (T:TS S):Ty->Nat
 | .arr n t=>n*tsz T t
 | .st i=>T.size i
 | _=>1
def tdf (T:TS S):(t:Ty)->Val S t
 | .bool=>false
 | .int _=>(0:Int)
 | .str=>ByteArray.empty
 | .sl _=>[]
 | .arr _ t=>fun _=>tdf T t
 | .st i=>T.dflt i
def YV:Ty->Bool
 | .arr _ _ | .st _=>true
 | _=>false
def tcl (T:TS S):(t:Ty)->Val S t->List (TV S)
 | .bool,b=>[.bool b]
 | .int k,n=>[.int k n]
 | .str,s=>[.str s]
 | .sl t,xs=>[.sl t xs]
 | .arr n t,a=>[.arr t n a]
 | .st i,x=>[.stc i x]
def dcl (T:TS S):(t:Ty)->Val S t->List DV
 | .bool,b=>[.bool b]
 | .int k,n=>[.int k n]
 | .str,s=>[.str s]
 | .sl t,xs=>[.sl (xs.map (dcl T t))]
 | .arr n t,a=>(List.range n).flatMap fun j=>dcl T t (a j)
 | .st i,x=>T.dcells i x
def acl (T:TS S) (t:Ty) (n:Nat) (a:Nat->Val S t):List DV:=(List.range n).flatMap fun j=>dcl T t (a j)
def Z8a (T:TS S):(t:Ty)->Val S t->TV S
 | .bool,b=>.bool b
 | .int k,n=>.int k n
 | .str,s=>.str s
 | .sl t,xs=>.sl t xs
 | .arr n t,a=>.agg [.arr t n a]
 | .st i,x=>.agg [.stc i x]
def Yr (T:TS S):(t:Ty)->Val S t->DV
 | .bool,b=>.bool b
 | .int k,n=>.int k n
 | .str,s=>.str s
 | .sl t,xs=>.sl (xs.map (dcl T t))
 | .arr n t,a=>.agg (acl T t n a)
 | .st i,x=>.agg (T.dcells i x)
def enD (pid:Nat):List TypeId->Nat->DV
 | _,0=>.nilif
 | [],_+1=>.nilif
 | t::_,1=>.iface t (.agg [.ptr pid 0])
 | _::ts,m+2=>enD pid ts (m+1)
def eal (ts:List TypeId) (pid n:Nat) (a:Nat->Nat):List DV:=(List.range n).map fun j=>enD pid ts (a j)
mutual
def dv (T:TS S):TV S->DV
 | .bool b=>.bool b
 | .int k n=>.int k n
 | .str s=>.str s
 | .nilp=>.nilp
 | .ptr id off=>.ptr id off
 | .ap id base i esz off=>.ptr id (base+i*esz+off)
 | .rptr id v i esz off=>.rptr id v i esz off
 | .pub cs=>.pub (dvs T cs)
 | .nils=>.nils
 | .sl0=>.sl []
 | .sl t xs=>.sl (xs.map (dcl T t))
 | .rs id v=>.rs id v
 | .rv id v i n e=>.rv id v i n e
 | .slen n=>.slen n
 | .arr _ _ _=>.nilp
 | .stc _ _=>.nilp
 | .earr ts pid n a=>.agg (eal ts pid n a)
 | .narr _ n=>.agg (List.replicate n .nilif)
 | .agg cs=>.agg (dvs T cs)
 | .tup vs=>.tup (dvl T vs)
 | .fn f a c=>.fn f (dvl T a) (dvl T c)
 | .nilfn=>.nilfn
 | .map id=>.map id
 | .nilmap=>.nilmap
 | .iface t v=>.iface t (dv T v)
 | .nilif=>.nilif
 | .iter id=>.iter id
 | .yld id=>.yld id
def dvs (T:TS S):List (TV S)->List DV
 | []=>[]
 | .arr t n a::cs=>acl T t n a++dvs T cs
 | .stc i x::cs=>T.dcells i x++dvs T cs
 | .earr ts pid n a::cs=>eal ts pid n a++dvs T cs
 | .narr _ n::cs=>List.replicate n .nilif++dvs T cs
 | c::cs=>dv T c::dvs T cs
def dvl (T:TS S):List (TV S)->List DV
 | []=>[]
 | c::cs=>dv T c::dvl T cs
end
def Zjp (t:Ty):TV S->Option (List (Val S t))
 | .sl0=>some []
 | .sl t' xs=>if h:t'=t then some (h▸xs)else none
 | _=>none
def Z7U:List (TV S)->Option (Bool×List (TV S))
 | .bool b::r=>some (b,r)
 | _=>none
def Z17 (k:IntKind):List (TV S)->Option (Int×List (TV S))
 | .int k' n::r=>bif k==k' then some (n,r)else none
 | _=>none
def Z8v:List (TV S)->Option (ByteArray×List (TV S))
 | .str s::r=>some (s,r)
 | _=>none
def Zax (t:Ty):List (TV S)->Option (List (Val S t)×List (TV S))
 | c::r=>(Zjp t c).bind fun xs=>some (xs,r)
 | _=>none
def Zji (n:Nat) (t:Ty):List (TV S)->Option ((Nat->Val S t)×List (TV S))
 | .arr t' n' a::r=>if h:t'=t then(bif Nat.beq n' n then some (h▸a,r)else none)else none
 | _=>none
def rdW (i:Nat) (f:List (TV S)->Option (S i×List (TV S))):List (TV S)->Option (S i×List (TV S))
 | .stc i' x::r=>if h:i'=i then some (h▸x,r)else none
 | cs=>f cs
def Z4G (T:TS S) (i:Nat):Nat->List (TV S)->List (TV S)
 | n+1,.stc i' x::r=>bif Nat.beq i' i then .stc i' x::r else Z4G T i n (T.cells i' x++r)
 | _,cs=>cs
def trd (T:TS S):(t:Ty)->List (TV S)->Option (Val S t×List (TV S))
 | .bool=>Z7U
 | .int k=>Z17 k
 | .str=>Z8v
 | .sl t=>Zax t
 | .arr n t=>Zji n t
 | .st i=>fun cs=>rdW i (T.rd i) (Z4G T i 6 cs)
def Z7m (T:TS S) (t:Ty) (cs:List (TV S)):Option (Val S t):=(trd T t cs).bind fun x=>match x.2 with
 | []=>some x.1
 | _=>none
def Y9:TV S->List (TV S)
 | .agg cs=>cs
 | .arr _ _ _=>[.nilp]
 | .stc _ _=>[.nilp]
 | v=>[v]
def Z6T:TV S->Bool
 | .agg _ | .tup _=>false
 | _=>true
def ZV:TV S->Bool
 | .arr _ _ _=>true
 | .stc _ _=>true
 | .earr _ _ _ _=>true
 | .narr _ _=>true
 | _=>false
def Z63 (T:TS S) (t:Ty) (v:TV S):Option (Val S t):=match v with
 | .agg cs=>bif YV t then Z7m T t cs else none
 | v=>bif YV t then none else Z7m T t [v]
def wd (T:TS S):TV S->Nat
 | .arr t n _=>n*tsz T t
 | .stc i _=>T.size i
 | .earr _ _ n _=>n
 | .narr _ n=>n
 | _=>1
def wds (T:TS S):List (TV S)->Nat
 | []=>0
 | c::cs=>wd T c+wds T cs
def ZaL (T:TS S):Nat->List (TV S)->Nat->Option (List (TV S))
 | 0,_,_=>none
 | _+1,[],n=>bif Nat.beq n 0 then some []else none
 | f+1,c::cs,n=>bif Nat.beq n 0 then some (c::cs)else bif Nat.ble (wd T c) n then ZaL T f cs (n-wd T c)else match c with
  | .stc i x=>ZaL T f (T.cells i x++cs) n
  | _=>none
def Z9c (T:TS S) (cs:List (TV S)) (n:Nat):Option (List (TV S)):=ZaL T 400 cs n
def Zbm (T:TS S):Nat->List (TV S)->Nat->Option (List (TV S))
 | 0,_,_=>none
 | _+1,[],n=>bif Nat.beq n 0 then some []else none
 | f+1,c::cs,n=>bif Nat.beq n 0 then some []else bif Nat.ble (wd T c) n then(Zbm T f cs (n-wd T c)).bind fun r=>some (c::r)else match c with
  | .stc i x=>Zbm T f (T.cells i x++cs) n
  | _=>none
def Zib (T:TS S) (cs:List (TV S)) (n:Nat):Option (List (TV S)):=Zbm T 400 cs n
def hdF (T:TS S):Nat->List (TV S)->List (TV S)
 | n+1,.stc i x::r=>hdF T n (T.cells i x++r)
 | _,cs=>cs
def xpF (T:TS S):Nat->List (TV S)->List (TV S)
 | n+1,.stc i x::r=>xpF T n (T.cells i x++r)
 | n+1,c::r=>c::xpF T n r
 | _,cs=>cs
def Z2T (T:TS S) (cs:List (TV S)) (off:Nat) (vs:List (TV S)):Option (List (TV S)) :=
 (Zib T cs off).bind fun a=>(Z9c T cs (off+wds T vs)).bind fun b=>some (a++vs++b)
def Z9N (T:TS S) (ti:TI) (cs:List (TV S)) (off:Nat):Option (TV S) :=
 (Z9c T cs off).bind fun r=>bif ti.isAgg then(Zib T r ti.size).bind fun p=>some (.agg p)else match hdF T 10 r with
  | c::_=>bif ZV c then none else some c
  | []=>none
structure Ye (S:Nat->Type) where
 E:Env
 T:TS S
 code:Nat->Option Ty
 zero:Nat->Option (List (TV S))
def Zb1 (X:Ye S) (t:TypeId) (cs:List (TV S)):List (TV S):=match X.code t with
 | some c=>(match Z7m X.T c cs with
  | some x=>tcl X.T c x
  | none=>cs)
 | none=>cs
def Z9U (nid:Nat):List (TV S)->List (TV S)
 | []=>[]
 | .narr ts n::cs=>.earr ts nid n (fun _=>0)::Z9U nid cs
 | c::cs=>c::Z9U nid cs
structure Zbu (S:Nat->Type) where
 val:Option (TV S)
 upd:List (Nat×Option (Zk S))
def ZeL:Value->Option (TV S)
 | .bool b=>some (.bool b)
 | .int k n=>some (.int k n)
 | .string s=>some (.str s)
 | .pointer none=>some .nilp
 | .slice none 0 0=>some .nils
 | .map none=>some .nilmap
 | .nilFunc=>some .nilfn
 | .nilIface=>some .nilif
 | _=>none
def ZR (ρ:Nat->Option (TV S)):Operand->Option (TV S)
 | .tmp t=>ρ t
 | .const v=>ZeL v
 | .func f=>some (.fn (.func f) [] [])
 | .global _=>none
def Z2D (ρ:Nat->Option (TV S)):List Operand->Option (List (TV S))
 | []=>some []
 | x::xs=>(ZR ρ x).bind fun v=>(Z2D ρ xs).bind fun vs=>some (v::vs)
mutual
def Zp:TV S->Bool
 | .bool _ | .int _ _ | .str _ | .nilp | .nils | .sl0 | .sl _ _ | .nilfn | .nilmap | .nilif=>true
 | .arr _ _ _ | .stc _ _=>true
 | .earr ts i n a=>Zc (eal ts i n a)
 | .narr _ _=>true
 | .agg cs=>Yo cs
 | .tup cs=>Yo cs
 | .fn _ a b=>Yo a&&Yo b
 | .iface _ v=>Zp v
 | _=>false
def Yo:List (TV S)->Bool
 | []=>true
 | c::cs=>Zp c&&Yo cs
end
mutual
def Zas (n:Nat):TV S->Bool
 | .ptr i _ | .ap i _ _ _ _ | .rptr i _ _ _ _ | .rs i _ | .rv i _ _ _ _ | .map i | .iter i | .yld i=>Nat.blt i n
 | .agg cs=>Z5N n cs
 | .tup cs=>Z5N n cs
 | .fn _ a b=>Z5N n a&&Z5N n b
 | .iface _ v=>Zas n v
 | .pub cs=>Z5N n cs
 | .earr _ i _ _=>Nat.blt i n
 | _=>true
def Z5N (n:Nat):List (TV S)->Bool
 | []=>true
 | c::cs=>Zas n c&&Z5N n cs
end
mutual
def YD (h:Nat->Option (Zk S)):TV S->Option (TV S)
 | .rs id v=>(h id).bind fun | .row _ t xs _ u=>bif Nat.beq u v then some (.sl t xs)else none|_=>none
 | .agg cs=>(Z1W h cs).bind fun cs=>some (.agg cs)
 | .tup cs=>(Z1W h cs).bind fun cs=>some (.tup cs)
 | .iface t v=>(YD h v).bind fun v=>some (.iface t v)
 | .nils=>some .sl0
 | d=>bif Zp d then some d else none
def Z1W (h:Nat->Option (Zk S)):List (TV S)->Option (List (TV S))
 | []=>some []
 | c::cs=>(YD h c).bind fun c=>(Z1W h cs).bind fun cs=>some (c::cs)
end
mutual
def ZX:TV S->List Nat
 | .rs id _=>[id]
 | .rv id _ _ _ _=>[id]
 | .agg cs=>Yp cs
 | .tup cs=>Yp cs
 | .iface _ v=>ZX v
 | _=>[]
def Yp:List (TV S)->List Nat
 | []=>[]
 | c::cs=>ZX c++Yp cs
end
def Z61 (h:Nat->Option (Zk S)):List Nat->List (Nat×Option (Zk S))
 | []=>[]
 | i::is=>(match h i with|some (.row e t xs p u)=>bif Nat.beq p 1 then []else [(i,some (.row e t xs 1 u))]|_=>[])++Z61 h is
def ZhA:Zk S->Zk S
 | .row e t xs _ u=>.row e t xs 1 u
 | o=>o
mutual
def Z21:TV S->List Nat
 | .ptr i _ | .ap i _ _ _ _ | .rptr i _ _ _ _ | .rs i _ | .rv i _ _ _ _ | .map i | .iter i | .yld i=>[i]
 | .agg cs=>Z52 cs
 | .tup cs=>Z52 cs
 | .fn _ a b=>Z52 a++Z52 b
 | .iface _ v=>Z21 v
 | .earr ts i n a=>ZC (eal ts i n a)
 | _=>[]
def Z52:List (TV S)->List Nat
 | []=>[]
 | c::cs=>Z21 c++Z52 cs
end
section ops
variable {R:Type}
abbrev Z2k (S:Nat->Type) (R:Type):=Zbu S->Option R
def ZO (v:TV S) (k:Z2k S R):Option R:=k ⟨some v,[]⟩
def Z3J:(t:Ty)->Option (Val S t->Val S t->Bool)
 | .bool=>some fun(a b:Bool)=>a==b
 | .int _=>some fun(a b:Int)=>a==b
 | .str=>some fun(a b:ByteArray)=>a==b
 | _=>none
def Z9B (T:TS S):(t:Ty)->Option (Val S t->Val S t->Bool)
 | .st i=>T.seq i
 | t=>Z3J t
def Z13:List (TV S)->List (TV S)->Option Bool
 | [],[]=>some true
 | .int k a::xs,.int k' b::ys=>bif k==k' then(Z13 xs ys).bind fun r=>some (a==b&&r)else none
 | .bool a::xs,.bool b::ys=>(Z13 xs ys).bind fun r=>some (a==b&&r)
 | .str a::xs,.str b::ys=>(Z13 xs ys).bind fun r=>some (a==b&&r)
 | .arr t n a::xs,.arr t' n' b::ys=>if h:t'=t then(bif Nat.beq n' n then(Z3J t).bind fun e=>(Z13 xs ys).bind fun r=>some (((List.range n).all fun j=>e (a j) ((h▸b:Nat->Val S t) j))&&r)else none)else none
 | _,_=>none
def Z39:List (TV S)->List (TV S)->Bool
 | [],[]=>true
 | .int k _::zs,.int k' _::xs=>k==k'&&Z39 zs xs
 | .bool _::zs,.bool _::xs=>Z39 zs xs
 | .str _::zs,.str _::xs=>Z39 zs xs
 | .arr t n _::zs,.arr t' n' _::xs=>decide (t'=t)&&Nat.beq n' n&&(Z3J (S:=S) t).isSome&&Z39 zs xs
 | _,_=>false
def Zio (X:Ye S) (op:BinOp) (t:TypeId) (x y:TV S) (k:Z2k S R):Option R :=
 match x,y with
 | .int kd a,.int kd' b =>
  match op with
  | .shl=>bif decide (b<0)then none else ZO (.int kd (kd.wrap (a*2 ^ (min b.toNat kd.bits)))) k
  | .shr=>bif decide (b<0)then none else ZO (.int kd (a.fdiv (2 ^ (min b.toNat kd.bits)))) k
  | .quo=>bif kd==kd' then(bif b==0 then none else ZO (.int kd (kd.wrap (a.tdiv b))) k)else none
  | .rem=>bif kd==kd' then(bif b==0 then none else ZO (.int kd (a.tmod b)) k)else none
  | .add=>bif kd==kd' then ZO (.int kd (kd.wrap (a+b))) k else none
  | .sub=>bif kd==kd' then ZO (.int kd (kd.wrap (a-b))) k else none
  | .mul=>bif kd==kd' then ZO (.int kd (kd.wrap (a*b))) k else none
  | .and=>bif kd==kd' then ZO (.int kd (kd.wrap (BitVec.ofInt kd.bits a &&& BitVec.ofInt kd.bits b).toNat)) k else none
  | .or=>bif kd==kd' then ZO (.int kd (kd.wrap (BitVec.ofInt kd.bits a ||| BitVec.ofInt kd.bits b).toNat)) k else none
  | .xor=>bif kd==kd' then ZO (.int kd (kd.wrap (BitVec.ofInt kd.bits a ^^^ BitVec.ofInt kd.bits b).toNat)) k else none
  | .eql=>bif kd==kd' then ZO (.bool (a==b)) k else none
  | .neq=>bif kd==kd' then ZO (.bool (a != b)) k else none
  | .lss=>bif kd==kd' then ZO (.bool (decide (a<b))) k else none
  | .leq=>bif kd==kd' then ZO (.bool (decide (a<=b))) k else none
  | .gtr=>bif kd==kd' then ZO (.bool (decide (a>b))) k else none
  | .geq=>bif kd==kd' then ZO (.bool (decide (a>=b))) k else none
  | _=>none
 | .str a,.str b =>
  match op with
  | .add=>bif Nat.ble (a.size+b.size) 1099511627776 then ZO (.str (a++b)) k else none
  | .eql=>ZO (.bool (a.toList==b.toList)) k
  | .neq=>ZO (.bool (!(a.toList==b.toList))) k
  | .lss=>ZO (.bool (Op.bytesLess a.toList b.toList)) k
  | .leq=>ZO (.bool (Op.bytesLess a.toList b.toList||(a.toList==b.toList))) k
  | .gtr=>ZO (.bool (!(Op.bytesLess a.toList b.toList||(a.toList==b.toList)))) k
  | .geq=>ZO (.bool (!(Op.bytesLess a.toList b.toList))) k
  | _=>none
 | .bool a,.bool b=>(X.E.ty t).bind fun ti=>match ti.k,op with
  | .bool,.eql=>ZO (.bool (a==b)) k
  | .bool,.neq=>ZO (.bool (!(a==b))) k
  | _,_=>none
 | .agg a,.agg b=>(X.E.ty t).bind fun ti=>(X.zero t).bind fun z=>let z:=xpF X.T 200 z;let a:=xpF X.T 200 a;let b:=xpF X.T 200 b;bif ti.eqOk&&Z39 z a&&Z39 z b then(match op with
  | .eql=>(Z13 a b).bind fun r=>ZO (.bool r) k
  | .neq=>(Z13 a b).bind fun r=>ZO (.bool (!r)) k
  | _=>none)else none
 | .sl _ xs,.nils=>(X.E.ty t).bind fun ti=>match ti.k,op with
  | .slice _,.eql=>bif xs.isEmpty then none else ZO (.bool false) k
  | .slice _,.neq=>bif xs.isEmpty then none else ZO (.bool true) k
  | _,_=>none
 | _,_=>none
def unK (op:UnOp) (x:TV S) (k:Z2k S R):Option R:=match x with
 | .int kd n=>match op with | .neg=>ZO (.int kd (kd.wrap (0-n))) k|_=>none
 | .bool b=>match op with | .not=>ZO (.bool (!b)) k|_=>none
 | _=>none
def Zda (n:Nat) (x:TV S) (k:Nat->Option R):Option R:=match x with
 | .int _ i=>bif decide (0<=i)&&decide (i<n)then k i.toNat else none
 | _=>none
def Zjh (c:Bool) (a b:Option (TV S)) (k:Z2k S R):Option R:=match a,b with
 | some (.bool x),some (.bool y)=>ZO (.bool (bif c then x else y)) k
 | a,b=>bif c then a.bind fun v=>ZO v k else b.bind fun v=>ZO v k
def Z9e (t:Ty) (h:Nat->Option (Zk S)):TV S->Option (List (Val S t))
 | .nils=>some []
 | .sl0=>some []
 | .sl t' xs=>if e:t'=t then some (e▸xs)else none
 | .rs id v=>(h id).bind fun | .row _ t' xs _ u=>bif Nat.beq u v then(if e:t'=t then some (e▸xs)else none)else none|_=>none
 | _=>none
def Z8O (X:Ye S) (fs:List (Nat×Nat)):List (Nat×TV S)->List (TV S)->Option (List (TV S))
 | [],cs=>some cs
 | (i,v)::ps,cs=>(fs[i]?).bind fun f=>(X.E.ty f.1).bind fun ti =>
   bif Nat.beq (wds X.T (Y9 v)) ti.size then(Z2T X.T cs f.2 (Y9 v)).bind fun cs=>Z8O X fs ps cs else none
def Z8N (X:Ye S) (t:Ty) (n:Nat):List (Nat×TV S)->(Nat->Val S t)->Option (Nat->Val S t)
 | [],a=>some a
 | (i,v)::ps,a=>(Z63 X.T t v).bind fun x=>bif Nat.blt i n then Z8N X t n ps (fun j=>bif Nat.beq j i then x else a j)else none
def Z9P (ρ:Nat->Option (TV S)):List (Nat×Operand)->Option (List (Nat×TV S))
 | []=>some []
 | (i,x)::ps=>(ZR ρ x).bind fun v=>(Z9P ρ ps).bind fun vs=>some ((i,v)::vs)
def Zg0 (X:Ye S) (h:Nat->Option (Zk S)) (t:Ty):Nat->List (Nat×TV S)->Option (List (Val S t))
 | _,[]=>some []
 | k,(i,v)::ps=>bif Nat.beq i k&&Nat.beq (wds X.T (Y9 v)) (tsz X.T t)then(Z1W h (Y9 v)).bind fun c=>(Z7m X.T t c).bind fun x=>(Zg0 X h t (k+1) ps).bind fun r=>some (x::r)else none
def Zh4 (T:TS S):TV S->Nat->Option (TV S)
 | .ptr id off,n=>some (.ptr id (off+n))
 | .ap id b i e off,n=>some (.ap id b i e (off+n))
 | .rptr id v i e off,n=>some (.rptr id v i e (off+n))
 | .pub cs,n=>(Z9c T cs n).bind fun r=>some (.pub r)
 | _,_=>none
def Z8h (T:TS S) (cs:List (TV S)) (base:Nat):Option ((t:Ty)×Nat×(Nat->Val S t)):=(Z9c T cs base).bind fun r=>match hdF T 10 r with
 | .arr t n a::_=>some ⟨t,n,a⟩
 | _=>none
def ZbD (T:TS S) (cs:List (TV S)) (base:Nat):Option (List TypeId×Nat×Nat×(Nat->Nat)):=(Z9c T cs base).bind fun r=>match hdF T 10 r with
 | .earr ts pid n a::_=>some (ts,pid,n,a)
 | _=>none
def ZiA (pid m:Nat):List TypeId->Nat->Z2k S R->Option R
 | [],_,_=>none
 | t::ts,j,k=>bif Nat.beq m j then ZO (.iface t (.agg [.ptr pid 0])) k else ZiA pid m ts (j+1) k
def enK (ts:List TypeId) (pid m:Nat) (k:Z2k S R):Option R:=bif Nat.beq m 0 then ZO .nilif k else ZiA pid m ts 1 k
def ZiI (t:TypeId):List TypeId->Nat->Option Nat
 | [],_=>none
 | u::ts,j=>bif Nat.beq u t then some j else ZiI t ts (j+1)
def Zjq (ts:List TypeId) (pid:Nat):TV S->Option Nat
 | .nilif=>some 0
 | .iface t (.agg [.ptr p 0])=>bif Nat.beq p pid then ZiI t ts 1 else none
 | _=>none
def ZfJ (X:Ye S) (ti:TI) (h:Nat->Option (Zk S)) (a:TV S) (k:Z2k S R):Option R:=match a with
 | .ptr id off=>(h id).bind fun | .cells _ cs=>(Z9N X.T ti cs off).bind fun v=>ZO v k|_=>none
 | .ap id base i e off=>(h id).bind fun
  | .cells _ cs=>(match ZbD X.T cs base with
   | some (ts,pid,n,a)=>bif Nat.beq e 1&&Nat.beq off 0 && !ti.isAgg then(bif Nat.blt i n then enK ts pid (a i) k else none)else none
   | none=>(Z8h X.T cs base).bind fun A=>bif Nat.beq e (tsz X.T A.1)then(bif Nat.blt i A.2.1 then(Z9N X.T ti (tcl X.T A.1 (A.2.2 i)) off).bind fun v=>ZO v k else none)else none)
  | _=>none
 | .rptr id v i e off=>(h id).bind fun
  | .row _ t xs _ u=>bif Nat.beq u v&&Nat.beq (tsz X.T t) e then(bif Nat.blt i xs.length then(Z9N X.T ti (tcl X.T t (xs.getD i (tdf X.T t))) off).bind fun v=>ZO v k else none)else none
  | _=>none
 | .pub cs=>(Z9N X.T ti cs 0).bind fun v=>ZO v k
 | _=>none
def Zfb (X:Ye S) (ti:TI) (h:Nat->Option (Zk S)) (a v:TV S) (k:Z2k S R):Option R :=
  bif Nat.beq (wds X.T (Y9 v)) ti.size&&(Y9 v).all Z6T then
    match a with
    | .ptr id off=>(h id).bind fun
      | .cells t cs=>(Z2T X.T cs off (Y9 v)).bind fun cs=>k ⟨some (.tup []),[(id,some (.cells t (Zb1 X t cs)))]⟩
      | _=>none
    | .ap id base i e off=>(h id).bind fun
      | .cells t cs=>(match ZbD X.T cs base with
       | some (ts,pid,n,a)=>bif Nat.beq e 1&&Nat.beq off 0 then(bif Nat.blt i n then(Zjq ts pid v).bind fun m =>
          (Z2T X.T cs base [.earr ts pid n (fun j=>bif Nat.beq j i then m else a j)]).bind fun cs=>k ⟨some (.tup []),[(id,some (.cells t cs))]⟩else none)else none
       | none=>(Z8h X.T cs base).bind fun A=>bif Nat.beq e (tsz X.T A.1)then(bif Nat.blt i A.2.1 then
          (Z2T X.T (tcl X.T A.1 (A.2.2 i)) off (Y9 v)).bind fun c=>(Z7m X.T A.1 c).bind fun x =>
          (Z2T X.T cs base [.arr A.1 A.2.1 (fun j=>bif Nat.beq j i then x else A.2.2 j)]).bind fun cs=>k ⟨some (.tup []),[(id,some (.cells t (Zb1 X t cs)))]⟩else none)else none)
      | _=>none
    | .rptr id ver i e off=>(h id).bind fun
      | .row et t xs p u=>bif Nat.beq u ver&&Nat.beq (tsz X.T t) e&&Nat.beq p 0&&Yo (Y9 v)then(bif Nat.blt i xs.length then
          (Z2T X.T (tcl X.T t (xs.getD i (tdf X.T t))) off (Y9 v)).bind fun c=>(Z7m X.T t c).bind fun x =>
            k ⟨some (.tup []),[(id,some (.row et t (xs.set i x) p u))]⟩else none)else none
      | _=>none
    | _=>none
  else none
def ZhH:TV S->TV S->Option (TV S)
 | .int k x,.int _ y=>some (.int k (bif decide (y<x)then y else x))
 | _,_=>none
def ZhF:TV S->TV S->Option (TV S)
 | .int k x,.int _ y=>some (.int k (bif decide (y>x)then y else x))
 | _,_=>none
def ZcY (f:TV S->TV S->Option (TV S)):TV S->List (TV S)->Option (TV S)
 | x,[]=>some x
 | x,y::ys=>(f x y).bind fun z=>ZcY f z ys
def Zju (k:TK) (h:Nat->Option (Zk S)) (d:TV S):Option (TV S) :=
 match k,d with
 | .string,.str s=>some (.int .i64 (s.size:Nat))
 | .map _ _,.nilmap=>some (.int .i64 0)
 | .map _ _,.map id=>(h id).bind fun | .map _ _ m=>some (.int .i64 (m.length:Nat))|_=>none
 | .slice _,.nils=>some (.int .i64 0)
 | .slice _,.sl0=>some (.int .i64 0)
 | .slice _,.slen n=>some (.int .i64 (n:Nat))
 | .slice _,.sl _ xs=>some (.int .i64 (xs.length:Nat))
 | .slice _,.rs id v=>(h id).bind fun | .row _ _ xs _ u=>bif Nat.beq u v then some (.int .i64 (xs.length:Nat))else none|_=>none
 | .array n _,_=>some (.int .i64 (n:Nat))
 | _,_=>none
def Zbv (X:Ye S) (nid:Nat) (h:Nat->Option (Zk S)) (t:TypeId) (s x:TV S) (k:Z2k S R):Option R :=
 (X.E.ty t).bind fun ti=>match ti.k with
 | .slice e=>(X.E.ty e).bind fun ei=>(X.code e).bind fun te=>(Z9e te h x).bind fun xs=>bif Nat.blt 0 ei.size&&Nat.ble ei.bytes 100000000000 then(match s with
  | .nils=>(match xs with
   | []=>ZO .nils k
   | y::ys=>bif Nat.ble ((y::ys).length*(ei.bytes+1)) 200000000000000 then k ⟨some (.rs nid 0),[(nid,some (.row e te (y::ys) 0 0))]⟩else none)
  | .rs id v=>(h id).bind fun
   | .row e' te' es p u=>bif Nat.beq u v&&Nat.beq e' e then(if q:te'=te then(bif Nat.ble ((es.length+xs.length)*(ei.bytes+1)) 200000000000000 then
     k ⟨some (.rs id (v+1)),[(id,some (.row e te ((q▸es:List (Val S te))++xs) p (v+1)))]⟩else none)else none)else none
   | _=>none
  | _=>none)else none
 | _=>none
def Z9I {α β:Type} (e:α->α->Bool) (k:α):List (α×β)->Option β
 | []=>none
 | (k',v)::m=>bif e k k' then some v else Z9I e k m
def ZiV {α β:Type} (e:α->α->Bool) (k:α) (v:β):List (α×β)->List (α×β)
 | []=>[(k,v)]
 | (k',v')::m=>bif e k k' then(k,v)::m else(k',v')::ZiV e k v m
def Z3C (d:Option (TV S)) (dflt y:Nat) (k:Nat->Option R):Option R:=match d with
 | none=>k dflt
 | some (.int _ i)=>bif decide (0<=i)&&decide (i<=y)then k i.toNat else none
 | _=>none
def zeroT (X:Ye S) (t:TypeId) (ti:TI):Option (TV S):=(X.zero t).bind fun z=>bif ti.isAgg then some (.agg z)else match z with
 | [c]=>bif ZV c then none else some c
 | _=>none
def ZiY (ρ:Nat->Option (TV S)):Option Operand->Option (Option (TV S))
 | none=>some none
 | some x=>(ZR ρ x).bind fun v=>some (some v)
def Z6V (T:TS S) (ki:TI) (z:Option (List (TV S))):(t:Ty)->Val S t->Bool:=fun t x=>match ki.k,t,x with
 | .int _,.int _,_ | .string,.str,_ | .bool,.bool,_=>true
 | .struct _,.st i,x=>ki.eqOk&&ki.keyOk&&(match z with|some z=>Z39 (xpF T 200 z) (xpF T 200 [.stc i x])|none=>false)
 | _,_,_=>false
def Z6Q (h:Nat->Option (Zk S)):TV S->Bool
 | .rs id _=>(match h id with|some (.row _ _ _ p _)=>Nat.beq p 0|_=>false)
 | _=>false
def Zjk (e:Nat) (d:TV S) (l hh:Nat) (k:Z2k S R):Option R:=match d with
 | .rs id v=>ZO (.rv id v l (hh-l) e) k
 | _=>none
def ZfE:TV S->Bool
 | .rv _ _ _ _ _=>true
 | _=>false
mutual
def Zga:TV S->Option (TV S)
 | .bool b=>some (.bool b)
 | .int k n=>some (.int k n)
 | .str s=>some (.str s)
 | .sl0=>some (.slen 0)
 | .sl _ xs=>some (.slen xs.length)
 | .tup vs=>(Zcy vs).bind fun vs=>some (.tup vs)
 | _=>none
def Zcy:List (TV S)->Option (List (TV S))
 | []=>some []
 | d::ds=>(Zga d).bind fun d=>(Zcy ds).bind fun ds=>some (d::ds)
end
def opK (X:Ye S) (nid:Nat) (ρ:Nat->Option (TV S)) (h:Nat->Option (Zk S)) (op:Op) (k:Z2k S R):Option R :=
  match op with
  | .move x=>(ZR ρ x).bind fun v=>ZO v k
  | .assign x=>(ZR ρ x).bind fun v=>ZO v k
  | .pick c a b=>(ZR ρ c).bind fun
    | .bool c=>Zjh c (ZR ρ a) (ZR ρ b) k
    | _=>none
  | .alloc t=>(X.E.ty t).bind fun _=>(X.zero t).bind fun z=>k ⟨some (.ptr nid 0),[(nid,some (.cells t (Zb1 X t (Z9U nid z))))]⟩
  | .box t x=>(ZR ρ x).bind fun v=>bif(Y9 v).all Z6T then k ⟨some (.ptr nid 0),[(nid,some (.cells t (Zb1 X t (Z9U nid (Y9 v)))))]⟩else none
  | .build t ps=>(X.E.ty t).bind fun ti=>(Z9P ρ ps.toList).bind fun vs=>(X.zero t).bind fun z=>match ti.k with
    | .struct fs=>(Z8O X fs vs z).bind fun cs=>ZO (.agg cs) k
    | .array _ e=>(X.E.ty e).bind fun _=>(X.code e).bind fun te=>(match z with
      | [.arr te' n a]=>if q:te'=te then(Z8N X te n vs (q▸a)).bind fun a=>ZO (.agg [.arr te n a]) k else none
      | _=>none)
    | _=>none
  | .buildSlice t n ps=>(X.E.ty t).bind fun ti=>match ti.k with
    | .slice e=>(X.E.ty e).bind fun ei=>(X.code e).bind fun te=>(Z9P ρ ps.toList).bind fun vs=>(Zg0 X h te 0 vs).bind fun es =>
        bif Nat.beq es.length n&&Nat.ble (n*ei.size) 1048576&&Nat.blt 0 ei.size then k ⟨some (.rs nid 0),(nid,some (.row e te es 0 0))::Z61 h (Yp (vs.map (·.2)))⟩else none
    | _=>none
  | .load t a=>(X.E.ty t).bind fun ti=>(ZR ρ a).bind fun a=>ZfJ X ti h a k
  | .store t a x=>(X.E.ty t).bind fun ti=>(ZR ρ a).bind fun a=>(ZR ρ x).bind fun v=>Zfb X ti h a v k
  | .nilCheck x=>(ZR ρ x).bind fun
    | .ptr i o=>ZO (.ptr i o) k
    | .ap i b j e o=>ZO (.ap i b j e o) k
    | .rptr i v j e o=>ZO (.rptr i v j e o) k
    | .pub cs=>ZO (.pub cs) k
    | _=>none
  | .binOp op t x y _=>(ZR ρ x).bind fun x=>(ZR ρ y).bind fun y=>Zio X op t x y k
  | .unOp op _ x=>(ZR ρ x).bind fun x=>unK op x k
  | .convert s d x=>(X.E.ty s).bind fun _=>(X.E.ty d).bind fun ti=>(ZR ρ x).bind fun x=>match ti.k,x with
    | .int kd,.int _ n=>ZO (.int kd (kd.wrap n)) k
    | .string,.str s=>ZO (.str s) k
    | _,_=>none
  | .makeFunc f a c=>(Z2D ρ a.toList).bind fun a=>(Z2D ρ c.toList).bind fun c=>ZO (.fn f a c) k
  | .makeMap t none=>(X.E.ty t).bind fun ti=>match ti.k with
    | .map kt e=>(X.code kt).bind fun kt=>(X.code e).bind fun et=>k ⟨some (.map nid),[(nid,some (.map kt et []))]⟩
    | _=>none
  | .slice t x lo hi none=>(X.E.ty t).bind fun ti=>(ZR ρ x).bind fun x=>(ZiY ρ lo).bind fun lo=>(ZiY ρ hi).bind fun hi=>match ti.k,x with
    | .string,.str s=>Z3C hi s.size s.size fun h=>Z3C lo 0 h fun l=>ZO (.str (s.extract l h)) k
    | .array n e,.ptr id off=>(X.E.ty e).bind fun ei=>(h id).bind fun
      | .cells _ cs=>(Z8h X.T cs off).bind fun A=>bif Nat.beq A.2.1 n&&Nat.beq (tsz X.T A.1) ei.size&&Nat.blt 0 ei.size then
          Z3C hi n n fun hh=>Z3C lo 0 hh fun l=>k ⟨some (.sl A.1 ((((List.range n).map A.2.2).take hh).drop l)),[(id,none)]⟩else none
      | _=>none
    | .array n e,.pub cs=>(X.E.ty e).bind fun ei=>(Z8h X.T cs 0).bind fun A=>bif Nat.beq A.2.1 n&&Nat.beq (tsz X.T A.1) ei.size&&cs.all Z6T then
          Z3C hi n n fun hh=>Z3C lo 0 hh fun l=>ZO (.sl A.1 ((((List.range n).map A.2.2).take hh).drop l)) k else none
    | .slice e,d=>(X.E.ty e).bind fun ei=>(X.code e).bind fun te=>(Z9e te h d).bind fun es=>bif Nat.blt 0 ei.size then
        Z3C hi es.length es.length fun hh=>Z3C lo 0 hh fun l=>bif ti.view&&Z6Q h d then Zjk ei.size d l hh k else k ⟨some (.sl te ((es.take hh).drop l)),Z61 h (ZX d)⟩else none
    | _,_=>none
  | .fieldAddr s x f=>(X.E.ty s).bind fun ti=>(ZR ρ x).bind fun x=>match ti.k with
    | .struct fs=>(fs[f]?).bind fun f=>(X.E.ty f.1).bind fun fi=>bif Nat.blt 0 fi.size then(Zh4 X.T x f.2).bind fun v=>ZO v k else none
    | _=>none
  | .field s x f=>(X.E.ty s).bind fun ti=>(ZR ρ x).bind fun x=>match ti.k,x with
    | .struct fs,.agg cs=>(fs[f]?).bind fun f=>(X.E.ty f.1).bind fun fi=>(Z9N X.T fi cs f.2).bind fun v=>ZO v k
    | _,_=>none
  | .indexAddr t x i=>(X.E.ty t).bind fun ti=>(ZR ρ x).bind fun x=>(ZR ρ i).bind fun i=>match ti.k with
    | .array len e=>(X.E.ty e).bind fun ei=>(match x with
      | .ptr id o=>Zda len i fun i=>bif Nat.blt 0 len then ZO (.ap id o i ei.size 0) k else none
      | .pub cs=>(match hdF X.T 10 cs with
       | .arr t n a::cs=>bif Nat.beq n len&&Nat.beq (tsz X.T t) ei.size then Zda len i fun i=>ZO (.pub (tcl X.T t (a i)++.arr t (n-(i+1)) (fun m=>a (i+1+m))::cs)) k else none
       | _=>none)
      | _=>none)
    | .slice e=>(X.E.ty e).bind fun ei=>(match x with
      | .sl te xs=>bif Nat.beq (tsz X.T te) ei.size&&Nat.blt 0 ei.size then Zda xs.length i fun i=>ZO (.pub (tcl X.T te (xs.getD i (tdf X.T te)))) k else none
      | .rs id v=>(h id).bind fun
        | .row _ _ xs _ u=>bif Nat.beq u v&&Nat.blt 0 ei.size then Zda xs.length i fun i=>ZO (.rptr id v i ei.size 0) k else none
        | _=>none
      | _=>none)
    | _=>none
  | .index t x i=>(X.E.ty t).bind fun ti=>(ZR ρ x).bind fun x=>(ZR ρ i).bind fun i=>match ti.k,x with
    | .array len e,.agg [.arr te n a]=>(X.E.ty e).bind fun ei=>bif Nat.beq n len&&Nat.beq (tsz X.T te) ei.size&&(ei.isAgg==YV te)then Zda len i fun i=>ZO (Z8a X.T te (a i)) k else none
    | .string,.str s=>Zda s.size i fun i=>ZO (.int .u8 (s.toList.getD i 0).toNat) k
    | _,_=>none
  | .lookup t m kx ok=>(X.E.ty t).bind fun ti=>(ZR ρ m).bind fun m=>(ZR ρ kx).bind fun kv=>match ti.k,m with
    | .map kt e,.map id=>(X.E.ty e).bind fun ei=>(X.E.ty kt).bind fun ki=>(X.zero e).bind fun z=>(h id).bind fun
      | .map kc ec es=>(Z63 X.T kc kv).bind fun key=>bif Z6V X.T ki (X.zero kt) kc key&&Nat.beq ei.size 1 && !ei.isAgg && !YV ec then(Z7m X.T ec z).bind fun zv=>(Z9B X.T kc).bind fun eq =>
          ZO (bif ok then .tup [Z8a X.T ec ((Z9I eq key es).getD zv),.bool (Z9I eq key es).isSome]else Z8a X.T ec ((Z9I eq key es).getD zv)) k else none
      | _=>none
    | _,_=>none
  | .mapUpdate t m kx v=>(X.E.ty t).bind fun ti=>(ZR ρ m).bind fun m=>(ZR ρ kx).bind fun kv=>(ZR ρ v).bind fun v=>match ti.k,m with
    | .map kt _,.map id=>(X.E.ty kt).bind fun ki=>(h id).bind fun
      | .map kc ec es=>(Z63 X.T kc kv).bind fun key=>bif Z6V X.T ki (X.zero kt) kc key && !YV ec then(Z3J (S:=S) ec).bind fun _=>(Z63 X.T ec v).bind fun x=>(Z9B X.T kc).bind fun eq =>
          k ⟨some (.tup []),[(id,some (.map kc ec (ZiV eq key x es)))]⟩else none
      | _=>none
    | _,_=>none
  | .makeInterface t x=>(X.E.ty t).bind fun ti=>(ZR ρ x).bind fun v=>bif ZV v then none else match ti.k with
    | .iface=>none
    | _=>ZO (.iface t v) k
  | .typeAssert x _ t ok=>(X.E.ty t).bind fun ti=>(ZR ρ x).bind fun x=>match ti.k,x with
    | .iface,_=>none
    | _,.nilif=>bif ok then(zeroT X t ti).bind fun z=>ZO (.tup [z,.bool false]) k else none
    | _,.iface t' v=>bif Nat.beq t' t then ZO (bif ok then .tup [v,.bool true]else v) k else bif ok then(zeroT X t ti).bind fun z=>ZO (.tup [z,.bool false]) k else none
    | _,_=>none
  | .makeSlice t l c=>(X.E.ty t).bind fun ti=>(ZR ρ l).bind fun l=>(ZR ρ c).bind fun c=>match ti.k,l,c with
    | .slice e,.int _ n,.int _ n'=>(X.E.ty e).bind fun ei=>(X.code e).bind fun te=>(X.zero e).bind fun z=>(Z7m X.T te z).bind fun zv=>bif n==n'&&decide (0<=n)&&Nat.ble (n.toNat*(ei.bytes+1)) 200000000000000&&Nat.blt 0 ei.size then
        k ⟨some (.rs nid 0),[(nid,some (.row e te (List.replicate n.toNat zv) 0 0))]⟩else none
    | _,_,_=>none
  | .range t x=>(X.E.ty t).bind fun ti=>(ZR ρ x).bind fun x=>match ti.k,x with
    | .string,.str s=>k ⟨some (.iter nid),[(nid,some (.siter s 0))]⟩
    | .map _ _,.map id=>(h id).bind fun
      | .map _ _ m=>k ⟨some (.iter nid),[(nid,some (.mit id m.length))]⟩
      | _=>none
    | _,_=>none
  | .next it true=>(ZR ρ it).bind fun
    | .iter id=>(h id).bind fun
      | .siter s pos=>bif decide (pos<s.size)then
          k ⟨some (.tup [.bool true,.int .i64 (pos:Nat),.int .i32 (Utf8.decode s pos).1]),[(id,some (.siter s (pos+(Utf8.decode s pos).2)))]⟩
        else ZO (.tup [.bool false]) k
      | _=>none
    | _=>none
  | .extract t i=>(ZR ρ t).bind fun
    | .tup vs=>(vs[i]?).bind fun v=>ZO v k
    | _=>none
  | .call c=>match c.callee with
    | .builtin .len=>(match c.args.toList,c.argTypes.toList with
      | [x],t::_=>(X.E.ty t).bind fun ti=>(ZR ρ x).bind fun x=>(Zju ti.k h x).bind fun v=>ZO v k
      | _,_=>none)
    | .builtin .append=>(match c.args.toList,c.argTypes.toList with
      | [s,x],[t,t']=>bif Nat.beq t t' then(ZR ρ s).bind fun s=>(ZR ρ x).bind fun x=>Zbv X nid h t s x k else none
      | _,_=>none)
    | .builtin .min=>(Z2D ρ c.args.toList).bind fun vs=>(match vs with|x::xs=>(ZcY ZhH x xs).bind fun v=>ZO v k|[]=>none)
    | .builtin .max=>(Z2D ρ c.args.toList).bind fun vs=>(match vs with|x::xs=>(ZcY ZhF x xs).bind fun v=>ZO v k|[]=>none)
    | _=>none
  | _=>none
def Zcw (E:Env) (ρ:Nat->Option (TV S)) (c:Call):Option (TV S×List (TV S)) :=
 match c.callee with
 | .value f=>(ZR ρ f).bind fun
  | .fn (.func g) first caps=>(Z2D ρ c.args.toList).bind fun as=>some (.fn (.func g) [] [],first++as++caps)
  | .yld id=>(Z2D ρ c.args.toList).bind fun as=>some (.yld id,as)
  | _=>none
 | .invoke r m=>(ZR ρ r).bind fun
  | .iface t v=>(E.ty t).bind fun ti=>(Z7K m ti.meths).bind fun g=>(Z2D ρ c.args.toList).bind fun as=>some (.fn (.func g) [] [],v::as)
  | _=>none
 | _=>none
def ZfQ (E:Env):TV S×List (TV S)->Bool
 | (.fn (.func g) _ _,_)=>match E.fn g with
  | some F=>F.pur
  | none=>false
 | _=>false
structure Z3L (S:Nat->Type) (R:Type) where
 fn:Nat->List (TV S)->(TV S->Option R)->Option R
 /-- calls on the heap whose numbers begin just above those that they can see -/
 pr:Nat->List (TV S)->Tr (Zk S)->Nat->(TV S->Tr (Zk S)->Nat->Option R)->Option R
def Zd5 (E:Env) (h:Nat->Option (Zk S)):TV S->Option (TV S)
 | .rv id v i n e=>(h id).bind fun
  | .row t te xs _ u=>bif Nat.beq u v&&Nat.beq (match E.ty t with|some ti=>ti.size|none=>0) e then some (.sl te ((xs.drop i).take n))else none
  | _=>none
 | d=>YD h d
def Z7z (E:Env) (h:Nat->Option (Zk S)):List (TV S)->Option (List (TV S))
 | []=>some []
 | d::ds=>(Zd5 E h d).bind fun c=>(Z7z E h ds).bind fun cs=>some (c::cs)
def Zjc (E:Env) (cs:Z3L S R) (h:Nat->Option (Zk S)) (tgt:TV S×List (TV S)) (k:Z2k S R):Option R:=match tgt with
 | (.fn (.func g) _ _,as)=>(Z7z E h as).bind fun fs=>cs.fn g fs fun r=>bif as.any ZfE then(Zga r).bind fun r=>ZO r k else k ⟨some r,Z61 h (Yp as)⟩
 | _=>none
def Zbj (X:Ye S) (cs:Z3L S R) (nid:Nat) (ρ:Nat->Option (TV S)) (h:Nat->Option (Zk S)) (op:Op) (k:Z2k S R) (ki:TV S×List (TV S)->Option R):Option R :=
 match Z38 op with
 | none=>opK X nid ρ h op k
 | some c=>(Zcw X.E ρ c).bind fun tgt=>bif ZfQ X.E tgt then Zjc X.E cs h tgt k else ki tgt
structure StT (S:Nat->Type) where
 base:Tr (TV S)
 objs:Tr (Zk S)
 next:Nat
structure Z2m (S:Nat->Type) where
 base:Tr (TV S)
 loc:List (Nat×Option (TV S))
 objs:Tr (Zk S)
 next:Nat
def Z9n (l:List (Nat×Option (TV S))) (t:Nat):Option (Option (TV S)):=match l with
 | []=>none
 | (s,v)::l=>bif Nat.beq s t then some v else Z9n l t
def Z1r (V:Nat) (base:Tr (TV S)) (loc:List (Nat×Option (TV S))) (t:Nat):Option (TV S) :=
 bif Nat.testBit V t then base.get t else(match Z9n loc t with|some v=>v|none=>none)
def Z4N (o:Tr (Zk S)):List (Nat×Option (Zk S))->Tr (Zk S)
 | []=>o
 | (i,x)::us=>Z4N (o.set i x) us
def Z2m.put (V nt:Nat) (m:Z2m S) (dst:Option Tmp) (v:Option (TV S)):Z2m S :=
 match dst with
 | none=>m
 | some d=>bif !Nat.blt d nt then m else bif Nat.testBit V d then { m with base:=m.base.set d v }else { m with loc:=(d,v)::m.loc }
def knF (kn:List (Nat×Bool)) (t:Nat):Option Bool:=match kn with
 | []=>none
 | (s,b)::l=>bif Nat.beq s t then some b else knF l t
def Z55 (kn:List (Nat×Bool)) (dst:Option Tmp):List (Nat×Bool):=match dst with
 | none=>kn
 | some d=>kn.filter fun p => !Nat.beq p.1 d
def ovK (kn:List (Nat×Bool)) (t:Nat) (v:Option (TV S)):Option (TV S):=match kn with
 | []=>v
 | _=>match v with
  | some (.bool b)=>(match knF kn t with|some b0=>some (.bool b0)|none=>some (.bool b))
  | v=>v
def Zg9 (ops:Array Oper) (ρ:Nat->Option (TV S)) (o:Oper) (kn:List (Nat×Bool)) (f:Bool->List (Nat×Bool)->Option R):Option R :=
 match o.guard with
 | none=>f true kn
 | some (j,want)=>match(ops[j]?).bind (·.dst)with
  | some t=>(match ρ t with
   | some (.bool b)=>bif b then f (true==want) ((t,true)::kn)else f (false==want) ((t,false)::kn)
   | some _=>f false kn
   | none=>none)
  | none=>none
abbrev Z2z (S:Nat->Type) (R:Type):=List Nat->Nat->List (TV S)->Tr (Zk S)->Nat->(TV S->Tr (Zk S)->Nat->Option R)->Option R
section strict
variable {α β:Type}
def sN (n:Nat) (k:Nat->α):α:=match n with
 | 0=>k 0
 | m+1=>k (m+1)
mutual
def sV:TV S->(TV S->α)->α
 | .ptr i o,k=>sN i fun i=>sN o fun o=>k (.ptr i o)
 | .ap i b j e o,k=>sN i fun i=>sN b fun b=>sN e fun e=>sN o fun o=>k (.ap i b j e o)
 | .rptr i v j e o,k=>sN i fun i=>sN v fun v=>sN e fun e=>sN o fun o=>k (.rptr i v j e o)
 | .pub cs,k=>sVs cs fun cs=>k (.pub cs)
 | .rs i v,k=>sN i fun i=>sN v fun v=>k (.rs i v)
 | .rv i v j n e,k=>sN i fun i=>sN v fun v=>k (.rv i v j n e)
 | .slen n,k=>k (.slen n)
 | .agg cs,k=>sVs cs fun cs=>k (.agg cs)
 | .tup cs,k=>sVs cs fun cs=>k (.tup cs)
 | .fn f a c,k=>sVs a fun a=>sVs c fun c=>k (.fn f a c)
 | .map i,k=>sN i fun i=>k (.map i)
 | .iface t v,k=>sV v fun v=>k (.iface t v)
 | .iter i,k=>sN i fun i=>k (.iter i)
 | .yld i,k=>sN i fun i=>k (.yld i)
 | .bool b,k=>k (.bool b)
 | .int d n,k=>k (.int d n)
 | .str b,k=>k (.str b)
 | .nilp,k=>k .nilp
 | .nils,k=>k .nils
 | .sl0,k=>k .sl0
 | .sl t xs,k=>k (.sl t xs)
 | .arr t n a,k=>k (.arr t n a)
 | .stc i x,k=>k (.stc i x)
 | .earr ts p n a,k=>sN p fun p=>k (.earr ts p n a)
 | .narr ts n,k=>k (.narr ts n)
 | .nilfn,k=>k .nilfn
 | .nilmap,k=>k .nilmap
 | .nilif,k=>k .nilif
def sVs:List (TV S)->(List (TV S)->α)->α
 | [],k=>k []
 | c::cs,k=>sV c fun c=>sVs cs fun cs=>k (c::cs)
end
def sNs:List Nat->(List Nat->α)->α
 | [],k=>k []
 | i::is,k=>sN i fun i=>sNs is fun is=>k (i::is)
def sTr (f:β->(β->α)->α):Tr β->(Tr β->α)->α
 | .leaf,k=>k .leaf
 | .node l v r,k=>sTr f l fun l=>(match v with
  | none=>sTr f r fun r=>k (.node l none r)
  | some x=>f x fun x=>sTr f r fun r=>k (.node l (some x) r))
def sO:Zk S->(Zk S->α)->α
 | .cells t cs,k=>sVs cs fun cs=>k (.cells t cs)
 | .row e t xs p v,k=>sN v fun v=>k (.row e t xs p v)
 | .map a b m,k=>k (.map a b m)
 | .siter s p,k=>k (.siter s p)
 | .mit m n,k=>sN m fun m=>k (.mit m n)
 | .bag e t xs v,k=>sN v fun v=>k (.bag e t xs v)
 | .loop f b ps as bo bid ex pa po,k=>sTr sV b fun b=>k (.loop f b ps as bo bid ex pa po)
def sSt (s:StT S) (k:StT S->α):α:=sTr sV s.base fun b=>sTr sO s.objs fun o=>sN s.next fun n=>k ⟨b,o,n⟩
end strict
mutual
def Z1V:TV S->List Nat
 | .ptr i _ | .ap i _ _ _ _ | .rptr i _ _ _ _ | .rs i _ | .rv i _ _ _ _ | .map i | .iter i | .yld i=>[i]
 | .agg cs=>Z2L cs
 | .tup cs=>Z2L cs
 | .fn _ a b=>Z2L a++Z2L b
 | _=>[]
def Z2L:List (TV S)->List Nat
 | []=>[]
 | c::cs=>Z1V c++Z2L cs
end
def Zi1:Zk S->List Nat
 | .cells _ cs=>Z2L cs
 | .loop _ b _ _ _ _ _ _ _=>(b.ents 1 0).flatMap fun p=>Z1V p.2
 | .mit m _=>[m]
 | _=>[]
def Z24 (h:Nat->Option (Zk S)):Nat->List Nat->List Nat->List Nat
 | 0,_,acc=>acc
 | _+1,[],acc=>acc
 | n+1,i::todo,acc=>bif acc.any (Nat.beq i)then Z24 h n todo acc else match h i with
  | some o=>Z24 h n (Zi1 o++todo) (i::acc)
  | none=>Z24 h n todo acc
def Z87 (h:Nat->Option (Zk S)):List Nat->Tr (Zk S)
 | []=>.leaf
 | i::is=>(Z87 h is).set i (h i)
def Zbz (o:Tr (Zk S)) (R:List Nat) (nx:Nat):List (Nat×Option (Zk S)):=(R++((o.ents 1 0).map (·.1)).filter (Nat.ble nx)).map fun i=>(i,o.get i)
def Z2J (h:Nat->Option (Zk S)):TV S->TV S
 | .rs id v=>(match h id with
  | some (.row _ t xs p u)=>bif Nat.beq p 1&&Nat.beq u v then .sl t xs else .rs id v
  | _=>.rs id v)
 | d=>d
def Z5Q (h:Nat->Option (Zk S)):TV S->TV S
 | .agg cs=>.agg (cs.map (Z2J h))
 | d=>Z2J h d
def Ziw (run:Tr (Zk S)->(TV S->Tr (Zk S)->Nat->Option R)->Option R) (h:Nat->Option (Zk S)) (nx:Nat) (is Rs:List Nat) (k:Zbu S->List Nat->Nat->Option R):Option R :=
 sNs Rs fun Rs=>sTr sO (Z87 h Rs) fun o=>run o fun v o n=>bif Nat.ble nx n then k ⟨some v,Zbz o Rs nx⟩ (is++Rs) n else none
def Z6D (callH callY:Z2z S R) (path:List Nat) (h:Nat->Option (Zk S)) (nx:Nat) (tgt:TV S×List (TV S)) (k:Zbu S->List Nat->Nat->Option R):Option R:=match tgt with
 | (.fn (.func g) _ _,as)=>sVs (as.map (Z5Q h)) fun fs=>Ziw (fun o k=>callH path g fs o nx k) h nx (Yp as) (Z24 h 4096 (Z2L fs) []) k
 | (.yld id,as)=>sVs (as.map (Z5Q h)) fun fs=>Ziw (fun o k=>callY path id fs o nx k) h nx (Yp as) (Z24 h 4096 (id::Z2L fs) []) k
 | _=>none
def ZgN (X:Ye S) (cs:Z3L S R) (callH callY:Z2z S R) (path:List Nat) (V nt:Nat) (ops:Array Oper) (b:Nat):Nat->List Oper->List (Nat×Bool)->Z2m S->(Z2m S->Option R)->Option R
 | _,[],_,m,kk=>kk m
 | k,o::os,kn,m,kk =>
  Zg9 ops (fun t=>ovK kn t (Z1r V m.base m.loc t)) o kn fun want kn=>bif want then
   Zbj X cs (b+k) (fun t=>ovK kn t (Z1r V m.base m.loc t)) m.objs.get o.op
    (fun r=>ZgN X cs callH callY path V nt ops b (k+1) os (Z55 kn o.dst) ({ m with objs:=Z4N m.objs r.upd }.put V nt o.dst r.val) kk)
    (fun tgt=>Z6D callH callY (k::path) m.objs.get m.next tgt fun x _ n=>ZgN X cs callH callY path V nt ops b (k+1) os (Z55 kn o.dst) ({ m with objs:=Z4N m.objs x.upd,next:=n }.put V nt o.dst x.val) kk)
  else ZgN X cs callH callY path V nt ops b (k+1) os (Z55 kn o.dst) (m.put V nt o.dst (some (.tup []))) kk
structure Z1j (S:Nat->Type) where
 dst:Option Tmp
 anc:Nat
 touch:List Nat
 out:Zbu S
 new:Option (Nat×Nat)
def Zah (ρ:Nat->Option (TV S)) (op:Op):List Nat:=op.operands.toList.flatMap fun x=>match ZR ρ x with|some d=>Z21 d|none=>[]
def Z3B (anc:Nat) (ρ:Nat->Option (TV S)):List (Nat×Z1j S)->Nat->Option (TV S)
 | [],t=>ρ t
 | (j,d)::ds,t=>bif(match d.dst with|some s=>Nat.beq s t|none=>false)then(bif Nat.testBit anc j then d.out.val else none)else Z3B anc ρ ds t
def Z3r (id:Nat):List (Nat×Option (Zk S))->Option (Option (Zk S))
 | []=>none
 | (i,x)::us=>match Z3r id us with
  | some y=>some y
  | none=>bif Nat.beq i id then some x else none
def Z4A (anc:Nat) (h:Nat->Option (Zk S)):List (Nat×Z1j S)->Nat->Option (Zk S)
 | [],id=>h id
 | (j,d)::ds,id=>match Z3r id d.out.upd with
  | some x=>bif Nat.testBit anc j then x else none
  | none=>Z4A anc h ds id
def Z4S (ops:Array Oper) (ds:List (Nat×Z1j S)) (o:Oper) (k:Nat):Nat :=
 o.after.toList.foldl (fun m e=>bif Region.binds .any e&&Nat.blt e.on k then m ||| (1 <<< e.on) ||| ((ds.find? (fun d=>Nat.beq d.1 e.on)).map (·.2.anc)).getD 0 else m) 0
def Z4t (V nt:Nat):List (Nat×Z1j S)->Z2m S->Z2m S
 | [],m=>m
 | (_,d)::ds,m=>let m:=Z4t V nt ds m;{ m with objs:=Z4N m.objs d.out.upd }.put V nt d.dst d.out.val
def Z9b (X:Ye S) (cs:Z3L S R) (callH callY:Z2z S R) (path:List Nat) (V nt:Nat) (ops:Array Oper) (b:Nat):Nat->List Oper->List (Nat×Bool)->Z2m S->List (Nat×Z1j S)->(Z2m S->Option R)->Option R
 | _,[],_,m,ds,kk=>kk (Z4t V nt ds m)
 | k,o::os,kn,m,ds,kk =>
  let anc:=Z4S ops ds o k
  let ρ0:=Z3B anc (Z1r V m.base m.loc) ds
  let h:=Z4A anc m.objs.get ds
  bif o.after.all (fun e => !Region.binds .any e||Nat.blt e.on k)&&(match o.dst with|none=>true|some t=>Nat.blt t nt)&&ds.all (fun d=>Nat.testBit anc d.1||(match o.dst with
    | none=>true
    | some t => !((ops.getD d.1 o).looksAt ops).contains t && !(match d.2.dst with|some s=>Nat.beq s t|none=>false)))then
   Zg9 ops (fun t=>ovK kn t (ρ0 t)) o kn fun want kn =>
    let ρ:=fun t=>ovK kn t (ρ0 t)
    bif want then
     Zbj X cs (b+k) ρ h o.op
      (fun r=>bif r.upd.all (fun u=>ds.all (fun d=>Nat.testBit anc d.1 || !d.2.touch.contains u.1&&(Z3r u.1 d.2.out.upd).isNone))then
       Z9b X cs callH callY path V nt ops b (k+1) os (Z55 kn o.dst) m ((k,⟨o.dst,anc,Zah ρ o.op,r,none⟩)::ds) kk
      else none)
      (fun tgt=>Z6D callH callY (k::path) h m.next tgt fun x T n =>
       bif ds.all (fun d=>Nat.testBit anc d.1||d.2.new.isNone&&x.upd.all (fun u => !d.2.touch.contains u.1&&(Z3r u.1 d.2.out.upd).isNone))then
        Z9b X cs callH callY path V nt ops b (k+1) os (Z55 kn o.dst) { m with next:=n } ((k,⟨o.dst,anc,T,x,some (m.next,n)⟩)::ds) kk
       else none)
    else Z9b X cs callH callY path V nt ops b (k+1) os (Z55 kn o.dst) m ((k,⟨o.dst,anc,[],⟨some (.tup []),[]⟩,none⟩)::ds) kk
  else none
def Zcb (X:Ye S) (cs:Z3L S R) (callH callY:Z2z S R) (path:List Nat) (V nt:Nat) (ops:Array Oper) (draw:Bool) (s:StT S) (kk:StT S->Option R):Option R :=
 bif draw then Z9b X cs callH callY path V nt ops s.next 0 ops.toList [] ⟨s.base,[],s.objs,s.next+ops.size⟩ [] fun m=>sSt ⟨m.base,m.objs,m.next⟩ kk
 else ZgN X cs callH callY path V nt ops s.next 0 ops.toList [] ⟨s.base,[],s.objs,s.next+ops.size⟩ fun m=>sSt ⟨m.base,m.objs,m.next⟩ kk
def ZjT:TV S->Bool
 | .arr _ _ _ | .stc _ _=>true
 | _=>false
def Zbx (T:TS S) (cs:List (TV S)) (off:Nat):Option (Option (TV S)):=(Z9c T cs off).bind fun
 | []=>some none
 | c::_=>bif ZV c then(bif ZjT c&&Nat.blt 0 (wd T c)then some (some (.bool false))else none)else some (some c)
def Zik (T:TS S) (o:Tr (Zk S)) (b0:Tr (TV S)):Acc->Option (Option (Nat×Nat))
 | .slot t _=>(match b0.get t with
  | some (.rs id v)=>some (some (id,v))
  | _=>some none)
 | .cell t off _=>(match b0.get t with
  | some (.ptr q 0)=>(match o.get q with
   | some (.cells _ cs)=>(Zbx T cs off).bind fun
    | some (.rs id v)=>some (some (id,v))
    | _=>some none
   | _=>some none)
  | some (.ap _ _ _ _ _)=>none
  | _=>some none)
def Zfm (T:TS S) (o:Tr (Zk S)) (b0:Tr (TV S)):List Acc->Option (List (Option (Nat×Nat)))
 | []=>some []
 | a::as=>(Zik T o b0 a).bind fun x=>(Zfm T o b0 as).bind fun xs=>some (x::xs)
mutual
def Z3h (n0:Nat) (L:List (Option (Nat×Nat))):TV S->Option (TV S)
 | .rs id v=>match Z5P id v 0 L with
  | some j=>some (.rs (n0+j) 0)
  | none=>bif Nat.blt id n0 && !Z3c id L then some (.rs id v)else none
 | .agg cs=>(Z8x n0 L cs).bind fun cs=>some (.agg cs)
 | .tup cs=>(Z8x n0 L cs).bind fun cs=>some (.tup cs)
 | d=>bif Zas n0 d then some d else none
def Z8x (n0:Nat) (L:List (Option (Nat×Nat))):List (TV S)->Option (List (TV S))
 | []=>some []
 | c::cs=>(Z3h n0 L c).bind fun c=>(Z8x n0 L cs).bind fun cs=>some (c::cs)
end
def Z8w (n0:Nat) (L:List (Option (Nat×Nat))):Zk S->Option (Zk S)
 | .cells t cs=>(Z8x n0 L cs).bind fun cs=>some (.cells t cs)
 | .loop fid b ps as bo bid ex pa po=>(b.tm (fun _ d=>(Z3h n0 L d).bind fun d=>some (some d)) 1 0).bind fun b=>some (.loop fid b ps as bo bid ex pa po)
 | .mit m n=>bif Nat.blt m n0 then some (.mit m n)else none
 | o=>some o
def Z3N (o:Tr (Zk S)) (n0:Nat):Nat->List (Option (Nat×Nat))->Tr (Zk S)->Option (Tr (Zk S))
 | _,[],no=>some no
 | j,none::l,no=>Z3N o n0 (j+1) l no
 | j,some (id,v)::l,no=>(match o.get id with
  | some (.row e t es p u)=>bif Nat.beq u v then Z3N o n0 (j+1) l (no.set (n0+j) (some (.row e t es p 0)))else none
  | _=>none)
def YZ (X:Ye S) (n0:Nat):Nat->List Acc->Tr (TV S)×Tr (Zk S)->Option (Tr (TV S)×Tr (Zk S))
 | _,[],r=>some r
 | j,.slot t e::as,(b,no)=>(match b.get t with
  | some .nils=>(X.E.ty e).bind fun ei=>(X.code e).bind fun te=>bif Nat.blt 0 ei.size&&(no.get (n0+j)).isNone then YZ X n0 (j+1) as (b.set t (some (.rs (n0+j) 0)),no.set (n0+j) (some (.row e te [] 0 0)))else none
  | _=>YZ X n0 (j+1) as (b,no))
 | j,.cell t off e::as,(b,no)=>(match b.get t with
  | some (.ptr q 0)=>(match no.get q with
   | some (.cells ct cs)=>(Zbx X.T cs off).bind fun
    | some .nils=>(X.E.ty e).bind fun ei=>(X.code e).bind fun te=>(Z2T X.T cs off [.rs (n0+j) 0]).bind fun cs=>bif Nat.blt 0 ei.size&&(no.get (n0+j)).isNone then YZ X n0 (j+1) as (b,(no.set q (some (.cells ct cs))).set (n0+j) (some (.row e te [] 0 0)))else none
    | _=>YZ X n0 (j+1) as (b,no)
   | _=>YZ X n0 (j+1) as (b,no))
  | some (.ap _ _ _ _ _)=>none
  | _=>YZ X n0 (j+1) as (b,no))
mutual
def YO:TV S->List (Nat×Nat)
 | .rs id v=>[(id,v)]
 | .agg cs=>Z2E cs
 | .tup cs=>Z2E cs
 | .fn _ a b=>Z2E a++Z2E b
 | .iface _ v=>YO v
 | _=>[]
def Z2E:List (TV S)->List (Nat×Nat)
 | []=>[]
 | c::cs=>YO c++Z2E cs
end
def ZeZ:Zk S->List (Nat×Nat)
 | .cells _ cs=>Z2E cs
 | .loop _ b _ _ _ _ _ _ _=>(b.ents 1 0).flatMap fun p=>YO p.2
 | _=>[]
def Zcm (o:Nat->Option (Zk S)) (p:Nat×Nat):Bool:=match o p.1 with
 | some (.row _ _ _ _ u)=>Nat.beq u p.2
 | _=>false
def ZbI (o:Tr (Zk S)) (b:Tr (TV S)) (n0 keep:Nat) (A:List (Option (Nat×Nat))):List (Nat×Nat) :=
 Z8K (Zcm o.get) A (((o.ents 1 0).flatMap fun p=>bif Nat.blt p.1 n0 then ZeZ p.2 else [])++((b.ents 1 0).flatMap fun p=>bif Nat.testBit keep p.1 then YO p.2 else [])) []
def ZeJ (X:Ye S) (hint:Z3K) (n0:Nat) (s:StT S):Option (StT S) :=
 (Zfm X.T s.objs s.base hint.accs).bind fun A =>
 let XL:=ZbI s.objs s.base n0 hint.keep A
 let L:=XL.map some++A
 bif Ze7 L then
  (s.base.tm (fun t d=>bif Nat.testBit hint.keep t then(Z3h n0 L d).bind fun d=>some (some d)else some none) 1 0).bind fun b =>
  (s.objs.tm (fun i x=>bif Nat.blt i n0 && !Z3c i L then(Z8w n0 L x).bind fun x=>some (some x)else some none) 1 0).bind fun o =>
  (Z3N s.objs n0 0 L o).bind fun o=>(YZ X n0 XL.length hint.accs (b,o)).bind fun r=>some ⟨r.1,r.2,n0+XL.length+hint.accs.length⟩
 else none
def ZfM (X:Ye S) (hint:Z3K) (n0:Nat) (s:StT S):Option (StT S) :=
 (ZeJ X hint n0 s).bind fun s=>some (bif hint.raw then s else { s with objs:=s.objs.mapv ZhA })
def Zdc (rnd:Option Nat) (h:Nat->Option (Zk S)):Bool:=match rnd with
 | none=>true
 | some l=>(match h l with|some (.loop ..)=>true|_=>false)
def StT.keep (m:Nat) (s:StT S):StT S:={ s with base:=s.base.filt m 1 0 }
def StT.keepX (F:FI) (id:Nat) (s:StT S):StT S:=match F.xm.find? fun p=>Nat.beq p.1 id with
 | some p=>s.keep p.2
 | none=>s
def Code.kid:Code->Nat->Option Code
 | .seq x _,0=>some x
 | .seq _ y,1=>some y
 | .cond _ x _,0=>some x
 | .cond _ _ y,1=>some y
 | .block _ c,0=>some c
 | .loop c,0=>some c
 | .scope c,0=>some c
 | .rangeFunc _ _ a _,0=>some a
 | .rangeFunc _ _ _ b,1=>some b
 | _,_=>none
def Code.sub (c:Code):List Nat->Option Code
 | []=>some c
 | i::p=>(Code.sub c p).bind fun d=>Code.kid d i
structure Key where
 path:List Nat
 fid:Nat
 rnd:Option Nat
 pos:List Nat
 bid:Nat
 n0:Nat
abbrev Z2G (S:Nat->Type) (R:Type):=Key->StT S->(Ex->StT S->Option R)->Option R
def ZcM:List Nat->Tr (TV S)->Tr (TV S)
 | [],b=>b
 | t::ts,b=>ZcM ts (b.set t none)
def Zhy:(kt et:Ty)->List (Val S kt×Val S et)->Option (List Int)
 | .int .i64,_,m=>some (m.map fun p=>p.1)
 | _,_,_=>none
def ZbY (X:Ye S) (F:FI) (bid:Nat) (p:Nat×Nat×TypeId×Nat) (c:Code) (s:StT S) (kk:Ex->StT S->Option R):Option R:=match s.base.get p.1,s.base.get p.2.1 with
 | some (.iter k),some .nils=>(match s.objs.get k with
  | some (.mit m n)=>(match s.objs.get m with
   | some (.map kt et es)=>(ZbZ F.nt p.1 p.2.1 c).bind fun q=>(X.E.ty q.2.2).bind fun ti=>(match ti.k with
    | .slice e=>(X.E.ty e).bind fun ei=>(match ei.k with
     | .int .i64=>(Zhy kt et es).bind fun l=>bif Nat.beq e p.2.2.1&&Nat.beq q.1 bid&&Nat.beq es.length n&&Nat.ble n 100000&&Nat.beq ei.size 1&&Nat.ble ei.bytes 1000&&Nat.testBit F.vmask p.2.1 then
       bif Nat.beq n 0 then kk (.exit bid) ((⟨(ZcM (p.2.1::q.2.1) s.base).set p.2.1 (some .nils),s.objs.set k none,s.next+2⟩:StT S).keepX F bid)
        else kk (.exit bid) ((⟨(ZcM (p.2.1::q.2.1) s.base).set p.2.1 (some (.rs (s.next+1) 0)),(s.objs.set k none).set (s.next+1) (some (.bag e (.int .i64) l 0)),s.next+2⟩:StT S).keepX F bid)
      else none
     | _=>none)
    | _=>none)
   | _=>none)
  | _=>none)
 | _,_=>none
def Z7S (s:StT S) (t id:Nat):StT S:=match s.objs.get id with
 | some (.cells _ cs)=>bif Yo cs then { s with base:=s.base.set t (some (.pub cs)),objs:=s.objs.set id none }else s
 | _=>s
def Z5f (s:StT S) (t:Nat):StT S:=match s.base.get t with
 | some (.ptr id o)=>bif Nat.beq o 0 then Z7S s t id else s
 | some (.ap id b i e o)=>bif Nat.beq (b+i*e+o) 0 then Z7S s t id else s
 | _=>s
def Z5E (rid:Nat):List (Nat×Nat)->StT S->StT S
 | [],s=>s
 | (r,t)::ps,s=>Z5E rid ps (bif Nat.beq r rid then Z5f s t else s)
def Z1l (X:Ye S) (cs:Z3L S R) (ls:Z2G S R) (rnd:Option Nat) (fid:Nat) (F:FI) (callH callY:Z2z S R) (path:List Nat):List Nat->Nat->Code->StT S->(Ex->StT S->Option R)->Option R
 | _,_,.skip,s,k=>k .normal s
 | _,_,.region id ops draw,s,k=>Zcb X cs callH callY (id::path) F.vmask F.nt ops draw (Z5E id F.pubs s) fun s=>k .normal s
 | pos,bid,.seq x y,s,k=>Z1l X cs ls rnd fid F callH callY path (0::pos) bid x s fun ex s=>match ex with
  | .normal=>Z1l X cs ls rnd fid F callH callY path (1::pos) bid y s k
  | _=>k ex s
 | pos,bid,.cond c x y,s,k=>(match ZR s.base.get c with
  | some (.bool t)=>bif t then Z1l X cs ls rnd fid F callH callY path (0::pos) bid x s k else Z1l X cs ls rnd fid F callH callY path (1::pos) bid y s k
  | _=>none)
 | pos,_,.block id c,s,k=>Z1l X cs ls rnd fid F callH callY path (0::pos) id c s fun ex s=>match ex with
  | .exit i=>bif Nat.beq i id then k .normal s else k ex s
  | _=>k ex s
 | pos,bid,.loop c,s,k=>match(F.mrs.find? fun p=>Nat.beq p.1 bid:Option (Nat×Nat×Nat×TypeId×Nat))with
  | some p=>ZbY X F bid p.2 c s k
  | none=>(F.hints.find? fun h=>Nat.beq h.bid bid).bind fun hint=>(ZfM X hint s.next s).bind fun s1=>ls ⟨path,fid,rnd,0::pos,bid,s.next⟩ s1 k
 | _,_,.exit id,s,k=>k (.exit id) (s.keepX F id)
 | pos,bid,.scope c,s,k=>Z1l X cs ls rnd fid F callH callY path (0::pos) bid c s k
 | _,_,.label _,s,k=>k .normal s
 | _,_,.ret,s,k=>k .ret (s.keep F.rm)
 | pos,bid,.rangeFunc f ps assign body,s0,k=>bif Zdc rnd s0.objs.get then Option.bind (match(F.hints.find? fun h=>Nat.beq h.bid bid:Option Z3K)with
   | some hint=>(YZ X s0.next 0 hint.accs (s0.base,s0.objs)).bind fun r=>some (StT.mk r.1 r.2 (s0.next+hint.accs.length))
   | none=>some s0) fun(s:StT S)=>(ZR s.base.get f).bind fun fv=>(match fv with
  | .fn (.func g) first caps =>
   callH (bid::path) g (first++[.yld s.next]++caps) (s.objs.set s.next (some (.loop fid s.base ps.toList assign body bid .normal (bid::path) pos))) (s.next+1) fun _ objs next =>
    (match objs.get s.next with
    | some (.loop _ _ _ _ _ _ ex _ _)=>(match ex with | .busy=>none|_=>k ex { s with objs:=objs.set s.next none,next:=next })
    | _=>none)
  | _=>none)else none
 | _,_,_,_,_=>none
def Zf1 (X:Ye S) (base:Nat->Option (TV S)) (h:Nat->Option (Zk S)) (rs:List ResultVar) (k:List (TV S)->Option R):Option R:=match rs with
 | []=>k []
 | .tmp t::rs=>(base t).bind fun v=>Zf1 X base h rs fun vs=>k (v::vs)
 | .cell a t::rs=>(X.E.ty t).bind fun ti=>(base a).bind fun a=>ZfJ X ti h a fun o=>o.val.bind fun v=>Zf1 X base h rs fun vs=>k (v::vs)
def Z5b:List (TV S)->TV S
 | [v]=>v
 | vs=>.tup vs
def Z1k (V:Nat):Nat->List (TV S)->Tr (TV S)->Tr (TV S)
 | _,[],b=>b
 | k,v::vs,b=>Z1k V (k+1) vs (bif Nat.testBit V k then b.set k (some v)else b)
def Z1x (V nt:Nat):List Nat->List (TV S)->Tr (TV S)->Option (Tr (TV S))
 | [],[],b=>some b
 | p::ps,v::vs,b=>bif Nat.blt p nt then Z1x V nt ps vs (bif Nat.testBit V p then b.set p (some v)else b)else none
 | _,_,_=>none
mutual
def rnT (f:Nat->Nat):TV S->TV S
 | .ptr i o=>.ptr (f i) o
 | .ap i b j e o=>.ap (f i) b j e o
 | .rptr i v j e o=>.rptr (f i) v j e o
 | .rs i v=>.rs (f i) v
 | .rv i v j n e=>.rv (f i) v j n e
 | .slen n=>.slen n
 | .agg cs=>.agg (Z7c f cs)
 | .tup cs=>.tup (Z7c f cs)
 | .fn g a c=>.fn g (Z7c f a) (Z7c f c)
 | .map i=>.map (f i)
 | .iface t v=>.iface t (rnT f v)
 | .iter i=>.iter (f i)
 | .yld i=>.yld (f i)
 | .earr ts p n a=>.earr ts (f p) n a
 | .narr ts n=>.narr ts n
 | .bool b=>.bool b
 | .int k n=>.int k n
 | .str s=>.str s
 | .nilp=>.nilp
 | .pub cs=>.pub cs
 | .nils=>.nils
 | .sl0=>.sl0
 | .sl t xs=>.sl t xs
 | .arr t n a=>.arr t n a
 | .stc i x=>.stc i x
 | .nilfn=>.nilfn
 | .nilmap=>.nilmap
 | .nilif=>.nilif
def Z7c (f:Nat->Nat):List (TV S)->List (TV S)
 | []=>[]
 | c::cs=>rnT f c::Z7c f cs
end
mutual
def Zc1 (p:Nat->Bool):TV S->Bool
 | .ptr i _ | .ap i _ _ _ _ | .rptr i _ _ _ _ | .rs i _ | .rv i _ _ _ _ | .map i | .iter i | .yld i=>p i
 | .agg cs=>Z59 p cs
 | .tup cs=>Z59 p cs
 | .fn _ a b=>Z59 p a&&Z59 p b
 | .iface _ v=>Zc1 p v
 | .earr _ i _ _=>p i
 | _=>true
def Z59 (p:Nat->Bool):List (TV S)->Bool
 | []=>true
 | c::cs=>Zc1 p c&&Z59 p cs
end
def Zf3 (f:Nat->Nat):Zk S->Zk S
 | .cells t cs=>.cells t (Z7c f cs)
 | .loop fid b ps as bo bid ex pa po=>.loop fid (b.mapv (rnT f)) ps as bo bid ex pa po
 | .row e t xs p u=>.row e t xs p u
 | .map k e m=>.map k e m
 | .siter s pos=>.siter s pos
 | .mit m n=>.mit (f m) n
 | .bag e t xs u=>.bag e t xs u
def Zk2 (p:Nat->Bool):Zk S->Bool
 | .cells _ cs=>Z59 p cs
 | .loop _ b _ _ _ _ _ _ _=>b.allV (Zc1 p)
 | .mit m _=>p m
 | _=>true
def ZhO (p:Nat->Bool) (h:Nat->Option (Zk S)):List Nat->Bool
 | []=>true
 | i::is=>(match h i with|some o=>Zk2 p o|none=>true)&&ZhO p h is
def Z5X (f:Nat->Nat) (h:Nat->Option (Zk S)):List Nat->Tr (Zk S)
 | []=>.leaf
 | i::is=>(Z5X f h is).set (f i) ((h i).map (Zf3 f))
def Z7Z (f:Nat->Nat) (h:Nat->Option (Zk S)):List Nat->List (Nat×Option (Zk S))
 | []=>[]
 | i::is=>(f i,(h i).map (Zf3 f))::Z7Z f h is
def Zfx (k:Nat) (v:TV S) (o:Tr (Zk S)) (kk:TV S->Tr (Zk S)->Nat->Option R):Option R :=
 sNs (geN k (Z24 o.get 4096 (Z1V v++upN 0 k) [])) fun Rs =>
  bif Zaj Rs&&(Zc1 (fun j=>Nat.blt j k||Z3H j Rs) v&&ZhO (fun j=>Nat.blt j k||Z3H j Rs) o.get (upN 0 k++Rs))then
   sV (rnT (Z2p k Rs) v) fun v=>sTr sO (Z5X (Z2p k Rs) o.get (upN 0 k++Rs)) fun o=>sN (k+Z2q Rs) fun n=>kk v o n
  else none
def Zeo (cs:Z3L S R) (g:Nat) (as:List (TV S)) (o:Tr (Zk S)) (nx:Nat) (k:TV S->Tr (Zk S)->Nat->Option R):Option R :=
 sVs (as.map fun d=>(YD o.get d).getD d) fun fs=>sTr sO (Z4N o (Z61 o.get (Yp as))) fun o1=>sNs (Z24 o1.get 4096 (Z2L fs) []) fun Rs=>sN (Z2q Rs) fun n0 =>
  bif Zaj Rs&&(Z59 (fun i=>Z3H i Rs) fs&&ZhO (fun i=>Z3H i Rs) o1.get Rs)then
   sVs (Z7c (Z4K Rs) fs) fun fs=>sTr sO (Z5X (Z4K Rs) o1.get Rs) fun s =>
   cs.pr g fs s n0 fun v os n=>sV (rnT (ZF n0 nx Rs) v) fun v=>sTr sO (Z4N o1 (Z7Z (ZF n0 nx Rs) os.get (upN 0 n))) fun o2=>sN (nx+(n-n0)) fun nx2=>k v o2 nx2
  else none
def clnT (X:Ye S) (e:TypeId) (as:List (TV S)) (o:Tr (Zk S)) (nx:Nat) (k:TV S->Tr (Zk S)->Nat->Option R):Option R:=match as with
 | [x]=>(X.E.ty e).bind fun ei=>(X.code e).bind fun te=>(Z9e te o.get x).bind fun xs=>bif Nat.ble (xs.length*(ei.bytes+1)) 100000000000000&&Nat.blt 0 ei.size then
   k (.rs nx 0) (o.set nx (some (.row e te xs 0 0))) (nx+1)else none
 | _=>none
def srtT (e:TypeId) (as:List (TV S)) (o:Tr (Zk S)) (nx:Nat) (k:TV S->Tr (Zk S)->Nat->Option R):Option R:=match as with
 | [.nils]=>k (.tup []) o nx
 | [.rs id v]=>(match o.get id with
  | some (.bag e' t xs u)=>bif Nat.beq e' e&&Nat.beq u v&&Nat.ble xs.length 1000000 then(if q:t=.int .i64 then k (.tup []) (o.set id (some (.row e (.int .i64) (Z3n (q▸xs:List (Val S (.int .i64)))) 0 u))) nx else none)else none
  | _=>none)
 | _=>none
def Zid (X:Ye S) (f:Nat) (as:List (TV S)) (o:Tr (Zk S)) (nx:Nat) (k:TV S->Tr (Zk S)->Nat->Option R):Option R:=match X.E.leaf f,X.E.cc f,X.E.cln f,X.E.srt f with
 | none,none,some e,_=>clnT X e as o nx k
 | none,none,none,some e=>srtT e as o nx k
 | _,_,_,_=>none
def Zhu:Ex->Bool
 | .busy=>true
 | _=>false
def xK (X:Ye S) (cs:Z3L S R) (ls:Z2G S R):Nat->Bool->Z2z S R
 | 0,_,_,_,_,_,_,_=>none
 | n+1,false,path,f,args,objs,next,k=>bif Ze6 X.E f then Zid X f args objs next k else
  (X.E.fn f).bind fun F=>bif F.can then Zeo cs f args objs next k else bif Nat.ble args.length F.nt then
   Z1l X cs ls none f F (xK X cs ls n false) (xK X cs ls n true) (f::path) [] 0 F.body ⟨Z1k F.vmask 0 args .leaf,objs,next⟩ fun ex s =>
    match ex with
    | .exit _ | .busy=>none
    | _=>Zf1 X s.base.get s.objs.get F.nres fun vs=>k (Z5b vs) s.objs s.next
   else none
 | n+1,true,path,l,args,objs,next,k=>(match objs.get l with
  | some (.loop fid base ps assign body bid .normal pa po)=>(X.E.fn fid).bind fun F=>(Z1x F.vmask F.nt ps args base).bind fun b =>
    Z1l X cs ls (some l) fid F (xK X cs ls n false) (xK X cs ls n true) (l::path) (0::po) bid assign ⟨b,objs,next⟩ fun ex s=>(match ex,s.objs.get l with
    | .normal,some (.loop fid2 base2 ps2 assign2 body2 bid2 .normal pa2 po2)=>Z1l X cs ls (some l) fid F (xK X cs ls n false) (xK X cs ls n true) (l::path) (1::po) bid body { s with objs:=s.objs.set l (some (.loop fid2 base2 ps2 assign2 body2 bid2 .busy pa2 po2)) } fun ex s=>(match s.objs.get l with
     | some (.loop fid3 base3 ps3 assign3 body3 bid3 .busy pa3 po3)=>bif Zhu ex then none else k (.bool (match ex with | .normal=>true|_=>false)) (s.objs.set l (some (.loop fid3 base3 ps3 assign3 body3 bid3 ex pa3 po3))) s.next
     | _=>none)
    | _,_=>none)
  | _=>none)
end ops
end
end Go.Ab
namespace Go.Ab
def plain:DV->Bool
 | .bool _ | .int _ _ | .str _ | .sl _=>true
 | _=>false
variable {S:Nat->Type}
structure TOk (T:TS S):Prop where
 cells:∀i x,dvs T (T.cells i x)=T.dcells i x
 len:∀i x,(T.dcells i x).length=T.size i
 rd:∀i cs x r,T.rd i cs=some (x,r)->dvs T cs=T.dcells i x++dvs T r
 plain:∀i x,(T.dcells i x).all plain=true
 seq:∀i e,T.seq i=some e->∀x y,Zl (T.dcells i x) (T.dcells i y)=some (e x y)
structure XOk (X:Ye S):Prop where
 t:TOk X.T
 zero:∀t z ti,X.zero t=some z->X.E.ty t=some ti->dvs X.T z=ti.zero
 code:∀t c ti,X.code t=some c->X.E.ty t=some ti->ti.size=tsz X.T c/\ti.isAgg=YV c
def Y5 (T:TS S):TV S->List DV
 | .arr t n a=>acl T t n a
 | .stc i x=>T.dcells i x
 | .earr ts pid n a=>eal ts pid n a
 | .narr _ n=>List.replicate n .nilif
 | c=>[dv T c]
theorem Zv (T:TS S) (c:TV S) (cs:List (TV S)):dvs T (c::cs)=Y5 T c++dvs T cs:=by
 cases c<;>simp[dvs,Y5]
theorem Z8M (T:TS S):dvs T []=[]:=by simp[dvs]
theorem Z1Y (T:TS S):∀(a b:List (TV S)),dvs T (a++b)=dvs T a++dvs T b
 | [],b=>by simp[dvs]
 | c::a,b=>by rw[List.cons_append,Zv,Zv,Z1Y T a b,jj]
theorem Z6d (T:TS S):∀(a b:List (TV S)),dvl T (a++b)=dvl T a++dvl T b
 | [],b=>by simp[dvl]
 | c::a,b=>by simp only[List.cons_append,dvl,Z6d T a b]
theorem Z5s (T:TS S):∀(a:List (TV S)),dvl T a=a.map (dv T)
 | []=>by simp[dvl]
 | c::a=>by simp only[jr,dvl,Z5s T a]
section
variable {T:TS S} (hT:TOk T)
include hT
theorem Yd:∀(t:Ty) (x:Val S t),(dcl T t x).length=tsz T t
 | .bool,_=>rfl
 | .int _,_=>rfl
 | .str,_=>rfl
 | .sl _,_=>by simp[dcl,tsz]
 | .st i,x=>hT.len i x
 | .arr n t,a=>by
  simp only[dcl,tsz,List.length_flatMap];have:(List.map (fun j=>(dcl T t (a j)).length) (List.range n))=List.map (fun _=>tsz T t) (List.range n):=List.map_congr_left fun j _=>Yd t (a j);rw[this,List.map_const',List.sum_replicate_nat,List.length_range]
theorem Z2X:∀(t:Ty) (x:Val S t),(dcl T t x).all plain=true
 | .bool,_=>rfl
 | .int _,_=>rfl
 | .str,_=>rfl
 | .sl _,_=>by simp[dcl,plain]
 | .st i,x=>hT.plain i x
 | .arr n t,a=>by
  rw[List.all_eq_true];intro c hc;simp only[dcl,List.mem_flatMap]at hc;obtain⟨j,_,hc⟩:=hc;exact List.all_eq_true.1 (Z2X t (a j)) c hc
theorem Z12 (t:Ty) (n:Nat) (a:Nat->Val S t):(acl T t n a).length=n*tsz T t:=Yd hT (.arr n t) a
theorem Yq (t:Ty) (n:Nat) (a:Nat->Val S t):(acl T t n a).all plain=true:=Z2X hT (.arr n t) a
theorem Z2U:∀(t:Ty) (x:Val S t),dvs T (tcl T t x)=dcl T t x
 | .bool,_=>by simp[tcl,dvs,dv,dcl]
 | .int _,_=>by simp[tcl,dvs,dv,dcl]
 | .str,_=>by simp[tcl,dvs,dv,dcl]
 | .sl _,_=>by simp[tcl,dvs,dv,dcl]
 | .st i,x=>by simp only[tcl,dvs,jo,dcl]
 | .arr n t,a=>by simp only[tcl,dvs,jo];rfl
theorem Z1J:∀(t:Ty) (x:Val S t),dv T (Z8a T t x)=Yr T t x
 | .bool,_=>by simp[Z8a,dv,Yr]
 | .int _,_=>by simp[Z8a,dv,Yr]
 | .str,_=>by simp[Z8a,dv,Yr]
 | .sl _,_=>by simp[Z8a,dv,Yr]
 | .st i,x=>by simp only[Z8a,dv,Yr,dvs,jo]
 | .arr n t,a=>by simp[Z8a,dv,Yr,dvs]
theorem Z2W (c:TV S):(Y5 T c).length=wd T c:=by
 cases c<;>simp[Y5,wd]
 ·rename_i t n a;exact Z12 hT t n a
 ·rename_i i x;exact hT.len i x
 ·simp[eal]
theorem Y1:∀(cs:List (TV S)),(dvs T cs).length=wds T cs
 | []=>by simp[dvs,wds]
 | c::cs=>by rw[Zv,List.length_append,Z2W hT c,Y1 cs,wds]
theorem Z5I (i:Nat) (x:S i) (r:List (TV S)):dvs T (T.cells i x++r)=dvs T (.stc i x::r):=by
 rw[Z1Y,hT.cells];simp[dvs]
theorem Zj7 (i:Nat) (x:S i) (r:List (TV S)):wds T (T.cells i x++r)=wds T (.stc i x::r):=by
 rw[<-Y1 hT,<-Y1 hT,Z5I hT]
theorem Z7w:∀(f:Nat) {cs r:List (TV S)} {n:Nat},ZaL T f cs n=some r->wds T cs=n+wds T r/\(dvs T cs).drop n=dvs T r
 | 0,_,_,_,h=>by cases h
 | f+1,[],r,n,h=>by
  simp only[ZaL]at h;obtain⟨a,h⟩:=Z3 h;cases h;have:=je a;subst this;simp[wds,dvs]
 | f+1,c::cs,r,n,h=>by
  simp only[ZaL]at h;cases h0:Nat.beq n 0 with
  | true =>
   rw[h0]at h;cases h;have:=je h0;subst this;simp
  | false =>
   rw[h0]at h;simp only[jA]at h;cases a:Nat.ble (wd T c) n with
   | true =>
    rw[a]at h;simp only[jB]at h;obtain⟨d,b⟩:=Z7w f h;have a:=jf a;refine⟨by rw[wds];omega,?_⟩
    rw[Zv,<-b,List.drop_append,Z2W hT c,jd (by rw[Z2W hT c];exact a),List.nil_append]
   | false =>
    rw[a]at h;simp only[jA]at h;split at h
    ·rename_i i x;obtain⟨d,b⟩:=Z7w f h;rw[Zj7 hT]at d;rw[Z5I hT]at b;exact⟨d,b⟩
    ·cases h
theorem Z1A {cs r:List (TV S)} {n:Nat} (h:Z9c T cs n=some r):wds T cs=n+wds T r/\(dvs T cs).drop n=dvs T r:=Z7w hT 400 h
theorem Z88:∀(f:Nat) {cs r:List (TV S)} {n:Nat},Zbm T f cs n=some r->wds T r=n/\(dvs T cs).take n=dvs T r
 | 0,_,_,_,h=>by cases h
 | f+1,[],r,n,h=>by
  simp only[Zbm]at h;obtain⟨a,h⟩:=Z3 h;cases h;have:=je a;subst this;simp[wds,dvs]
 | f+1,c::cs,r,n,h=>by
  simp only[Zbm]at h;cases h0:Nat.beq n 0 with
  | true =>
   rw[h0]at h;cases h;have:=je h0;subst this;simp[wds,dvs]
  | false =>
   rw[h0]at h;simp only[jA]at h;cases a:Nat.ble (wd T c) n with
   | true =>
    rw[a]at h;simp only[jB]at h;obtain⟨r',b,h⟩:=Z0 h;cases h;obtain⟨d,e⟩:=Z88 f b;have a:=jf a;refine⟨by rw[wds];omega,?_⟩
    rw[Zv,Zv,<-e,List.take_append,Z2W hT c,List.take_of_length_le (by rw[Z2W hT c];exact a)]
   | false =>
    rw[a]at h;simp only[jA]at h;split at h
    ·rename_i i x;obtain⟨b,d⟩:=Z88 f h;rw[Z5I hT]at d;exact⟨b,d⟩
    ·cases h
theorem Zbn {cs r:List (TV S)} {n:Nat} (h:Zib T cs n=some r):wds T r=n/\(dvs T cs).take n=dvs T r:=Z88 hT 400 h
theorem Z2O:∀(n:Nat) (cs:List (TV S)),dvs T (hdF T n cs)=dvs T cs
 | 0,cs=>by cases cs with
  | nil=>rfl
  | cons c cs=>cases c<;>rfl
 | n+1,[]=>rfl
 | n+1,c::cs=>by
  cases c<;>first|rfl|skip
  simp only[hdF];rw[Z2O n,Z5I hT]
theorem Z2j:∀(n:Nat) (cs:List (TV S)),dvs T (xpF T n cs)=dvs T cs
 | 0,cs=>by cases cs with
  | nil=>rfl
  | cons c cs=>cases c<;>rfl
 | n+1,[]=>rfl
 | n+1,c::cs=>by
  by_cases hc:∃i x,c=.stc i x
  ·obtain⟨i,x,rfl⟩:=hc;simp only[xpF];rw[Z2j n,Z5I hT]
  ·have:xpF T (n+1) (c::cs)=c::xpF T n cs:=by
    cases c<;>first|rfl|exact absurd ⟨_,_,rfl⟩ hc
   rw[this,Zv,Zv,Z2j n]
omit hT in
theorem YW:∀(cs:List DV) (off:Nat) (vs:List DV),off+vs.length<=cs.length->Ya cs off vs=cs.take off++vs++cs.drop (off+vs.length)
 | cs,off,[],_=>by
  cases cs<;>simp[Ya]
 | [],off,v::vs,h=>by simp at h
 | c::cs,0,v::vs,h=>by
  simp only[Ya,List.take_zero,List.nil_append,List.cons_append,Nat.zero_add,List.length_cons,List.drop_succ_cons];rw[YW cs 0 vs (by simp at h;omega)]
  simp
 | c::cs,n+1,v::vs,h=>by
  simp only[Ya,List.take_succ_cons,List.cons_append];rw[YW cs n (v::vs) (by simp at h⊢;omega)]
  rw[show n+1+(v::vs).length=(n+(v::vs).length)+1 by omega,List.drop_succ_cons]
theorem Z1a {cs vs r:List (TV S)} {off:Nat} (h:Z2T T cs off vs=some r):off+wds T vs<=wds T cs/\Ya (dvs T cs) off (dvs T vs)=dvs T r:=by
 unfold Z2T at h;obtain⟨a,f,h⟩:=Z0 h;obtain⟨b,d,h⟩:=Z0 h;cases h;obtain⟨i,e⟩:=Zbn hT f;obtain⟨g,c⟩:=Z1A hT d;refine⟨by omega,?_⟩
 rw[YW _ _ _ (by rw[Y1 hT,Y1 hT];omega),Z1Y,Z1Y,<-e,<-c,Y1 hT vs]
omit hT in
theorem Yz (v:TV S):cellsOf (dv T v)=dvs T (Y9 v):=by
 cases v<;>simp[dv,cellsOf,Y9,dvs]
theorem Z3U {ti:TI} {cs:List (TV S)} {off:Nat} {v:TV S} (h:Z9N T ti cs off=some v):YL ti (dvs T cs) off=some (dv T v)/\ZV v=false:=by
 unfold Z9N at h;obtain⟨r,f,h⟩:=Z0 h;obtain⟨g,a⟩:=Z1A hT f;unfold YL;cases ha:ti.isAgg with
 | true =>
  rw[ha]at h;simp only[jB]at h⊢;obtain⟨p,d,h⟩:=Z0 h;cases h;obtain⟨i,b⟩:=Zbn hT d;have e:ti.size<=wds T r:=by
   have:=congrArg List.length b;rw[List.length_take,Y1 hT,Y1 hT]at this;omega
  have:Nat.ble (off+ti.size) (dvs T cs).length=true:=by rw[Nat.ble_eq,Y1 hT];omega
  rw[this,a,b];simp[dv,ZV]
 | false =>
  rw[ha]at h;simp only[jA]at h⊢;rw[<-Z2O hT 10 r]at a;cases hr:hdF T 10 r with
  | nil=>rw[hr]at h;cases h
  | cons c r =>
   rw[hr]at h a;simp only at h;cases hc:ZV c with
   | true=>rw[hc]at h;cases h
   | false =>
    rw[hc]at h;cases h;refine⟨?_,hc⟩;have:(dvs T cs)[off]?=(List.drop off (dvs T cs))[0]? := by simp
    rw[this,a,Zv];cases v<;>simp[Y5,ZV]at hc⊢
omit hT in
theorem Z3f {t:Ty} {cs r:List (TV S)} {x:List (Val S t)} (h:Zax t cs=some (x,r)):dvs T cs=.sl (x.map (dcl T t))::dvs T r:=by
 unfold Zax at h;cases cs with
 | nil=>cases h
 | cons c cs =>
  simp only at h;obtain⟨xs,a,h⟩:=Z0 h;cases h;unfold Zjp at a;split at a
  ·cases a;simp[dvs,dv]
  ·split at a
   ·rename_i e;subst e;cases a;simp[dvs,dv]
   ·cases a
  ·cases a
omit hT in
theorem ZeX {cs r:List (TV S)} {x:Bool} (h:Z7U cs=some (x,r)):dvs T cs=[.bool x]++dvs T r:=by
 unfold Z7U at h;split at h
 ·cases h;simp[dvs,dv]
 ·cases h
omit hT in
theorem Y4 {k:IntKind} {cs r:List (TV S)} {x:Int} (h:Z17 k cs=some (x,r)):dvs T cs=[.int k x]++dvs T r:=by
 unfold Z17 at h;split at h
 ·obtain⟨a,h⟩:=Z3 h;cases h;have:=eq_of_beq a;subst this;simp[dvs,dv]
 ·cases h
omit hT in
theorem Z7V {cs r:List (TV S)} {x:ByteArray} (h:Z8v cs=some (x,r)):dvs T cs=[.str x]++dvs T r:=by
 unfold Z8v at h;split at h
 ·cases h;simp[dvs,dv]
 ·cases h
omit hT in
theorem Z90 {T0:TS S} (hc:∀i (x:S i),dvs T (T0.cells i x)=T.dcells i x) (i:Nat):∀(n:Nat) (cs:List (TV S)),dvs T (Z4G T0 i n cs)=dvs T cs
 | 0,cs=>by cases cs with
  | nil=>rfl
  | cons c cs=>cases c<;>rfl
 | n+1,[]=>rfl
 | n+1,c::cs=>by
  cases c<;>first|rfl|skip
  rename_i j x;simp only[Z4G];cases Nat.beq j i with
  | true=>rfl
  | false=>simp only[jA];rw[Z90 hc i n,Z1Y,hc];rfl
theorem ZaE (i:Nat):∀(n:Nat) (cs:List (TV S)),dvs T (Z4G T i n cs)=dvs T cs
 | 0,cs=>by cases cs with
  | nil=>rfl
  | cons c cs=>cases c<;>rfl
 | n+1,[]=>rfl
 | n+1,c::cs=>by
  cases c<;>first|rfl|skip
  rename_i j x;simp only[Z4G];cases Nat.beq j i with
  | true=>rfl
  | false=>simp only[jA];rw[ZaE i n,Z5I hT]
omit hT in
theorem Z8S {i:Nat} {f:List (TV S)->Option (S i×List (TV S))} (a:∀cs x r,f cs=some (x,r)->dvs T cs=T.dcells i x++dvs T r) {cs r:List (TV S)} {x:S i} (h:rdW i f cs=some (x,r)):dvs T cs=T.dcells i x++dvs T r:=by
 unfold rdW at h;split at h
 ·split at h
  ·rename_i e;subst e;cases h;simp[dvs]
  ·cases h
 ·exact a _ _ _ h
theorem Zj9 {t:Ty} {cs r:List (TV S)} {x:Val S t} (h:trd T t cs=some (x,r)):dvs T cs=dcl T t x++dvs T r:=by
 cases t with
 | bool =>
  simp only[trd,Z7U]at h;split at h
  ·cases h;simp[dvs,dv,dcl]
  ·cases h
 | int k =>
  simp only[trd,Z17]at h;split at h
  ·obtain⟨a,h⟩:=Z3 h;cases h;have:=eq_of_beq a;subst this;simp[dvs,dv,dcl]
  ·cases h
 | str =>
  simp only[trd,Z8v]at h;split at h
  ·cases h;simp[dvs,dv,dcl]
  ·cases h
 | sl t =>
  simp only[trd]at h;rw[Z3f h];rfl
 | arr n t =>
  simp only[trd,Zji]at h;split at h
  ·split at h
   ·rename_i e;obtain⟨a,h⟩:=Z3 h;cases h;have:=je a;subst this e;rw[Zv];rfl
   ·cases h
  ·cases h
 | st i =>
  simp only[trd]at h;rw[<-ZaE hT i 6 cs,Z8S (fun _ _ _ h=>hT.rd i _ _ _ h) h];rfl
theorem Z2x {t:Ty} {cs:List (TV S)} {x:Val S t} (h:Z7m T t cs=some x):dvs T cs=dcl T t x:=by
 unfold Z7m at h;obtain⟨⟨x',r⟩,a,h⟩:=Z0 h;cases r with
 | nil =>
  cases h;have:=Zj9 hT a;rw[this,Z8M,jo]
 | cons c r=>cases h
omit hT in
theorem Z99 {t:Ty} (x:Val S t) (h:YV t=false):dcl T t x=[Yr T t x]:=by
 cases t<;>first|rfl|cases h
theorem Z3p {t:Ty} {v:TV S} {x:Val S t} (h:Z63 T t v=some x):dv T v=Yr T t x:=by
 have Zf6:∀(c:TV S),YV t=false->Z7m T t [c]=some x->dvs T [c]=[dv T c]->dv T c=Yr T t x:=fun c b a hc=>by
  have d:=Z2x hT a;rw[hc,Z99 x b]at d;exact List.cons.inj d |>.1
 by_cases hag:∃cs,v=.agg cs
 ·obtain⟨cs,rfl⟩:=hag;simp only[Z63]at h;obtain⟨e,h⟩:=Z3 h;have d:=Z2x hT h;cases t<;>simp only[YV,jg]at e
  ·simp only[dv,Yr,d];rfl
  ·simp only[dv,Yr,d];rfl
 ·have a:(bif YV t then none else Z7m T t [v])=some x:=by
   unfold Z63 at h;split at h
   ·rename_i cs;exact absurd ⟨cs,rfl⟩ hag
   ·exact h
  cases b:YV t with
  | true=>rw[b]at a;cases a
  | false =>
   rw[b]at a;simp only[jA]at a
   by_cases hr:ZV v=true
   ·exfalso;cases v<;>simp only[ZV,jg]at hr
    all_goals
     unfold Z7m at a;obtain⟨q,e,_⟩:=Z0 a;cases t<;>simp[YV]at b<;>simp[trd,Z7U,Z17,Z8v,Zax,Zjp]at e
   ·refine Zf6 v b a ?_;rw[Zv,Z8M,jo];cases v<;>simp[Y5,ZV]at hr⊢
theorem Zh5 {v r:TV S} {n:Nat} (h:Zh4 T v n=some r):Z1d (dv T v) n=some (dv T r):=by
 cases v<;>simp only[Zh4,reduceCtorEq]at h
 ·cases h;simp[dv,Z1d]
 ·cases h;simp[dv,Z1d];omega
 ·cases h;simp[dv,Z1d]
 ·obtain⟨q,a,h⟩:=Z0 h;cases h;simp only[dv,Z1d,(Z1A hT a).2]
end
section
variable {T:TS S}
theorem ZeO {c:DV} (h:plain c=true):Zf c=true:=by cases c<;>simp[plain,Zf]at h⊢
theorem ZgC {c:DV} (n:Nat) (h:plain c=true):bdd n c=true:=by cases c<;>simp[plain,bdd]at h⊢
theorem ZgD {c:DV} (hh:Nat->Option Zb) (h:plain c=true):frz hh c=some c:=by cases c<;>simp[plain,frz,Zf]at h⊢
theorem ZeP {c:DV} (h:plain c=true):Zh c=[]:=by cases c<;>simp[plain,Zh]at h⊢
theorem ZgE {c:DV} (h:plain c=true):Zs c=[]:=by cases c<;>simp[plain,Zs]at h⊢
theorem ZeN {c:DV} (h:plain c=true):Zw c=true:=by cases c<;>simp[plain,Zw]at h⊢
theorem ZgF {c:DV} (n:Nat) (L:List (Option (Nat×Nat))) (h:plain c=true):ren n L c=some c:=by cases c<;>simp[plain,ren,bdd]at h⊢
theorem Z51:∀(a b:List DV),Zc (a++b)=(Zc a&&Zc b)
 | [],b=>by simp[Zc]
 | c::a,b=>by simp only[List.cons_append,Zc,Z51 a b,Bool.and_assoc]
theorem Z8i (n:Nat):∀(a b:List DV),Z1O n (a++b)=(Z1O n a&&Z1O n b)
 | [],b=>by simp[Z1O]
 | c::a,b=>by simp only[List.cons_append,Z1O,Z8i n a b,Bool.and_assoc]
theorem Z5k:∀(a b:List DV),Zi (a++b)=Zi a++Zi b
 | [],b=>by simp[Zi]
 | c::a,b=>by simp only[List.cons_append,Zi,Z5k a b,jj]
theorem Z5R:∀(a b:List DV),ZC (a++b)=ZC a++ZC b
 | [],b=>by simp[ZC]
 | c::a,b=>by simp only[List.cons_append,ZC,Z5R a b,jj]
theorem Z8q (h:Nat->Option Zb):∀(a b:List DV),Z1L h (a++b)=(Z1L h a).bind fun x=>(Z1L h b).bind fun y=>some (x++y)
 | [],b=>by simp[Z1L]
 | c::a,b=>by
  simp only[List.cons_append,Z1L,Z8q h a b];cases frz h c with
  | none=>rfl
  | some c'=>cases Z1L h a with
   | none=>rfl
   | some a'=>cases Z1L h b<;>simp
theorem Z8y (n:Nat) (L:List (Option (Nat×Nat))):∀(a b:List DV),Z2v n L (a++b)=(Z2v n L a).bind fun x=>(Z2v n L b).bind fun y=>some (x++y)
 | [],b=>by simp[Z2v]
 | c::a,b=>by
  simp only[List.cons_append,Z2v,Z8y n L a b];cases ren n L c with
  | none=>rfl
  | some c'=>cases Z2v n L a with
   | none=>rfl
   | some a'=>cases Z2v n L b<;>simp
theorem Z1G:∀{cs:List DV},cs.all plain=true->Zc cs=true
 | [],_=>rfl
 | c::cs,h=>by
  simp only[jt,jn]at h;simp only[Zc,ZeO h.1,Z1G h.2,ju]
theorem Z6o (n:Nat):∀{cs:List DV},cs.all plain=true->Z1O n cs=true
 | [],_=>rfl
 | c::cs,h=>by
  simp only[jt,jn]at h;simp only[Z1O,ZgC n h.1,Z6o n h.2,ju]
theorem Z6p (hh:Nat->Option Zb):∀{cs:List DV},cs.all plain=true->Z1L hh cs=some cs
 | [],_=>rfl
 | c::cs,h=>by
  simp only[jt,jn]at h;simp[Z1L,ZgD hh h.1,Z6p hh h.2]
theorem Z5e:∀{cs:List DV},cs.all plain=true->Zi cs=[]
 | [],_=>rfl
 | c::cs,h=>by
  simp only[jt,jn]at h;simp[Zi,ZeP h.1,Z5e h.2]
theorem Z6q:∀{cs:List DV},cs.all plain=true->ZC cs=[]
 | [],_=>rfl
 | c::cs,h=>by
  simp only[jt,jn]at h;simp[ZC,ZgE h.1,Z6q h.2]
theorem Z2u:∀{cs:List DV},cs.all plain=true->cs.all Zw=true
 | [],_=>rfl
 | c::cs,h=>by
  simp only[jt,jn]at h;simp[ZeN h.1,Z2u h.2]
theorem Z6r (n:Nat) (L:List (Option (Nat×Nat))):∀{cs:List DV},cs.all plain=true->Z2v n L cs=some cs
 | [],_=>rfl
 | c::cs,h=>by
  simp only[jt,jn]at h;simp[Z2v,ZgF n L h.1,Z6r n L h.2]
end
def dvO (T:TS S):Zk S->Zb
 | .cells t cs=>.cells t (dvs T cs)
 | .row e t xs p v=>.row e (xs.map (dcl T t)) p v
 | .map kt et m=>.map (m.map fun p=>(Yr T kt p.1,Yr T et p.2))
 | .siter s pos=>.siter s pos
 | .mit m n=>.mit m n []
 | .bag e t xs v=>.bag e (xs.map (dcl T t)) v
 | .loop fid b ps as bo bid ex _ _=>.loop fid (b.mapv (dv T)) ps as bo bid ex
end Go.Ab
namespace Go.Ab
variable {S:Nat->Type}
def dvr (T:TS S) (ρ:Nat->Option (TV S)):Nat->Option DV:=fun t=>(ρ t).map (dv T)
def dvh (T:TS S) (h:Nat->Option (Zk S)):Nat->Option Zb:=fun i=>(h i).map (dvO T)
def dvu (T:TS S) (u:List (Nat×Option (Zk S))):List (Nat×Option Zb):=u.map fun p=>(p.1,p.2.map (dvO T))
def ZY (T:TS S) (o:Zbu S):Out:=⟨o.val.map (dv T),dvu T o.upd⟩
theorem ZP {α β:Type} (f:α->β):∀(t:Tr α) (k:Nat),(t.mapv f).get k=(t.get k).map f
 | .leaf,k=>rfl
 | .node l v r,k=>by
  simp only[Tr.mapv,Tr.get];cases Nat.beq k 0 with
  | true=>rfl
  | false=>cases Nat.beq (k % 2) 1 with
   | true=>exact ZP f l _
   | false=>exact ZP f r _
theorem Z2s {α β:Type} (f:α->β) (v:Option α):∀(n:Nat) (t:Tr α) (k:Nat),(Tr.setAux n t k v).mapv f=Tr.setAux n (t.mapv f) k (v.map f)
 | 0,t,k=>rfl
 | n+1,.leaf,k=>by
  simp only[Tr.setAux,Tr.mapv];cases Nat.beq k 0 with
  | true=>rfl
  | false=>cases Nat.beq (k % 2) 1 with
   | true=>simp only[jB,jA,Tr.mapv,Z2s f v n .leaf];rfl
   | false=>simp only[jA,Tr.mapv,Z2s f v n .leaf];rfl
 | n+1,.node l x r,k=>by
  simp only[Tr.setAux,Tr.mapv];cases Nat.beq k 0 with
  | true=>rfl
  | false=>cases Nat.beq (k % 2) 1 with
   | true=>simp only[jB,jA,Tr.mapv,Z2s f v n l]
   | false=>simp only[jA,Tr.mapv,Z2s f v n r]
theorem Y6 {α β:Type} (f:α->β) (t:Tr α) (k:Nat) (v:Option α):(t.set k v).mapv f=(t.mapv f).set k (v.map f):=Z2s f v _ t k
theorem Zdm {α β:Type} (f:α->β) (l:Tr α) (v:Option α) (r:Tr α):(Tr.mkn l v r).mapv f=Tr.mkn (l.mapv f) (v.map f) (r.mapv f):=by
 unfold Tr.mkn;cases l<;>cases v<;>cases r<;>rfl
theorem Z7J {α β:Type} (f:α->β) (m:Nat):∀(t:Tr α) (a b:Nat),(t.filt m a b).mapv f=(t.mapv f).filt m a b
 | .leaf,a,b=>rfl
 | .node l v r,a,b=>by
  simp only[Tr.filt,Tr.mapv,Zdm,Z7J f m l,Z7J f m r];cases Nat.testBit m b<;>rfl
theorem Z6X {α β:Type} (f:α->β) (g:Nat->α->Option (Option α)) (g':Nat->β->Option (Option β)) (c:∀k x y,g k x=some y->g' k (f x)=some (y.map f)) :
  ∀(t:Tr α) (a b:Nat) (r:Tr α),t.tm g a b=some r->(t.mapv f).tm g' a b=some (r.mapv f)
 | .leaf,a,b,r,h=>by simp only[Tr.tm,jh]at h;subst h;rfl
 | .node l v q,a,b,r,h=>by
  simp only[Tr.tm]at h;obtain⟨l',e,h⟩:=Z0 h;obtain⟨v',d,h⟩:=Z0 h;obtain⟨q',i,h⟩:=Z0 h;cases h;simp only[Tr.mapv,Tr.tm,Z6X f g g' c l _ _ _ e,Z6X f g g' c q _ _ _ i,jm,Zdm];cases v with
  | none=>cases d;rfl
  | some x =>
   simp only[jq];rw[c _ _ _ d];rfl
section
variable (T:TS S)
theorem ZhN (v:Value):ZfN v=(ZeL (S:=S) v).map (dv T):=by
 unfold ZfN ZeL;split<;>simp[dv]
theorem ZM (ρ:Nat->Option (TV S)) (x:Operand):ZU (dvr T ρ) x=(ZR ρ x).map (dv T):=by
 cases x with
 | tmp t=>rfl
 | const v=>exact ZhN T v
 | func f=>simp[ZU,ZR,dv,dvl]
 | global g=>rfl
theorem Z3d (ρ:Nat->Option (TV S)):∀xs,Z1n (dvr T ρ) xs=(Z2D ρ xs).map (dvl T)
 | []=>by simp[Z1n,Z2D,dvl]
 | x::xs=>by
  simp only[Z1n,Z2D,ZM,Z3d ρ xs];cases ZR ρ x with
  | none=>rfl
  | some v=>cases Z2D ρ xs with
   | none=>rfl
   | some vs=>simp[dvl]
theorem ZjA (ρ:Nat->Option (TV S)) (x:Option Operand):Z2e (dvr T ρ) x=(ZiY ρ x).map (Option.map (dv T)):=by
 cases x with
 | none=>rfl
 | some x =>
  simp only[Z2e,ZiY,ZM];cases ZR ρ x<;>rfl
end
def Z54 (pid:Nat):DV->Bool
 | .nilif=>true
 | .iface _ (.agg [.ptr p 0])=>Nat.beq p pid
 | _=>false
theorem ZcR (pid:Nat):∀(ts:List TypeId) (m:Nat),Z54 pid (enD pid ts m)=true
 | ts,0=>by cases ts<;>rfl
 | [],m+1=>rfl
 | t::ts,1=>by simp[enD,Z54]
 | t::ts,m+2=>by simp only[enD];exact ZcR pid ts (m+1)
theorem YA (ts:List TypeId) (pid n:Nat) (a:Nat->Nat):(eal ts pid n a).all (Z54 pid)=true:=by
 rw[List.all_eq_true];intro c hc;obtain⟨j,_,rfl⟩:=List.mem_map.1 hc;exact ZcR pid ts _
theorem Z19 (pid n:Nat):(List.replicate n DV.nilif).all (Z54 pid)=true:=by
 rw[List.all_eq_true];intro c hc;rw[(List.mem_replicate.1 hc).2];rfl
theorem Z1v {pid:Nat} {d:DV} (h:Z54 pid d=true):d=.nilif\/∃t,d=.iface t (.agg [.ptr pid 0]):=by
 unfold Z54 at h;split at h
 ·exact .inl rfl
 ·rw[je h];exact .inr ⟨_,rfl⟩
 ·cases h
theorem Z6K {pid:Nat}:∀{l:List DV},l.all (Z54 pid)=true->Zi l=[]
 | [],_=>rfl
 | d::l,h=>by
  simp only[jt,jn]at h;rcases Z1v h.1 with rfl|⟨t,rfl⟩<;>simp[Zi,Zh,Z6K h.2]
theorem Z9f (h':Nat->Option Zb) {pid:Nat}:∀{l:List DV},l.all (Z54 pid)=true->Z1L h' l=bif Zc l then some l else none
 | [],_=>rfl
 | d::l,h=>by
  simp only[jt,jn]at h;rcases Z1v h.1 with rfl|⟨t,rfl⟩
  ·simp only[Z1L,frz,Zf,Zc,jB,jm,Z9f h' h.2,Bool.true_and];cases Zc l<;>rfl
  ·simp[Z1L,frz,Zf,Zc]
theorem Z78 (n:Nat):Zc (List.replicate n DV.nilif)=true:=by
 induction n with
 | zero=>rfl
 | succ n ih=>rw[List.replicate_succ];simp[Zc,Zf,ih]
theorem ZfW (n:Nat):ZC (List.replicate n DV.nilif)=[]:=by
 induction n with
 | zero=>rfl
 | succ n ih=>rw[List.replicate_succ];simp[ZC,Zs,ih]
theorem Zet (n:Nat) (L:List (Option (Nat×Nat))) {pid:Nat} (a:Nat.blt pid n=true):∀{l:List DV},l.all (Z54 pid)=true->Z2v n L l=some l
 | [],_=>rfl
 | d::l,h=>by
  simp only[jt,jn]at h;rcases Z1v h.1 with rfl|⟨t,rfl⟩<;>simp[Z2v,ren,bdd,Z1O,a,Zet n L a h.2]
theorem ZfX (n:Nat) (L:List (Option (Nat×Nat))) (m:Nat):Z2v n L (List.replicate m DV.nilif)=some (List.replicate m DV.nilif):=by
 induction m with
 | zero=>rfl
 | succ m ih=>rw[List.replicate_succ];simp[Z2v,ren,bdd,ih]
theorem Zhn (n:Nat) {pid:Nat} (a:Nat.blt pid n=true):∀{l:List DV},l.all (Z54 pid)=true->Z1O n l=true
 | [],_=>rfl
 | d::l,h=>by
  simp only[jt,jn]at h;rcases Z1v h.1 with rfl|⟨t,rfl⟩<;>simp[Z1O,bdd,a,Zhn n a h.2]
theorem Zj2 (n m:Nat):Z1O n (List.replicate m DV.nilif)=true:=by
 induction m with
 | zero=>rfl
 | succ m ih=>rw[List.replicate_succ];simp[Z1O,bdd,ih]
section
variable {T:TS S} (hT:TOk T)
include hT
mutual
theorem Z7C:∀v:TV S,Zf (dv T v)=Zp v
 | .bool _=>rfl | .int _ _=>rfl | .str _=>rfl | .nilp=>rfl | .nils=>rfl
 | .sl0=>by simp[dv,Zf,Zp] | .sl _ _=>by simp[dv,Zf,Zp]
 | .arr _ _ _=>by simp[dv,Zf,Zp]
 | .stc _ _=>by simp[dv,Zf,Zp]
 | .narr _ _=>by simp[dv,Zf,Zp,Z78]
 | .earr _ _ _ _=>by simp[dv,Zf,Zp]
 | .ptr _ _=>by simp[dv,Zf,Zp] | .ap _ _ _ _ _=>by simp[dv,Zf,Zp] | .rptr _ _ _ _ _=>by simp[dv,Zf,Zp]
 | .pub _=>by simp[dv,Zf,Zp]
 | .rv _ _ _ _ _=>by simp[dv,Zf,Zp] | .slen _=>by simp[dv,Zf,Zp]
 | .rs _ _=>by simp[dv,Zf,Zp] | .map _=>by simp[dv,Zf,Zp] | .iter _=>by simp[dv,Zf,Zp] | .yld _=>by simp[dv,Zf,Zp]
 | .nilfn=>by simp[dv,Zf,Zp] | .nilmap=>by simp[dv,Zf,Zp] | .nilif=>by simp[dv,Zf,Zp]
 | .agg cs=>by simp only[dv,Zf,Zp];exact Z3v cs
 | .tup cs=>by simp only[dv,Zf,Zp];exact Z1E cs
 | .fn _ a c=>by simp only[dv,Zf,Zp,Z1E a,Z1E c]
 | .iface _ v=>by simp only[dv,Zf,Zp];exact Z7C v
theorem Z3v:∀cs:List (TV S),Zc (dvs T cs)=Yo cs
 | []=>by simp[dvs,Zc,Yo]
 | c::cs=>by
  rw[Zv,Z51,Yo,Z3v cs];have h:=Z7C c;cases c<;>simp only[Y5,Zc,Bool.and_true]<;>first|rw[h]|skip
  ·rw[Z1G (Yq hT _ _ _)];rfl
  ·rw[Z1G (hT.plain _ _)];rfl
  ·rfl
  ·rw[Z78];rfl
theorem Z1E:∀cs:List (TV S),Zc (dvl T cs)=Yo cs
 | []=>by simp[dvl,Zc,Yo]
 | c::cs=>by simp only[dvl,Zc,Yo,Z7C c,Z1E cs]
end
mutual
theorem Z1X (n:Nat):∀v:TV S,Zas n v=true->bdd n (dv T v)=true
 | .bool _,_=>rfl | .int _ _,_=>rfl | .str _,_=>rfl | .nilp,_=>rfl | .nils,_=>rfl
 | .sl0,_=>by simp[dv,bdd] | .sl _ _,_=>by simp[dv,bdd]
 | .arr _ _ _,_=>by simp[dv,bdd]
 | .stc _ _,_=>by simp[dv,bdd]
 | .narr _ _,_=>by simp only[dv,bdd];exact Zj2 n _
 | .earr _ _ _ _,h=>by simp only[dv,bdd];exact Zhn n h (YA _ _ _ _)
 | .ptr _ _,h=>h | .ap _ _ _ _ _,h=>h | .rptr _ _ _ _ _,h=>h
 | .rv _ _ _ _ _,h=>h | .slen _,_=>by simp[dv,bdd]
 | .rs _ _,h=>h | .map _,h=>h | .iter _,h=>h | .yld _,h=>h
 | .nilfn,_=>by simp[dv,bdd] | .nilmap,_=>by simp[dv,bdd] | .nilif,_=>by simp[dv,bdd]
 | .pub cs,h=>by simp only[dv,bdd,Zas]at h⊢;exact Z95 n cs h
 | .agg cs,h=>by simp only[dv,bdd,Zas]at h⊢;exact Z95 n cs h
 | .tup cs,h=>by simp only[dv,bdd,Zas]at h⊢;exact Z6B n cs h
 | .fn _ a c,h=>by
  simp only[dv,bdd,Zas,jn]at h⊢;exact⟨Z6B n a h.1,Z6B n c h.2⟩
 | .iface _ v,h=>by simp only[dv,bdd,Zas]at h⊢;exact Z1X n v h
theorem Z95 (n:Nat):∀cs:List (TV S),Z5N n cs=true->Z1O n (dvs T cs)=true
 | [],_=>by simp[dvs,Z1O]
 | c::cs,h=>by
  simp only[Z5N,jn]at h;rw[Zv,Z8i,Z95 n cs h.2,Bool.and_true];have hc:=Z1X n c h.1;cases c<;>simp only[Y5,Z1O,Bool.and_true]<;>first|exact hc|skip
  ·exact Z6o n (Yq hT _ _ _)
  ·exact Z6o n (hT.plain _ _)
theorem Z6B (n:Nat):∀cs:List (TV S),Z5N n cs=true->Z1O n (dvl T cs)=true
 | [],_=>by simp[dvl,Z1O]
 | c::cs,h=>by
  simp only[Z5N,jn]at h;simp only[dvl,Z1O,Z1X n c h.1,Z6B n cs h.2,ju]
end
mutual
theorem Z7f:∀v:TV S,Zh (dv T v)=ZX v
 | .bool _=>rfl | .int _ _=>rfl | .str _=>rfl | .nilp=>rfl | .nils=>rfl
 | .sl0=>by simp[dv,Zh,ZX] | .sl _ _=>by simp[dv,Zh,ZX]
 | .arr _ _ _=>by simp[dv,Zh,ZX]
 | .stc _ _=>by simp[dv,Zh,ZX]
 | .narr _ _=>by simp only[dv,Zh,ZX];exact Z6K (Z19 0 _)
 | .earr _ _ _ _=>by simp only[dv,Zh,ZX];exact Z6K (YA _ _ _ _)
 | .ptr _ _=>by simp[dv,Zh,ZX] | .ap _ _ _ _ _=>by simp[dv,Zh,ZX] | .rptr _ _ _ _ _=>by simp[dv,Zh,ZX]
 | .pub _=>by simp[dv,Zh,ZX]
 | .rv _ _ _ _ _=>by simp[dv,Zh,ZX] | .slen _=>by simp[dv,Zh,ZX]
 | .rs _ _=>by simp[dv,Zh,ZX] | .map _=>by simp[dv,Zh,ZX] | .iter _=>by simp[dv,Zh,ZX] | .yld _=>by simp[dv,Zh,ZX]
 | .nilfn=>by simp[dv,Zh,ZX] | .nilmap=>by simp[dv,Zh,ZX] | .nilif=>by simp[dv,Zh,ZX]
 | .agg cs=>by simp only[dv,Zh,ZX];exact ZdM cs
 | .tup cs=>by simp only[dv,Zh,ZX];exact Z43 cs
 | .fn _ a c=>by simp[dv,Zh,ZX]
 | .iface _ v=>by simp only[dv,Zh,ZX];exact Z7f v
theorem ZdM:∀cs:List (TV S),Zi (dvs T cs)=Yp cs
 | []=>by simp[dvs,Zi,Yp]
 | c::cs=>by
  rw[Zv,Z5k,Yp,ZdM cs];have h:=Z7f c;cases c<;>simp only[Y5,Zi,jo]<;>first|rw[h]|skip
  ·rw[Z5e (Yq hT _ _ _)];rfl
  ·rw[Z5e (hT.plain _ _)];rfl
  ·rw[Z6K (YA _ _ _ _)];rfl
  ·rw[Z6K (Z19 0 _)];rfl
theorem Z43:∀cs:List (TV S),Zi (dvl T cs)=Yp cs
 | []=>by simp[dvl,Zi,Yp]
 | c::cs=>by simp only[dvl,Zi,Yp,Z7f c,Z43 cs]
end
mutual
theorem ZbN:∀v:TV S,Zs (dv T v)=Z21 v
 | .bool _=>rfl | .int _ _=>rfl | .str _=>rfl | .nilp=>rfl | .nils=>rfl
 | .sl0=>by simp[dv,Zs,Z21] | .sl _ _=>by simp[dv,Zs,Z21]
 | .arr _ _ _=>by simp[dv,Zs,Z21]
 | .stc _ _=>by simp[dv,Zs,Z21]
 | .narr _ _=>by simp[dv,Zs,Z21,ZfW]
 | .earr _ _ _ _=>by simp[dv,Zs,Z21]
 | .ptr _ _=>by simp[dv,Zs,Z21] | .ap _ _ _ _ _=>by simp[dv,Zs,Z21] | .rptr _ _ _ _ _=>by simp[dv,Zs,Z21]
 | .pub _=>by simp[dv,Zs,Z21]
 | .rv _ _ _ _ _=>by simp[dv,Zs,Z21] | .slen _=>by simp[dv,Zs,Z21]
 | .rs _ _=>by simp[dv,Zs,Z21] | .map _=>by simp[dv,Zs,Z21] | .iter _=>by simp[dv,Zs,Z21] | .yld _=>by simp[dv,Zs,Z21]
 | .nilfn=>by simp[dv,Zs,Z21] | .nilmap=>by simp[dv,Zs,Z21] | .nilif=>by simp[dv,Zs,Z21]
 | .agg cs=>by simp only[dv,Zs,Z21];exact ZfD cs
 | .tup cs=>by simp only[dv,Zs,Z21];exact Z8P cs
 | .fn _ a c=>by simp only[dv,Zs,Z21,Z8P a,Z8P c]
 | .iface _ v=>by simp only[dv,Zs,Z21];exact ZbN v
theorem ZfD:∀cs:List (TV S),ZC (dvs T cs)=Z52 cs
 | []=>by simp[dvs,ZC,Z52]
 | c::cs=>by
  rw[Zv,Z5R,Z52,ZfD cs];have h:=ZbN c;cases c<;>simp only[Y5,ZC,jo]<;>first|rw[h]|skip
  ·rw[Z6q (Yq hT _ _ _)];rfl
  ·rw[Z6q (hT.plain _ _)];rfl
  ·rfl
  ·rw[ZfW];rfl
theorem Z8P:∀cs:List (TV S),ZC (dvl T cs)=Z52 cs
 | []=>by simp[dvl,ZC,Z52]
 | c::cs=>by simp only[dvl,ZC,Z52,ZbN c,Z8P cs]
end
mutual
theorem Z6i (h:Nat->Option (Zk S)):∀v:TV S,frz (dvh T h) (dv T v)=(YD h v).map (dv T)
 | .bool _=>by simp[dv,frz,YD,Zf,Zp] | .int _ _=>by simp[dv,frz,YD,Zf,Zp] | .str _=>by simp[dv,frz,YD,Zf,Zp]
 | .nilp=>by simp[dv,frz,YD,Zf,Zp] | .nils=>by simp[dv,frz,YD]
 | .sl0=>by simp[dv,frz,YD,Zf,Zp] | .sl _ _=>by simp[dv,frz,YD,Zf,Zp]
 | .arr _ _ _=>by simp[dv,frz,YD,Zf,Zp]
 | .stc _ _=>by simp[dv,frz,YD,Zf,Zp]
 | .narr _ _=>by simp[dv,frz,YD,Zp,Z9f _ (Z19 0 _),Z78]
 | .earr ts pid n a=>by
  simp only[dv,frz,YD,Zp,Z9f _ (YA _ _ _ _)];cases Zc (eal ts pid n a)<;>simp[dv]
 | .ptr _ _=>by simp[dv,frz,YD,Zf,Zp] | .ap _ _ _ _ _=>by simp[dv,frz,YD,Zf,Zp] | .rptr _ _ _ _ _=>by simp[dv,frz,YD,Zf,Zp]
 | .pub _=>by simp[dv,frz,YD,Zf,Zp]
 | .rs id v=>by
  simp only[dv,frz,YD,dvh];cases h id with
  | none=>rfl
  | some o =>
   cases o<;>simp only[jq,jm,dvO,jp];rename_i e t xs p u;cases Nat.beq u v<;>simp[dv]
 | .rv _ _ _ _ _=>by simp[dv,frz,YD,Zf,Zp] | .slen _=>by simp[dv,frz,YD,Zf,Zp]
 | .map _=>by simp[dv,frz,YD,Zf,Zp] | .iter _=>by simp[dv,frz,YD,Zf,Zp] | .yld _=>by simp[dv,frz,YD,Zf,Zp]
 | .nilfn=>by simp[dv,frz,YD,Zf,Zp] | .nilmap=>by simp[dv,frz,YD,Zf,Zp] | .nilif=>by simp[dv,frz,YD,Zf,Zp]
 | .agg cs=>by
  simp only[dv,frz,YD,Z9v h cs];cases Z1W h cs<;>simp[dv]
 | .tup cs=>by
  simp only[dv,frz,YD,Zd7 h cs];cases Z1W h cs<;>simp[dv]
 | .fn f a c=>by
  simp only[dv,frz,YD,Zf,Zp,Z1E hT a,Z1E hT c];cases Yo a&&Yo c<;>simp[dv]
 | .iface t v=>by
  simp only[dv,frz,YD,Z6i h v];cases YD h v<;>simp[dv]
theorem Z9v (h:Nat->Option (Zk S)):∀cs:List (TV S),Z1L (dvh T h) (dvs T cs)=(Z1W h cs).map (dvs T)
 | []=>by simp[dvs,Z1L,Z1W]
 | c::cs=>by
  rw[Zv,Z8q,Z9v h cs,Z1W];have hc:=Z6i h c
  by_cases ha:ZV c=true
  ·cases c<;>simp only[ZV,jg]at ha
   ·simp only[Y5,YD,Zp,jB,jm];rw[Z6p _ (Yq hT _ _ _)];cases Z1W h cs<;>simp[dvs]
   ·simp only[Y5,YD,Zp,jB,jm];rw[Z6p _ (hT.plain _ _)];cases Z1W h cs<;>simp[dvs]
   ·rename_i ts pid n a;simp only[Y5,YD,Zp];rw[Z9f _ (YA _ _ _ _)];cases Zc (eal ts pid n a)
    ·rfl
    ·cases Z1W h cs<;>simp[dvs]
   ·simp only[Y5,YD,Zp,jB,jm];rw[Z9f _ (Z19 0 _),Z78];cases Z1W h cs<;>simp[dvs]
  ·have f:Y5 T c=[dv T c]:=by cases c<;>simp[Y5,ZV]at ha⊢
   rw[f];simp only[Z1L,hc];cases b:YD h c with
   | none=>rfl
   | some c' =>
    have d:ZV c'=false:=by
     cases c<;>simp[ZV]at ha<;>simp only[YD,Zp,jB,jA,reduceCtorEq,jh]at b<;>first|(subst b;rfl)|skip
     ·cases ho:h _ with
      | none=>rw[ho]at b;cases b
      | some o =>
       rw[ho]at b;cases o<;>simp only[jm,reduceCtorEq]at b;obtain⟨_,b⟩:=Z3 b;cases b;rfl
     ·obtain⟨_,_,b⟩:=Z0 b;cases b;rfl
     ·obtain⟨_,_,b⟩:=Z0 b;cases b;rfl
     ·obtain⟨_,b⟩:=Z3 b;cases b;rfl
     ·obtain⟨_,_,b⟩:=Z0 b;cases b;rfl
    have e:∀l,dvs T (c'::l)=dv T c'::dvs T l:=fun l=>by
     rw[Zv];cases c'<;>simp[Y5,ZV]at d⊢
    cases Z1W h cs<;>simp[e]
theorem Zd7 (h:Nat->Option (Zk S)):∀cs:List (TV S),Z1L (dvh T h) (dvl T cs)=(Z1W h cs).map (dvl T)
 | []=>by simp[dvl,Z1L,Z1W]
 | c::cs=>by
  simp only[dvl,Z1L,Z1W,Z6i h c,Zd7 h cs];cases YD h c with
  | none=>rfl
  | some c'=>cases Z1W h cs<;>simp[dvl]
end
theorem ZiG (E:Env) (h:Nat->Option (Zk S)) (v:TV S):Z9s E (dvh T h) (dv T v)=(Zd5 E h v).map (dv T):=by
 cases v with
 | rv id ver i n e =>
  simp only[dv,Z9s,Zd5,dvh];cases h id with
  | none=>rfl
  | some o =>
   cases o<;>simp only[jq,jm,dvO,jp];rename_i t te xs p u;cases Nat.beq u ver&&Nat.beq (match E.ty t with|some ti=>ti.size|none=>0) e<;>simp[dv,List.map_drop,List.map_take]
 | _=>first|exact Z6i hT h _|(simp only[dv,Z9s,Zd5];exact Z6i hT h _)
theorem Z7A (E:Env) (h:Nat->Option (Zk S)):∀cs:List (TV S),Z3S E (dvh T h) (dvl T cs)=(Z7z E h cs).map (dvl T)
 | []=>by simp[dvl,Z3S,Z7z]
 | c::cs=>by
  simp only[dvl,Z3S,Z7z,ZiG hT E h c,Z7A E h cs];cases Zd5 E h c with
  | none=>rfl
  | some c'=>cases Z7z E h cs<;>simp[dvl]
omit hT in
theorem Z93:∀cs:List (TV S),(dvl T cs).any Zhv=cs.any ZfE
 | []=>by simp[dvl]
 | c::cs=>by
  simp only[dvl,List.any_cons,Z93 cs];cases c<;>simp[dv,Zhv,ZfE]
omit hT in
mutual
theorem Zgb:∀{v v':TV S},Zga v=some v'->Yv (dv T v)=some (dv T v')
 | .bool _,_,h=>by cases h;simp[dv,Yv]
 | .int _ _,_,h=>by cases h;simp[dv,Yv]
 | .str _,_,h=>by cases h;simp[dv,Yv]
 | .sl0,_,h=>by cases h;simp[dv,Yv]
 | .sl _ _,_,h=>by cases h;simp[dv,Yv]
 | .tup vs,_,h=>by
  simp only[Zga]at h;obtain⟨vs',a,h⟩:=Z0 h;cases h;simp only[dv,Yv,Zea a,jm]
theorem Zea:∀{vs vs':List (TV S)},Zcy vs=some vs'->Z5r (dvl T vs)=some (dvl T vs')
 | [],_,h=>by cases h;simp[dvl,Z5r]
 | c::cs,_,h=>by
  simp only[Zcy]at h;obtain⟨c',a,h⟩:=Z0 h;obtain⟨cs',b,h⟩:=Z0 h;cases h;simp only[dvl,Z5r,Zgb a,Zea b,jm]
end
mutual
theorem Zcd (n:Nat) (L:List (Option (Nat×Nat))):∀(v v':TV S),Z3h n L v=some v'->ren n L (dv T v)=some (dv T v')
 | .rs id v,v',h=>by
  simp only[dv,ren,Z3h]at h⊢;cases hj:Z5P id v 0 L with
  | some j=>rw[hj]at h;cases h;rfl
  | none =>
   rw[hj]at h;obtain⟨d,h⟩:=Z3 h;cases h;simp only[d,jB];rfl
 | .agg cs,v',h=>by
  simp only[Z3h]at h;obtain⟨cs',d,h⟩:=Z0 h;cases h;simp only[dv,ren,Z9V n L cs cs' d,jm]
 | .tup cs,v',h=>by
  simp only[Z3h]at h;obtain⟨cs',d,h⟩:=Z0 h;cases h;simp only[dv,ren,ZdB n L cs cs' d,jm]
 | .narr ts m,v',h=>by
  simp only[Z3h]at h;obtain⟨_,h⟩:=Z3 h;cases h;simp only[dv,ren,ZfX n L m,jm]
 | .earr ts pid m a,v',h=>by
  simp only[Z3h]at h;obtain⟨d,h⟩:=Z3 h;cases h;simp only[dv,ren,Zet n L d (YA _ _ _ _),jm]
 | .bool _,v',h=>by cases h;simp[dv,ren,bdd] | .int _ _,v',h=>by cases h;simp[dv,ren,bdd] | .str _,v',h=>by cases h;simp[dv,ren,bdd]
 | .nilp,v',h=>by cases h;simp[dv,ren,bdd] | .nils,v',h=>by cases h;simp[dv,ren,bdd]
 | .sl0,v',h=>by cases h;simp[dv,ren,bdd] | .sl _ _,v',h=>by cases h;simp[dv,ren,bdd]
 | .arr _ _ _,v',h=>by cases h;simp[dv,ren,bdd]
 | .stc _ _,v',h=>by cases h;simp[dv,ren,bdd]
 | .nilfn,v',h=>by cases h;simp[dv,ren,bdd] | .nilmap,v',h=>by cases h;simp[dv,ren,bdd] | .nilif,v',h=>by cases h;simp[dv,ren,bdd]
 | .ptr i o,v',h=>by
  simp only[Z3h]at h;obtain⟨d,h⟩:=Z3 h;cases h;have:=Z1X hT n (.ptr i o) d;simp only[dv,ren]at this⊢;rw[this];rfl
 | .ap i b j e o,v',h=>by
  simp only[Z3h]at h;obtain⟨d,h⟩:=Z3 h;cases h;have:=Z1X hT n (.ap i b j e o) d;simp only[dv,ren]at this⊢;rw[this];rfl
 | .rptr i w j e o,v',h=>by
  simp only[Z3h]at h;obtain⟨d,h⟩:=Z3 h;cases h;have:=Z1X hT n (.rptr i w j e o) d;simp only[dv,ren]at this⊢;rw[this];rfl
 | .rv i w j m e,v',h=>by
  simp only[Z3h]at h;obtain⟨d,h⟩:=Z3 h;cases h;have:=Z1X hT n (.rv i w j m e) d;simp only[dv,ren]at this⊢;rw[this];rfl
 | .slen _,v',h=>by cases h;simp[dv,ren,bdd]
 | .pub cs,v',h=>by
  simp only[Z3h]at h;obtain⟨d,h⟩:=Z3 h;cases h;have:=Z1X hT n (.pub cs) d;simp only[dv,ren]at this⊢;rw[this];rfl
 | .map i,v',h=>by
  simp only[Z3h]at h;obtain⟨d,h⟩:=Z3 h;cases h;have:=Z1X hT n (.map i) d;simp only[dv,ren]at this⊢;rw[this];rfl
 | .iter i,v',h=>by
  simp only[Z3h]at h;obtain⟨d,h⟩:=Z3 h;cases h;have:=Z1X hT n (.iter i) d;simp only[dv,ren]at this⊢;rw[this];rfl
 | .yld i,v',h=>by
  simp only[Z3h]at h;obtain⟨d,h⟩:=Z3 h;cases h;have:=Z1X hT n (.yld i) d;simp only[dv,ren]at this⊢;rw[this];rfl
 | .fn f a c,v',h=>by
  simp only[Z3h]at h;obtain⟨d,h⟩:=Z3 h;cases h;have:=Z1X hT n (.fn f a c) d;simp only[dv,ren]at this⊢;rw[this];rfl
 | .iface t v,v',h=>by
  simp only[Z3h]at h;obtain⟨d,h⟩:=Z3 h;cases h;have:=Z1X hT n (.iface t v) d;simp only[dv,ren]at this⊢;rw[this];rfl
theorem Z9V (n:Nat) (L:List (Option (Nat×Nat))):∀(cs cs':List (TV S)),Z8x n L cs=some cs'->Z2v n L (dvs T cs)=some (dvs T cs')
 | [],cs',h=>by cases h;simp[dvs,Z2v]
 | c::cs,r,h=>by
  simp only[Z8x]at h;obtain⟨c',a,h⟩:=Z0 h;obtain⟨cs',e,h⟩:=Z0 h;cases h;rw[Zv,Z8y,Z9V n L cs cs' e,Zv];have hc:=Zcd n L c c' a
  by_cases ha:ZV c=true
  ·cases c<;>simp only[ZV,jg]at ha
   ·cases a;simp only[Y5,jm];rw[Z6r n L (Yq hT _ _ _)];rfl
   ·cases a;simp only[Y5,jm];rw[Z6r n L (hT.plain _ _)];rfl
   ·simp only[Z3h]at a;obtain⟨d,a⟩:=Z3 a;cases a;simp only[Y5,jm];rw[Zet n L d (YA _ _ _ _)];rfl
   ·simp only[Z3h]at a;obtain⟨d,a⟩:=Z3 a;cases a;simp only[Y5,jm];rw[ZfX n L];rfl
  ·have e1:Y5 T c=[dv T c]:=by cases c<;>simp[Y5,ZV]at ha⊢
   have b:ZV c'=false:=by
    cases c<;>simp[ZV]at ha<;>simp only[Z3h,Zas,jB,jh]at a<;>first|(subst a;rfl)|(obtain⟨_,a⟩:=Z3 a;cases a;rfl)|(obtain⟨_,_,a⟩:=Z0 a;cases a;rfl)|skip
    rename_i id v;cases hj:Z5P id v 0 L with
    | some j=>rw[hj]at a;cases a;rfl
    | none=>rw[hj]at a;obtain⟨_,a⟩:=Z3 a;cases a;rfl
   have e2:Y5 T c'=[dv T c']:=by cases c'<;>simp[Y5,ZV]at b⊢
   rw[e1,e2];simp only[Z2v,hc,jm]
theorem ZdB (n:Nat) (L:List (Option (Nat×Nat))):∀(cs cs':List (TV S)),Z8x n L cs=some cs'->Z2v n L (dvl T cs)=some (dvl T cs')
 | [],cs',h=>by cases h;simp[dvl,Z2v]
 | c::cs,r,h=>by
  simp only[Z8x]at h;obtain⟨c',b,h⟩:=Z0 h;obtain⟨cs',a,h⟩:=Z0 h;cases h;simp only[dvl,Z2v,Zcd n L c c' b,ZdB n L cs cs' a,jm]
end
omit hT in
theorem Z7i (h:Nat->Option (Zk S)):∀is,Zo (dvh T h) is=dvu T (Z61 h is)
 | []=>rfl
 | i::is=>by
  simp only[Zo,Z61,Z7i h is,dvh,dvu,List.map_append];cases h i with
  | none=>rfl
  | some o =>
   cases o with
   | row e t xs p u=>simp only[jq,dvO];cases Nat.beq p 1<;>simp[dvO]
   | _=>simp[dvO]
end
end Go.Ab
namespace Go.Ab
variable {S:Nat->Type} {R:Type}
def ZeA:Option (Zk S)->Bool
 | some (.loop ..)=>true
 | _=>false
def Z65 (u:List (Nat×Option (Zk S))):Prop:=∀p∈u,ZeA p.2=false
theorem ZN:Z65 (S:=S) []:=fun _ h=>by cases h
theorem ZQ {i:Nat} {x:Option (Zk S)} {u:List (Nat×Option (Zk S))} (b:ZeA x=false) (h:Z65 u):Z65 ((i,x)::u):=fun p a=>by
 rcases jv.1 a with e|a
 ·subst e;exact b
 ·exact h p a
theorem Z2t (h:Nat->Option (Zk S)):∀is,Z65 (Z61 h is)
 | []=>ZN
 | i::is=>fun p a=>by
  simp only[Z61,List.mem_append]at a;rcases a with a|a
  ·cases hi:h i with
   | none=>rw[hi]at a;simp at a
   | some o =>
    rw[hi]at a;cases o with
    | row e t xs p1 u =>
     simp only at a;cases hb:Nat.beq p1 1 with
     | true=>rw[hb]at a;cases a
     | false=>rw[hb]at a;simp only[jA,List.mem_singleton]at a;subst a;rfl
    | _=>cases a
  ·exact Z2t h is p a
def Sim (T:TS S) (e:Option Out) (k:Z2k S R) (r:R):Prop:=∃o:Zbu S,e=some (ZY T o)/\Z65 o.upd/\k o=some r
theorem Zr {T:TS S} {k:Z2k S R} {r:R} {v:TV S} {e:Option Out} (h:ZO v k=some r) (a:e=ret (dv T v)):Sim T e k r:=⟨⟨some v,[]⟩,by rw[a];rfl,ZN,h⟩
theorem Z1S:∀{x y x' y':List DV},Zd x y=true->Zd (x++x') (y++y')=Zd x' y'
 | [],[],_,_,_=>rfl
 | [],_::_,_,_,h=>by simp[Zd]at h
 | a::x,[],_,_,h=>by cases a<;>simp[Zd]at h
 | a::x,b::y,x',y',h=>by
  cases a<;>cases b<;>simp only[Zd,jn,jg]at h<;>simp only[List.cons_append,Zd]
  ·exact Z1S h
  ·rw[h.1,Z1S h.2,Bool.true_and]
  ·exact Z1S h
theorem Z14:∀{x y x' y':List DV} {p q:Bool},Zl x y=some p->Zl x' y'=some q->Zl (x++x') (y++y')=some (p&&q)
 | [],[],_,_,p,q,h,h'=>by simp[Zl]at h;subst h;simpa using h'
 | [],_::_,_,_,_,_,h,_=>by simp[Zl]at h
 | a::x,[],_,_,_,_,h,_=>by cases a<;>simp[Zl]at h
 | a::x,b::y,x',y',p,q,h,h'=>by
  cases a<;>cases b<;>simp only[Zl,reduceCtorEq]at h<;>simp only[List.cons_append,Zl]
  ·obtain⟨r,c,h⟩:=Z0 h;cases h;rw[Z14 c h'];simp[Bool.and_assoc]
  ·obtain⟨d,h⟩:=Z3 h;obtain⟨r,c,h⟩:=Z0 h;cases h;rw[d,Z14 c h'];simp[Bool.and_assoc]
  ·obtain⟨r,c,h⟩:=Z0 h;cases h;rw[Z14 c h'];simp[Bool.and_assoc]
section
variable (T:TS S)
theorem Zf7 {t:Ty} (a:(Z3J (S:=S) t).isSome=true) (x y:Val S t):Zd (dcl T t x) (dcl T t y)=true:=by
 cases t<;>simp[Z3J]at a<;>simp[dcl,Zd]
theorem Zj5 {t:Ty} {e:Val S t->Val S t->Bool} (a:Z3J t=some e) (x y:Val S t):Zl (dcl T t x) (dcl T t y)=some (e x y):=by
 cases t<;>simp only[Z3J,reduceCtorEq]at a<;>cases a<;>simp[dcl,Zl]
theorem ZaD {t:Ty} (c:(Z3J (S:=S) t).isSome=true) (a b:Nat->Val S t):∀l:List Nat,Zd (l.flatMap fun j=>dcl T t (a j)) (l.flatMap fun j=>dcl T t (b j))=true
 | []=>rfl
 | j::l=>by
  simp only[List.flatMap_cons];rw[Z1S (Zf7 T c _ _)];exact ZaD c a b l
theorem Zh3 {t:Ty} {e:Val S t->Val S t->Bool} (c:Z3J t=some e) (a b:Nat->Val S t):∀l:List Nat,Zl (l.flatMap fun j=>dcl T t (a j)) (l.flatMap fun j=>dcl T t (b j))=some (l.all fun j=>e (a j) (b j))
 | []=>rfl
 | j::l=>by
  simp only[List.flatMap_cons,jt];exact Z14 (Zj5 T c _ _) (Zh3 c a b l)
theorem Z22:∀{z a:List (TV S)},Z39 z a=true->Zd (dvs T z) (dvs T a)=true
 | [],[],_=>by simp[dvs,Zd]
 | [],_::_,h=>by simp[Z39]at h
 | z::zs,[],h=>by cases z<;>simp[Z39]at h
 | z::zs,a::as,h=>by
  cases z<;>cases a<;>simp only[Z39,jn,jg]at h<;>simp only[dvs,dv,Zd]
  ·exact Z22 h
  ·rw[h.1,Z22 h.2];rfl
  ·exact Z22 h
  ·obtain⟨⟨⟨b,c⟩,d⟩,e⟩:=h;have b:=of_decide_eq_true b;have c:=je c;subst b c;exact(Z1S (ZaD T d _ _ (List.range _))).trans (Z22 e)
theorem Z1B:∀{a b:List (TV S)} {r:Bool},Z13 a b=some r->Zl (dvs T a) (dvs T b)=some r
 | [],[],r,h=>by simp[Z13]at h;subst h;simp[dvs,Zl]
 | [],_::_,_,h=>by simp[Z13]at h
 | z::zs,[],_,h=>by cases z<;>simp[Z13]at h
 | z::zs,a::as,r,h=>by
  cases z<;>cases a<;>simp only[Z13,reduceCtorEq]at h<;>simp only[dvs,dv,Zl]
  ·obtain⟨q,c,h⟩:=Z0 h;rw[Z1B c];exact h
  ·obtain⟨d,h⟩:=Z3 h;obtain⟨q,c,h⟩:=Z0 h;rw[d,Z1B c];exact h
  ·obtain⟨q,c,h⟩:=Z0 h;rw[Z1B c];exact h
  ·split at h
   ·rename_i e;obtain⟨d,h⟩:=Z3 h;obtain⟨eq,c,h⟩:=Z0 h;obtain⟨q,f,h⟩:=Z0 h;cases h;have d:=je d;subst e d;exact Z14 (Zh3 T c _ _ _) (Z1B f)
   ·cases h
end
variable {X:Ye S} (hX:XOk X)
include hX
theorem Zip {op:BinOp} {t:TypeId} {x y:TV S} {k:Z2k S R} {r:R} (h:Zio X op t x y k=some r):Sim X.T ((Zbw X.E op t (dv X.T x) (dv X.T y)).bind ret) k r:=by
 unfold Zio at h;split at h
 ·rename_i kd a kd' b;simp only[dv,Zbw];cases op<;>simp only[reduceCtorEq]at h<;>simp only[Z5A,jA,jB,ZiJ,Zcs,Ziu,Zfr]
  case shl =>
   cases hb:decide (b<0)with
   | true=>rw[hb]at h;cases h
   | false=>rw[hb]at h;exact Zr h rfl
  case shr =>
   cases hb:decide (b<0)with
   | true=>rw[hb]at h;cases h
   | false=>rw[hb]at h;exact Zr h rfl
  case quo =>
   obtain⟨d,h⟩:=Z3 h;rw[d];cases hb:b==0 with
   | true=>rw[hb]at h;cases h
   | false=>rw[hb]at h;exact Zr h rfl
  case rem =>
   obtain⟨d,h⟩:=Z3 h;rw[d];cases hb:b==0 with
   | true=>rw[hb]at h;cases h
   | false=>rw[hb]at h;exact Zr h rfl
  all_goals
   obtain⟨d,h⟩:=Z3 h;rw[d];exact Zr h rfl
 ·rename_i a b;simp only[dv,Zbw,Zj8];cases op<;>simp only[reduceCtorEq]at h
  case add =>
   obtain⟨d,h⟩:=Z3 h;rw[d];exact Zr h rfl
  all_goals exact Zr h rfl
 ·rename_i a b;obtain⟨ti,e,h⟩:=Z0 h;simp only[dv,Zbw,e,jm];cases hk:ti.k<;>rw[hk]at h<;>first|(cases h;done)|skip
  cases op<;>simp only[reduceCtorEq]at h<;>exact Zr h rfl
 ·rename_i a b;obtain⟨ti,e,h⟩:=Z0 h;obtain⟨z,i,h⟩:=Z0 h;obtain⟨f,h⟩:=Z3 h;simp only[jn]at f;simp only[dv,Zbw,e,jm];have hz:=hX.zero t z ti i e;have k1:=Z22 X.T f.1.2;have k2:=Z22 X.T f.2;rw[Z2j hX.t,Z2j hX.t]at k1 k2;rw[f.1.1,<-hz,k1,k2];simp only[ju,jB];split at h
  ·obtain⟨q,g,h⟩:=Z0 h;have k3:=Z1B X.T g;rw[Z2j hX.t,Z2j hX.t]at k3;rw[k3];exact Zr h rfl
  ·obtain⟨q,g,h⟩:=Z0 h;have k3:=Z1B X.T g;rw[Z2j hX.t,Z2j hX.t]at k3;rw[k3];exact Zr h rfl
  ·cases h
 ·rename_i tt xs;obtain⟨ti,e,h⟩:=Z0 h;cases xs with
  | nil =>
   cases hk:ti.k<;>rw[hk]at h<;>first|(cases h;done)|skip
   cases op<;>simp at h
  | cons c cs =>
   simp only[dv,jr,Zbw,e,jm];cases hk:ti.k<;>rw[hk]at h<;>first|(cases h;done)|skip
   cases op<;>simp only[reduceCtorEq]at h<;>exact Zr h rfl
 ·cases h
omit hX in
theorem ZjL {T:TS S} {op:UnOp} {x:TV S} {k:Z2k S R} {r:R} (h:unK op x k=some r):Sim T ((unD op (dv T x)).bind ret) k r:=by
 unfold unK at h;split at h
 ·split at h
  ·exact Zr h rfl
  ·cases h
 ·split at h
  ·exact Zr h rfl
  ·cases h
 ·cases h
omit hX in
theorem Z5y {T:TS S} {n:Nat} {x:TV S} {k:Nat->Option R} {r:R} (h:Zda n x k=some r):∃i,Z37 n (dv T x)=some i/\i<n/\k i=some r:=by
 unfold Zda at h;split at h
 ·rename_i kd i;obtain⟨a,h⟩:=Z3 h;have b:=a;simp only[jn,jk]at b;refine⟨i.toNat,?_,by omega,h⟩
  simp only[dv,Z37];rw[a];rfl
 ·cases h
omit hX in
theorem Z1y {T:TS S} {d:Option (TV S)} {dflt y:Nat} {k:Nat->Option R} {r:R} (h:Z3C d dflt y k=some r):∃i,Z2B (d.map (dv T)) dflt y=some i/\k i=some r:=by
 unfold Z3C at h;split at h
 ·exact⟨dflt,rfl,h⟩
 ·rename_i kd i;obtain⟨a,h⟩:=Z3 h;refine⟨i.toNat,?_,h⟩;simp only[jq,dv,Z2B];rw[a];rfl
 ·cases h
omit hX in
theorem Zgr {T:TS S} (h:Nat->Option (Zk S)) (d:TV S):Z36 (dvh T h) (dv T d)=Z6Q h d:=by
 cases d with
 | rs id v =>
  simp only[dv,Z36,Z6Q,dvh];cases h id with
  | none=>rfl
  | some o=>cases o<;>rfl
 | _=>simp[dv,Z36,Z6Q]
omit hX in
theorem Z5t {T:TS S} {t:Ty} {h:Nat->Option (Zk S)} {x:TV S} {xs:List (Val S t)} (a:Z9e t h x=some xs):ZT (dvh T h) (dv T x)=some (xs.map (dcl T t)):=by
 unfold Z9e at a;split at a
 ·cases a;rfl
 ·cases a;simp[dv,ZT]
 ·split at a
  ·rename_i e;subst e;cases a;simp[dv,ZT]
  ·cases a
 ·rename_i id v;obtain⟨o,b,a⟩:=Z0 a;simp only[dv,ZT,dvh,b,jq,jm];cases o<;>simp only[reduceCtorEq]at a;obtain⟨c,a⟩:=Z3 a;split at a
  ·rename_i e;subst e;cases a;simp only[dvO,c,jB]
  ·cases a
 ·cases a
omit hX in
theorem Z3W {i n:Nat} (h:i<n):List.range n=List.range i++(i::List.range' (i+1) (n-(i+1))):=by
 rw[List.range_eq_range',List.range_eq_range',<-List.range'_succ,show n-(i+1)+1=n-i by omega]
 have:=(List.range'_append_1 (s:=0) (m:=i) (n:=n-i));rw[Nat.zero_add,show i+(n-i)=n by omega]at this
 exact this.symm
omit hX in
theorem ZcS {T:TS S} {pid m:Nat} {k:Z2k S R} {r:R}:∀{ts:List TypeId} {j:Nat},ZiA pid m ts j k=some r->j<=m->∃v:TV S,dv T v=enD pid ts (m-j+1)/\ZO v k=some r
 | [],_,h,_=>by cases h
 | t::ts,j,h,hj=>by
  simp only[ZiA]at h;cases hq:Nat.beq m j with
  | true =>
   rw[hq]at h;have:=je hq;subst this;refine⟨_,?_,h⟩;rw[Nat.sub_self];simp[dv,dvs,enD]
  | false =>
   rw[hq]at h;have a:m≠j:=fun e=>by subst e;rw[Nat.beq_refl]at hq;cases hq
   obtain⟨v,c,b⟩:=ZcS h (by omega)
   refine⟨v,?_,b⟩;rw[c,show m-j+1=(m-(j+1))+2 by omega]
   simp[enD]
omit hX in
theorem ZiB {T:TS S} {ts:List TypeId} {pid m:Nat} {k:Z2k S R} {r:R} (h:enK ts pid m k=some r):∃v:TV S,dv T v=enD pid ts m/\ZO v k=some r:=by
 unfold enK at h;cases hq:Nat.beq m 0 with
 | true =>
  rw[hq]at h;have:=je hq;subst this;exact⟨.nilif,by cases ts<;>rfl,h⟩
 | false =>
  rw[hq]at h;have a:m≠0:=fun e=>by subst e;cases hq
  obtain⟨v,c,b⟩:=ZcS (T:=T) h (by omega)
  exact⟨v,by rw[c,show m-1+1=m by omega],b⟩
theorem Z9d {cs:List (TV S)} {base n pid:Nat} {ts:List TypeId} {a:Nat->Nat} (h:ZbD X.T cs base=some (ts,pid,n,a)):∃q,base+n<=(dvs X.T cs).length/\(dvs X.T cs).drop base=eal ts pid n a++q:=by
 unfold ZbD at h;obtain⟨q,d,h⟩:=Z0 h;split at h
 ·rename_i ts' pid' n' a' q' c;cases h;obtain⟨e,b⟩:=Z1A hX.t d;rw[<-Z2O hX.t 10 q,c,Zv]at b;refine⟨dvs X.T q',?_,b⟩;have:=congrArg List.length b;simp[Y5,eal]at this;rw[Y1 hX.t];rw[Y1 hX.t]at this;omega
 ·cases h
theorem Zdk {ti:TI} {h:Nat->Option (Zk S)} {a:TV S} {k:Z2k S R} {r:R} (b:ZfJ X ti h a k=some r):Sim X.T ((Z3a ti (dvh X.T h) (dv X.T a)).bind ret) k r:=by
 unfold ZfJ at b;split at b
 ·rename_i id off;obtain⟨o,ho,b⟩:=Z0 b;simp only[dv,Z3a,dvh,ho,jq,jm];cases o<;>simp only[reduceCtorEq]at b;obtain⟨v,d,b⟩:=Z0 b;simp only[dvO,(Z3U hX.t d).1];exact Zr b rfl
 ·rename_i id base i e off;obtain⟨o,ho,b⟩:=Z0 b;simp only[dv,Z3a,dvh,ho,jq,jm];cases o<;>simp only[reduceCtorEq]at b;rename_i ct cs;split at b
  ·rename_i ts pid n a hE;obtain⟨d,g⟩:=Z3 b;obtain⟨c,w⟩:=Z3 g;clear b g;simp only[jn,Bool.not_eq_true']at d;obtain⟨⟨h3,h4⟩,y⟩:=d;have h3:=je h3;have h4:=je h4;subst h3 h4;have c:i<n:=by simpa[Tr.blt_dec]using c
   obtain⟨v,h6,f⟩:=ZiB (T:=X.T) w;obtain⟨q,h8,h9⟩:=Z9d hX hE;have hp:YL ti (dvs X.T cs) (base+i*1+0)=some (dv X.T v):=by
    unfold YL;rw[y];simp only[jA];have:(dvs X.T cs)[base+i*1+0]?=((dvs X.T cs).drop base)[i]? := by simp
    rw[this,h9,List.getElem?_append_left (by simp[eal];exact c),h6]
    simp[eal,c]
   simp only[dvO,hp];exact Zr f rfl
  obtain⟨A,hA,b⟩:=Z0 b;obtain⟨t,n,a⟩:=A;simp only at b;obtain⟨d,g⟩:=Z3 b;obtain⟨c,w⟩:=Z3 g;obtain⟨v,h3,hk3⟩:=Z0 w;clear b g w;have d:=je d;have c:i<n:=by simpa[Tr.blt_dec]using c
  subst d;unfold Z8h at hA;obtain⟨q,h4,hA⟩:=Z0 hA;split at hA
  ·rename_i t' n' a' q' hq';cases hA;obtain⟨y,h6⟩:=Z1A hX.t h4;rw[<-Z2O hX.t 10 q,hq']at h6;rw[<-Y1 hX.t q,<-Z2O hX.t 10 q,hq',Y1 hX.t]at y;obtain⟨f,h8⟩:=Z3U hX.t h3;rw[Z2U hX.t]at f;have h9:YL ti (dvs X.T cs) (base+i*tsz X.T t+off)=some (dv X.T v):=by
    have z:∀m,(dvs X.T cs).drop (base+m)=(acl X.T t n a++dvs X.T q').drop m:=fun m=>by
     rw[<-List.drop_drop,h6,Zv];rfl
    have l:=Y1 hX.t cs;rw[y]at l;simp only[wds,wd]at l;have hin:(i+1)*tsz X.T t<=n*tsz X.T t:=Nat.mul_le_mul_right _ c;have s:∀m,m<=tsz X.T t->∃rest,(acl X.T t n a++dvs X.T q').drop (i*tsz X.T t+m)=(dcl X.T t (a i)).drop m++rest:=fun m hm=>by
     refine⟨((List.range' (i+1) (n-(i+1))).flatMap fun j=>dcl X.T t (a j))++dvs X.T q',?_⟩;have x:acl X.T t n a=((List.range i).flatMap fun j=>dcl X.T t (a j))++(dcl X.T t (a i)++(List.range' (i+1) (n-(i+1))).flatMap fun j=>dcl X.T t (a j)):=by
      unfold acl;rw[Z3W c,List.flatMap_append,List.flatMap_cons]
     have hl:((List.range i).flatMap fun j=>dcl X.T t (a j)).length=i*tsz X.T t:=Z12 hX.t t i a;rw[x,jj,List.drop_append,hl,jd (by rw[hl];omega),List.nil_append,Nat.add_sub_cancel_left,jj,List.drop_append_of_le_length (by rw[Yd hX.t];exact hm)]
    unfold YL at f⊢;cases hag:ti.isAgg with
    | true =>
     rw[hag]at f;simp only[jB]at f⊢;obtain⟨h10,h11⟩:=Z3 f;rw[Nat.ble_eq,Yd hX.t]at h10;obtain⟨rest,hr⟩:=s off (by omega)
     have hle:Nat.ble (base+i*tsz X.T t+off+ti.size) (dvs X.T cs).length=true:=by
      rw[Nat.ble_eq,l];rw[Nat.add_mul,Nat.one_mul]at hin;omega
     rw[hle,Nat.add_assoc,z,hr];simp only[jB];rw[List.take_append_of_le_length (by rw[List.length_drop,Yd hX.t];omega)]
     exact h11
    | false =>
     rw[hag]at f;simp only[jA]at f⊢;have hlt:=(jc.1 f).1;rw[Yd hX.t]at hlt;obtain⟨rest,hr⟩:=s off (by omega)
     have:(dvs X.T cs)[base+i*tsz X.T t+off]?=((dvs X.T cs).drop (base+(i*tsz X.T t+off)))[0]? := by simp[Nat.add_assoc]
     rw[this,z,hr,List.getElem?_append_left (by rw[List.length_drop,Yd hX.t];omega)]
     simpa using f
   simp only[dvO,h9];exact Zr hk3 rfl
  ·cases hA
 ·rename_i id v i e off;obtain⟨o,ho,b⟩:=Z0 b;simp only[dv,Z3a,dvh,ho,jq,jm];cases o<;>simp only[reduceCtorEq]at b;rename_i re t xs p u;obtain⟨d,b⟩:=Z3 b;obtain⟨c,b⟩:=Z3 b;obtain⟨q,h3,b⟩:=Z0 b;have c:i<xs.length:=by simpa[Tr.blt_dec]using c
  simp only[jn]at d;have h4:=je d.2;have y:=(Z3U hX.t h3).1;rw[Z2U hX.t]at y;have h6:xs.getD i (tdf X.T t)=xs[i]:=by simp[List.getD_eq_getElem?_getD,c]
  rw[h6]at y;simp only[dvO,List.getElem?_map,List.getElem?_eq_getElem c,jq,jm];have f:Nat.beq (dcl X.T t xs[i]).length e=true:=by rw[Yd hX.t,<-h4];exact Nat.beq_refl _
  rw[d.1,f,y];exact Zr b rfl
 ·rename_i cs;obtain⟨v,d,b⟩:=Z0 b;simp only[dv,Z3a,(Z3U hX.t d).1];exact Zr b rfl
 ·cases b
end Go.Ab
namespace Go.Ab
variable {S:Nat->Type} {R:Type}
theorem Z3M {T:TS S} {t:Ty} {n i:Nat} (h:i<n) (a:Nat->Val S t) :
  acl T t n a=((List.range i).flatMap fun j=>dcl T t (a j))++(dcl T t (a i)++(List.range' (i+1) (n-(i+1))).flatMap fun j=>dcl T t (a j)):=by
 unfold acl;rw[Z3W h,List.flatMap_append,List.flatMap_cons]
theorem Zfn {T:TS S} {t:Ty} {n i:Nat} (h:i<n) (a:Nat->Val S t) (x:Val S t) :
  acl T t n (fun j=>bif Nat.beq j i then x else a j)=((List.range i).flatMap fun j=>dcl T t (a j))++(dcl T t x++(List.range' (i+1) (n-(i+1))).flatMap fun j=>dcl T t (a j)):=by
 rw[Z3M h];have e1:∀j∈List.range i,dcl T t ((fun j=>bif Nat.beq j i then x else a j) j)=dcl T t (a j):=fun j b=>by
  have:j<i:=List.mem_range.1 b;have c:Nat.beq j i=false:=by rw[Tr.beq_dec];simp;omega
  simp[c]
 have e2:∀j∈List.range' (i+1) (n-(i+1)),dcl T t ((fun j=>bif Nat.beq j i then x else a j) j)=dcl T t (a j):=fun j b=>by
  have:=List.mem_range'_1.1 b;have c:Nat.beq j i=false:=by rw[Tr.beq_dec];simp;omega
  simp[c]
 have e3:Nat.beq i i=true:=Nat.beq_refl i;simp only[e3,jB];congr 1
 ·rw[List.flatMap_def,List.flatMap_def,List.map_congr_left e1]
 ·congr 1;rw[List.flatMap_def,List.flatMap_def,List.map_congr_left e2]
variable {X:Ye S} (hX:XOk X)
include hX
theorem Z5D (t:TypeId) (cs:List (TV S)):dvs X.T (Zb1 X t cs)=dvs X.T cs:=by
 unfold Zb1;cases X.code t with
 | none=>rfl
 | some c =>
  simp only;cases hd:Z7m X.T c cs with
  | none=>rfl
  | some x=>simp only;rw[Z2U hX.t,Z2x hX.t hd]
omit hX in
theorem Zfv {pid:Nat} {l:List DV} (h:l.all (Z54 pid)=true):l.all Zw=true:=by
 rw[List.all_eq_true]at h⊢;intro d a;rcases Z1v (h d a)with rfl|⟨t,rfl⟩<;>rfl
theorem Z4V {v:TV S} (h:(Y9 v).all Z6T=true):(cellsOf (dv X.T v)).all Zw=true:=by
 rw[Yz];generalize Y9 v=cs at h
 induction cs with
 | nil=>simp[dvs]
 | cons c cs ih =>
  simp only[jt,jn]at h;rw[Zv,List.all_append,ih h.2,Bool.and_true];cases c<;>simp only[Z6T,jg]at h<;>simp only[Y5,dv,jt,List.all_nil,Zw,Bool.and_true]
  ·exact Z2u (Yq hX.t _ _ _)
  ·exact Z2u (hX.t.plain _ _)
  ·exact Zfv (YA _ _ _ _)
  ·exact Zfv (Z19 0 _)
  ·exact absurd h.1 (by simp)
  ·exact absurd h.1 (by simp)
omit hX in
theorem Ziz {ts:List TypeId} {pid n i m:Nat} {ar:Nat->Nat} (h:i<n):eal ts pid n (fun j=>bif Nat.beq j i then m else ar j)=(eal ts pid n ar).take i++[enD pid ts m]++(eal ts pid n ar).drop (i+1):=by
 have b:∀j,j≠i->Nat.beq j i=false:=fun j a=>by
  cases hq:Nat.beq j i with
  | false=>rfl
  | true=>exact absurd (je hq) a
 have d:(eal ts pid n ar).take i=(List.range i).map fun j=>enD pid ts (ar j):=by
  unfold eal;rw[Z3W h,List.map_append,List.take_left' (by simp)]
 have c:(eal ts pid n ar).drop (i+1)=(List.range' (i+1) (n-(i+1))).map fun j=>enD pid ts (ar j):=by
  unfold eal;rw[Z3W h,List.map_append,jr,List.drop_append];simp
 rw[d,c];unfold eal;rw[Z3W h,List.map_append,jr];simp only[Nat.beq_refl,jB];have e1:(List.range i).map (fun j=>enD pid ts (bif Nat.beq j i then m else ar j))=(List.range i).map fun j=>enD pid ts (ar j):=List.map_congr_left fun j a=>by
  rw[b j (by have:=List.mem_range.1 a;omega)];rfl
 have e2:(List.range' (i+1) (n-(i+1))).map (fun j=>enD pid ts (bif Nat.beq j i then m else ar j))=(List.range' (i+1) (n-(i+1))).map fun j=>enD pid ts (ar j):=List.map_congr_left fun j a=>by
  rw[b j (by have:=List.mem_range'_1.1 a;omega)];rfl
 rw[e1,e2];simp
omit hX in
theorem Zdb {pid:Nat} {t:TypeId}:∀{ts:List TypeId} {j m:Nat},ZiI t ts j=some m->j<=m/\enD pid ts (m-j+1)=.iface t (.agg [.ptr pid 0])
 | [],_,_,h=>by cases h
 | u::ts,j,m,h=>by
  simp only[ZiI]at h;cases hq:Nat.beq u t with
  | true =>
   rw[hq]at h;cases h;have:=je hq;subst this;exact⟨Nat.le_refl _,by rw[Nat.sub_self];simp[enD]⟩
  | false =>
   rw[hq]at h;obtain⟨b,a⟩:=Zdb (pid:=pid) h;refine⟨by omega,?_⟩
   rw[show m-j+1=(m-(j+1))+2 by omega]
   simpa[enD]using a
omit hX in
theorem Zhm {ts:List TypeId} {pid m:Nat} {v:TV S} (h:Zjq ts pid v=some m):dvs X.T (Y9 v)=[enD pid ts m]/\Y9 v=[v]/\wds X.T (Y9 v)=1:=by
 unfold Zjq at h;split at h
 ·cases h;exact⟨by cases ts<;>simp[Y9,dvs,dv,enD],rfl,rfl⟩
 ·rename_i t p;obtain⟨b,hi⟩:=Z3 h;have a:=je b;obtain⟨d,c⟩:=Zdb (pid:=pid) hi;refine⟨?_,rfl,rfl⟩;rw[show m=m-1+1 by omega,c,a]
  simp[Y9,dvs,dv]
 ·cases h
theorem ZgS {ti:TI} {h:Nat->Option (Zk S)} {a v:TV S} {k:Z2k S R} {r:R} (b:Zfb X ti h a v k=some r) :
  Sim X.T ((Z5p ti (dvh X.T h) (dv X.T a) (dv X.T v)).bind fun u=>some ⟨some (.tup []),u⟩) k r:=by
 unfold Zfb at b;have h0:=(Z3 b).1;replace b:=(Z3 b).2;simp only[jn]at h0;have hc:(Nat.beq (cellsOf (dv X.T v)).length ti.size&&(cellsOf (dv X.T v)).all Zw)=true:=by
  rw[Z4V hX h0.2,Yz,Y1 hX.t,h0.1];rfl
 have hsz:=je h0.1;unfold Z5p;rw[hc];simp only[jB];cases a with
 | ptr id off =>
  simp only at b;obtain⟨o,ho,b⟩:=Z0 b;cases o<;>simp only[reduceCtorEq]at b;rename_i ct cs;obtain⟨cs',g,b⟩:=Z0 b;obtain⟨d,h3⟩:=Z1a hX.t g;have f:Nat.ble (off+ti.size) (dvs X.T cs).length=true:=by rw[Nat.ble_eq,Y1 hX.t];omega
  refine⟨_,?_,?_,b⟩
  ·simp only[dv,dvh,ho,jq,jm,dvO,f,jB,Yz,h3];simp[ZY,dvu,dvO,dv,dvl,Z5D hX]
  ·exact ZQ rfl ZN
 | ap id base i e off =>
  simp only at b;obtain⟨o,ho,b⟩:=Z0 b;cases o<;>simp only[reduceCtorEq]at b;rename_i ct cs;split at b
  ·rename_i ts pid n ar hE;obtain⟨g,hk1⟩:=Z3 b;obtain⟨d,hk2⟩:=Z3 hk1;obtain⟨m,hm,hk3⟩:=Z0 hk2;obtain⟨cs',h5,hk4⟩:=Z0 hk3;clear b hk1 hk2 hk3;simp only[jn]at g;obtain⟨h3,h4⟩:=g;have h3:=je h3;have h4:=je h4;subst h3 h4;have d:i<n:=by simpa[Tr.blt_dec]using d
   obtain⟨q,h8,h9⟩:=Z9d hX hE;obtain⟨hv,_,hw⟩:=Zhm (X:=X) hm;have hts:ti.size=1:=by rw[<-hsz,hw]
   obtain⟨g1,g2⟩:=Z1a hX.t h5;have f:Nat.ble (base+i*1+0+ti.size) (dvs X.T cs).length=true:=by rw[Nat.ble_eq,hts];omega
   have w:Ya (dvs X.T cs) (base+i*1+0) (dvs X.T (Y9 v))=dvs X.T cs':=by
    rw[<-g2,hv];have l:dvs X.T [.earr ts pid n (fun j=>bif Nat.beq j i then m else ar j)]=eal ts pid n (fun j=>bif Nat.beq j i then m else ar j):=by simp[dvs]
    have hl1:(eal ts pid n (fun j=>bif Nat.beq j i then m else ar j)).length=n:=by simp[eal]
    have z:(eal ts pid n ar).length=n:=by simp[eal]
    rw[l,YW _ _ _ (by simp;omega),YW _ _ _ (by rw[hl1];exact h8),hl1]
    have e1:(dvs X.T cs).take (base+i*1+0)=(dvs X.T cs).take base++(eal ts pid n ar).take i:=by
     rw[Nat.mul_one,Nat.add_zero,List.take_add,h9,List.take_append_of_le_length (by rw[z];omega)]
    have e2:(dvs X.T cs).drop (base+i*1+0+[enD pid ts m].length)=(eal ts pid n ar).drop (i+1)++(dvs X.T cs).drop (base+n):=by
     have hq:(dvs X.T cs).drop (base+n)=q:=by
      rw[<-List.drop_drop,h9,List.drop_append,z,Nat.sub_self,jd (by rw[z];exact Nat.le_refl _)];rfl
     rw[hq,show base+i*1+0+[enD pid ts m].length=base+(i+1) by simp;omega,<-List.drop_drop,h9,List.drop_append_of_le_length (by rw[z];omega)]
    have e3:eal ts pid n (fun j=>bif Nat.beq j i then m else ar j)=(eal ts pid n ar).take i++[enD pid ts m]++(eal ts pid n ar).drop (i+1):=by
     exact Ziz d
    rw[e1,e2,e3];simp only[jj]
   refine⟨_,?_,ZQ rfl ZN,hk4⟩;simp only[dv,dvh,ho,jq,jm,dvO,f,jB,Yz,w];simp[ZY,dvu,dvO,dv,dvl]
  obtain⟨A,hA,b⟩:=Z0 b;obtain⟨t,n,ar⟩:=A;simp only at b;obtain⟨g,b⟩:=Z3 b;obtain⟨d,b⟩:=Z3 b;obtain⟨c,h3,b⟩:=Z0 b;obtain⟨x,h4,b⟩:=Z0 b;obtain⟨cs',h5,b⟩:=Z0 b;have g:=je g;have d:i<n:=by simpa[Tr.blt_dec]using d
  obtain⟨h6,h7⟩:=Z1a hX.t h3;obtain⟨h8,h9⟩:=Z1a hX.t h5;rw[Z2U hX.t,Z2x hX.t h4]at h7;unfold Z8h at hA;obtain⟨q,h10,hA⟩:=Z0 hA;split at hA
  ·rename_i t' n' a' q' hq';cases hA;obtain⟨h11,h12⟩:=Z1A hX.t h10;rw[<-Z2O hX.t 10 q,hq']at h12;rw[<-Y1 hX.t q,<-Z2O hX.t 10 q,hq',Y1 hX.t]at h11;have hlenT:wds X.T (tcl X.T t (ar i))=tsz X.T t:=by rw[<-Y1 hX.t,Z2U hX.t,Yd hX.t]
   rw[hlenT]at h6;have hlen:=Y1 hX.t cs;rw[h11]at hlen;simp only[wds,wd]at hlen;have hin:i*tsz X.T t+tsz X.T t<=n*tsz X.T t:=by
    have:=Nat.mul_le_mul_right (tsz X.T t) d;rw[Nat.succ_mul]at this;exact this
   have f:Nat.ble (base+i*e+off+ti.size) (dvs X.T cs).length=true:=by rw[Nat.ble_eq,g];omega
   have w:Ya (dvs X.T cs) (base+i*e+off) (dvs X.T (Y9 v))=dvs X.T cs':=by
    rw[<-h9];have y:(dvs X.T (Y9 v)).length=wds X.T (Y9 v):=Y1 hX.t _;rw[YW _ _ _ (by rw[y,g];omega)]
    have s:∀m,(dvs X.T cs).drop (base+m)=(acl X.T t n ar++dvs X.T q').drop m:=fun m=>by
     rw[<-List.drop_drop,h12,Zv];rfl
    have hal:(acl X.T t n (fun j=>bif Nat.beq j i then x else ar j)).length=n*tsz X.T t:=Z12 hX.t t n _;have l:dvs X.T [.arr t n (fun j=>bif Nat.beq j i then x else ar j)]=acl X.T t n (fun j=>bif Nat.beq j i then x else ar j):=by simp[dvs]
    rw[l,YW _ _ _ (by rw[hal];omega),hal]
    have hpre:(dvs X.T cs).take (base+i*e+off)=(dvs X.T cs).take base++(acl X.T t n ar++dvs X.T q').take (i*e+off):=by
     have:=s 0;rw[Nat.add_zero,List.drop_zero]at this;rw[<-this,Nat.add_assoc,List.take_add]
    have hq:(dvs X.T cs).drop (base+n*tsz X.T t)=dvs X.T q':=by
     rw[s,List.drop_append,Z12 hX.t,Nat.sub_self,jd (by rw[Z12 hX.t];exact Nat.le_refl _)];rfl
    rw[hpre,hq,Nat.add_assoc base,Nat.add_assoc base,s,y,Zfn d ar x,<-h7,YW _ _ _ (by rw[y,Yd hX.t];omega),Z3M d ar,y]
    have hl:((List.range i).flatMap fun j=>dcl X.T t (ar j)).length=i*tsz X.T t:=Z12 hX.t t i ar;have hd:=Yd hX.t t (ar i);generalize ((List.range i).flatMap fun j=>dcl X.T t (ar j))=P1 at *;generalize ((List.range' (i+1) (n-(i+1))).flatMap fun j=>dcl X.T t (ar j))=P2 at *;generalize dcl X.T t (ar i)=M at *;generalize dvs X.T (Y9 v)=Vv at *;have e1:((P1++(M++P2))++dvs X.T q').take (i*e+off)=P1++M.take off:=by
     rw[jj,List.take_append,hl,g,List.take_of_length_le (by rw[hl];omega),Nat.add_sub_cancel_left,jj,List.take_append_of_le_length (by rw[hd];omega)]
    have e2:((P1++(M++P2))++dvs X.T q').drop (i*e+off+wds X.T (Y9 v))=M.drop (off+wds X.T (Y9 v))++P2++dvs X.T q':=by
     rw[jj,List.drop_append,hl,g,jd (by rw[hl];omega),List.nil_append,show i*tsz X.T t+off+wds X.T (Y9 v)-i*tsz X.T t=off+wds X.T (Y9 v) by omega,jj,List.drop_append_of_le_length (by rw[hd];omega),jj]
    rw[e1,e2];simp only[jj]
   refine⟨_,?_,?_,b⟩
   ·simp only[dv,dvh,ho,jq,jm,dvO,f,jB,Yz,w];simp[ZY,dvu,dvO,dv,dvl,Z5D hX]
   ·exact ZQ rfl ZN
  ·cases hA
 | rptr id v' i e off =>
  simp only at b;obtain⟨o,ho,b⟩:=Z0 b;cases o<;>simp only[reduceCtorEq]at b;rename_i et t xs p u;obtain⟨g,b⟩:=Z3 b;obtain⟨d,b⟩:=Z3 b;obtain⟨c,h3,b⟩:=Z0 b;obtain⟨x,h4,b⟩:=Z0 b;simp only[jn]at g;obtain⟨⟨⟨hu,he⟩,hp⟩,hf⟩:=g;have d:i<xs.length:=by simpa[Tr.blt_dec]using d
  have he':=je he;obtain⟨h6,h7⟩:=Z1a hX.t h3;have hw:wds X.T (tcl X.T t (xs.getD i (tdf X.T t)))=tsz X.T t:=by rw[<-Y1 hX.t,Z2U hX.t,Yd hX.t]
  rw[hw]at h6;rw[Z2U hX.t,Z2x hX.t h4]at h7;have hget:(xs.map (dcl X.T t))[i]? = some (dcl X.T t (xs.getD i (tdf X.T t))):=by
   rw[List.getElem?_map,List.getElem?_eq_getElem d,List.getD_eq_getElem?_getD,List.getElem?_eq_getElem d];rfl
  have f:Nat.ble (off+ti.size) (dcl X.T t (xs.getD i (tdf X.T t))).length=true:=by rw[Nat.ble_eq,Yd hX.t];omega
  have hb:(Nat.beq u v'&&Nat.beq (dcl X.T t (xs.getD i (tdf X.T t))).length e&&Nat.beq p 0&&Zc (cellsOf (dv X.T v))&&Nat.ble (off+ti.size) (dcl X.T t (xs.getD i (tdf X.T t))).length)=true:=by
   rw[f,hu,Yd hX.t,he,hp,Yz,Z3v hX.t,hf];rfl
  refine⟨_,?_,ZQ rfl ZN,b⟩;simp only[dv,dvh,ho,jq,jm,dvO,hget,hb,jB];rw[Yz,h7];simp[ZY,dvu,dvO,dv,dvl,List.map_set]
 | _=>cases b
end Go.Ab
namespace Go.Ab
variable {S:Nat->Type} {R:Type} {X:Ye S} (hX:XOk X)
include hX
theorem Z2r {t:Ty} {n:Nat} (a:tsz X.T t=n) (xs:List (Val S t)):(xs.map (dcl X.T t)).all (fun c=>Nat.beq c.length n)=true:=by
 rw[List.all_eq_true];intro c hc;obtain⟨x,_,rfl⟩:=List.mem_map.1 hc;rw[Yd hX.t,a];exact Nat.beq_refl n
theorem Zej {nid:Nat} {h:Nat->Option (Zk S)} {t:TypeId} {s x:TV S} {k:Z2k S R} {r:R} (a:Zbv X nid h t s x k=some r) :
  Sim X.T (Z29 X.E nid (dvh X.T h) t t (dv X.T s) (dv X.T x)) k r:=by
 unfold Zbv at a;obtain⟨ti,m,a⟩:=Z0 a;unfold Z29;rw[m];simp only[jm];split at a
 ·rename_i e j;simp only[j];obtain⟨ei,f,a⟩:=Z0 a;obtain⟨te,i,a⟩:=Z0 a;obtain⟨xs,l,a⟩:=Z0 a;obtain⟨n,a⟩:=Z3 a;have b:=(hX.code e te ei i f).1;have d:Z8g X.E (dvh X.T h) t t (dv X.T x)=ZT (dvh X.T h) (dv X.T x):=by unfold Z8g;rw[Nat.beq_refl];rfl
  rw[f,d,Z5t l];simp only[jm,n,jB];cases s with
  | nils =>
   cases xs with
   | nil=>exact Zr a rfl
   | cons y ys =>
    simp only at a;obtain⟨c,a⟩:=Z3 a;refine⟨_,?_,ZQ rfl ZN,a⟩;simp only[dv,jr];rw[<-jr,Z2r hX b.symm,List.length_map,c];simp[ZY,dvu,dvO,dv]
  | rs id v =>
   simp only at a;obtain⟨o,g,a⟩:=Z0 a;cases o<;>simp only[reduceCtorEq]at a;rename_i e' te' es p u;obtain⟨c,a⟩:=Z3 a;split at a
   ·rename_i q;subst q;obtain⟨w,a⟩:=Z3 a;refine⟨_,?_,ZQ rfl ZN,a⟩;simp only[dv,dvh,g,jq,jm,dvO];rw[c,Z2r hX b.symm,List.length_map,List.length_map,w];simp[ZY,dvu,dvO,dv]
   ·cases a
  | _=>cases a
 ·cases a
theorem Z7N (ρ:Nat->Option (TV S)):∀{ps:List (Nat×Operand)} {vs:List (Nat×TV S)},Z9P ρ ps=some vs->Z23 (dvr X.T ρ) ps=some (vs.map fun p=>(p.1,dv X.T p.2))
 | [],vs,h=>by cases h;rfl
 | (i,x)::ps,vs,h=>by
  simp only[Z9P]at h;obtain⟨v,a,h⟩:=Z0 h;obtain⟨vs',b,h⟩:=Z0 h;cases h;simp only[Z23,ZM,a,jq,jm,Z7N ρ b,jr]
theorem Z9l {fs:List (Nat×Nat)}:∀{ps:List (Nat×TV S)} {cs r:List (TV S)},Z8O X fs ps cs=some r->Z16 fs X.E (ps.map fun p=>(p.1,dv X.T p.2)) (dvs X.T cs)=some (dvs X.T r)
 | [],cs,r,h=>by cases h;rfl
 | (i,v)::ps,cs,r,h=>by
  simp only[Z8O]at h;obtain⟨⟨ft,off⟩,f,h⟩:=Z0 h;obtain⟨ti,b,h⟩:=Z0 h;obtain⟨d,h⟩:=Z3 h;obtain⟨cs',c,h⟩:=Z0 h;simp only at b c;obtain⟨j,e⟩:=Z1a hX.t c;have g:=je d;have a:Nat.ble (off+ti.size) (dvs X.T cs).length=true:=by rw[Nat.ble_eq,Y1 hX.t];omega
  simp only[jr,Z16,f,jm,b,Yz,Y1 hX.t (Y9 v),d,a,ju,jB,e];exact Z9l h
theorem Z9k {t:Ty} {n:Nat}:∀{ps:List (Nat×TV S)} {a a':Nat->Val S t},Z8N X t n ps a=some a'->Z1D (tsz X.T t) (ps.map fun p=>(p.1,dv X.T p.2)) (acl X.T t n a)=some (acl X.T t n a')
 | [],a,a',h=>by cases h;rfl
 | (i,v)::ps,a,a',h=>by
  simp only[Z8N]at h;obtain⟨x,g,h⟩:=Z0 h;obtain⟨c,h⟩:=Z3 h;have c:i<n:=by simpa[Tr.blt_dec]using c
  have k:cellsOf (dv X.T v)=dcl X.T t x:=by
   rw[Z3p hX.t g];cases t<;>rfl
  have b:i*tsz X.T t+tsz X.T t<=n*tsz X.T t:=by
   have:=Nat.mul_le_mul_right (tsz X.T t) c;rw[Nat.succ_mul]at this;exact this
  have f:Ya (acl X.T t n a) (i*tsz X.T t) (dcl X.T t x)=acl X.T t n (fun j=>bif Nat.beq j i then x else a j):=by
   rw[YW _ _ _ (by rw[Z12 hX.t,Yd hX.t];exact b),Zfn c,Z3M c,Yd hX.t]
   have e:((List.range i).flatMap fun j=>dcl X.T t (a j)).length=i*tsz X.T t:=Z12 hX.t t i a;generalize ((List.range i).flatMap fun j=>dcl X.T t (a j))=P1 at *;rw[List.take_append_of_le_length (by omega),List.take_of_length_le (by omega),List.drop_append,jd (by omega),List.nil_append,e,Nat.add_sub_cancel_left,List.drop_append,jd (by rw[Yd hX.t];exact Nat.le_refl _),Yd hX.t,Nat.sub_self,List.drop_zero,List.nil_append,jj]
  have l:Nat.beq (dcl X.T t x).length (tsz X.T t)=true:=by rw[Yd hX.t];exact Nat.beq_refl _
  have d:Nat.ble (i*tsz X.T t+tsz X.T t) (acl X.T t n a).length=true:=by rw[Nat.ble_eq,Z12 hX.t];exact b
  simp only[jr,Z1D,k,l,d,ju,jB,f];exact Z9k h
theorem ZdN {h:Nat->Option (Zk S)} {t:Ty}:∀{k:Nat} {ps:List (Nat×TV S)} {xs:List (Val S t)},Zg0 X h t k ps=some xs->Z5Y (dvh X.T h) (tsz X.T t) k (ps.map fun p=>(p.1,dv X.T p.2))=some (xs.map (dcl X.T t))
 | _,[],xs,hr=>by cases hr;rfl
 | k,(i,v)::ps,xs,hr=>by
  simp only[Zg0]at hr;obtain⟨d,hr⟩:=Z3 hr;obtain⟨c,a,hr⟩:=Z0 hr;obtain⟨x,f,hr⟩:=Z0 hr;obtain⟨r,b,hr⟩:=Z0 hr;cases hr;have e:=Z2x hX.t f;simp only[jr,Z5Y,Yz,Y1 hX.t,d,jB,Z9v hX.t,a,jq,jm,e,Z2u (Z2X hX.t t x),ZdN b]
theorem Z5Z:∀(vs:List (Nat×TV S)),Zi ((vs.map fun p=>(p.1,dv X.T p.2)).map (·.2))=Yp (vs.map (·.2))
 | []=>rfl
 | v::vs=>by simp only[jr,Zi,Yp,Z7f hX.t,Z5Z vs]
theorem ZaF {cs:List (TV S)} {base n:Nat} {t:Ty} {a:Nat->Val S t} (h:Z8h X.T cs base=some ⟨t,n,a⟩):∃q,base+n*tsz X.T t<=(dvs X.T cs).length/\(dvs X.T cs).drop base=acl X.T t n a++q:=by
 unfold Z8h at h;obtain⟨q,e,h⟩:=Z0 h;split at h
 ·rename_i t' n' a' q' d;cases h;obtain⟨f,b⟩:=Z1A hX.t e;rw[<-Z2O hX.t 10 q,d,Zv]at b;refine⟨dvs X.T q',?_,b⟩;have c:=congrArg List.length b;rw[List.length_drop,List.length_append]at c;simp only[Y5]at c;rw[Z12 hX.t]at c
  by_cases h0:n*tsz X.T t=0
  ·have:wds X.T cs=base+wds X.T q:=f;rw[Y1 hX.t];omega
  ·omega
 ·cases h
theorem Z6b (t:Ty):∀(n:Nat) (a:Nat->Val S t) (q:List DV),Z11 (tsz X.T t) n (acl X.T t n a++q)=((List.range n).map a).map (dcl X.T t)
 | 0,_,_=>rfl
 | n+1,a,q=>by
  have c:acl X.T t (n+1) a=dcl X.T t (a 0)++acl X.T t n (fun j=>a (j+1)):=by
   unfold acl;rw[List.range_succ_eq_map,List.flatMap_cons,List.flatMap_map]
  have b:=Yd hX.t t (a 0);unfold Z11;rw[c,jj,<-b,List.take_left,List.drop_left,b,Z6b t n,List.range_succ_eq_map,jr,jr,List.map_map,List.map_map,List.map_map];rfl
theorem Z9C {t:Ty} {e:Val S t->Val S t->Bool} (a:Z9B X.T t=some e) (x y:Val S t):Z6U (Yr X.T t x) (Yr X.T t y)=some (e x y):=by
 cases t with
 | st i =>
  have b:X.T.seq i=some e:=a;have h:=hX.t.seq i e b x y;show Zl (X.T.dcells i x) (X.T.dcells i y)=some (e x y);exact h
 | bool=>cases a;rfl
 | int k=>cases a;simp[Yr,Z6U]
 | str=>cases a;rfl
 | sl t=>cases a
 | arr n t=>cases a
theorem ZaX {kt et:Ty} {e:Val S kt->Val S kt->Bool} (a:Z9B X.T kt=some e) (key:Val S kt):∀m:List (Val S kt×Val S et),
  Z2Q (Yr X.T kt key) (m.map fun p=>(Yr X.T kt p.1,Yr X.T et p.2))=some ((Z9I e key m).map (Yr X.T et))
 | []=>rfl
 | (k',v)::m=>by
  simp only[jr,Z2Q,Z9C hX a,jm,Z9I];cases e key k' with
  | true=>rfl
  | false=>simp only[jA];exact ZaX a key m
theorem Zdp {kt et:Ty} {e:Val S kt->Val S kt->Bool} (a:Z9B X.T kt=some e) (key:Val S kt) (x:Val S et):∀m:List (Val S kt×Val S et),
  Z57 (Yr X.T kt key) (Yr X.T et x) (m.map fun p=>(Yr X.T kt p.1,Yr X.T et p.2))=some ((ZiV e key x m).map fun p=>(Yr X.T kt p.1,Yr X.T et p.2))
 | []=>rfl
 | (k',v)::m=>by
  simp only[jr,Z57,Z9C hX a,jm,ZiV];cases e key k' with
  | true=>simp
  | false=>simp only[jA,Zdp a key x m,jm,jr]
theorem Z8t {ki:TI} {kt:TypeId} (c:X.E.ty kt=some ki) {t:Ty} {x:Val S t} (h:Z6V X.T ki (X.zero kt) t x=true):Yl ki (Yr X.T t x)=true:=by
 unfold Z6V at h;split at h
 ·rename_i k n x a;simp[Yr,Yl,a]
 ·rename_i x a;simp[Yr,Yl,a]
 ·rename_i x a;simp[Yr,Yl,a]
 ·rename_i fs i x a;simp only[jn]at h;obtain⟨⟨f,e⟩,b⟩:=h;cases hz:X.zero kt with
  | none=>rw[hz]at b;cases b
  | some z =>
   rw[hz]at b;simp only at b;have d:=Z22 X.T b;rw[Z2j hX.t,Z2j hX.t,hX.zero kt z ki hz c]at d;simp only[dvs,jo]at d;simp[Yr,Yl,a,f,e,d]
 ·cases h
omit hX in
theorem Zgm {T:TS S} {t:Ty} (h:YV t=false) (x:Val S t):Zw (Yr T t x)=true/\Zf (Yr T t x)=true:=by
 cases t<;>simp[YV]at h<;>simp[Yr,Zw,Zf]
theorem ZiN {k:TK} {h:Nat->Option (Zk S)} {d v:TV S} (a:Zju k h d=some v):Z5K k (dvh X.T h) (dv X.T d)=some (dv X.T v):=by
 unfold Zju at a;split at a<;>first|(cases a;done)|skip
 ·cases a;simp[dv,Z5K]
 ·cases a;simp[dv,Z5K]
 ·obtain⟨o,b,a⟩:=Z0 a;cases o<;>simp only[reduceCtorEq]at a;cases a;simp[dv,Z5K,dvh,b,dvO]
 ·cases a;simp[dv,Z5K,ZT]
 ·cases a;simp[dv,Z5K,ZT]
 ·cases a;simp[dv,Z5K]
 ·cases a;simp[dv,Z5K,ZT]
 ·obtain⟨o,b,a⟩:=Z0 a;cases o<;>simp only[reduceCtorEq]at a;obtain⟨c,a⟩:=Z3 a;cases a;simp[dv,Z5K,dvh,b,dvO,ZT,c]
 ·cases a;simp[dv,Z5K]
theorem Z9q {f:TV S->TV S->Option (TV S)} {g:DV->DV->Option DV} (a:∀x y z,f x y=some z->g (dv X.T x) (dv X.T y)=some (dv X.T z)):∀{xs:List (TV S)} {x z:TV S},ZcY f x xs=some z->Z6O g (dv X.T x) (dvl X.T xs)=some (dv X.T z)
 | [],x,z,h=>by cases h;simp[dvl,Z6O]
 | y::ys,x,z,h=>by
  simp only[ZcY]at h;obtain⟨w,b,h⟩:=Z0 h;simp only[dvl,Z6O,a _ _ _ b,jm];exact Z9q a h
theorem ZiS (x y z:TV S) (h:ZhH x y=some z):Zdo (dv X.T x) (dv X.T y)=some (dv X.T z):=by
 unfold ZhH at h;split at h
 ·cases h;simp[dv,Zdo]
 ·cases h
theorem ZiR (x y z:TV S) (h:ZhF x y=some z):Zdn (dv X.T x) (dv X.T y)=some (dv X.T z):=by
 unfold ZhF at h;split at h
 ·cases h;simp[dv,Zdn]
 ·cases h
omit hX in
theorem Zha (s:ByteArray) (i:Nat) (hi:i<s.size):(s[i]?).bind (fun b=>ret (.int .u8 b.toNat))=ret (.int .u8 (s.toList.getD i 0).toNat):=by
 have a:s[i]? = some s[i]:=by simp[hi]
 rw[a];have c:s.toList.getD i 0=s[i]:=by
  rw[List.getD_eq_getElem?_getD];simp[ByteArray.toList_eq,hi];rfl
 rw[c];rfl
end Go.Ab
namespace Go.Ab
variable {S:Nat->Type} {R:Type} {X:Ye S} (hX:XOk X)
include hX
theorem Z4d {nid:Nat} {ρ:Nat->Option (TV S)} {h:Nat->Option (Zk S)} {op:Op} {k:Z2k S R} {r:R} (c:opK X nid ρ h op k=some r)
  (hop:(∃t ps,op=.build t ps)\/(∃t n ps,op=.buildSlice t n ps)\/(∃t x lo hi,op=.slice t x lo hi none)\/(∃t x i,op=.indexAddr t x i)\/(∃t x i,op=.index t x i)\/(∃t m x ok,op=.lookup t m x ok)\/(∃t m x v,op=.mapUpdate t m x v)) :
  Sim X.T (Zx X.E nid (dvr X.T ρ) (dvh X.T h) op) k r:=by
 rcases hop with⟨t,ps,rfl⟩|⟨t,n,ps,rfl⟩|⟨t,x,lo,hi,rfl⟩|⟨t,x,i,rfl⟩|⟨t,x,i,rfl⟩|⟨t,m,x,ok,rfl⟩|⟨t,m,x,v,rfl⟩
 ·simp only[opK]at c;obtain⟨ti,h1,b⟩:=Z0 c;replace c:=b;clear b;obtain⟨vs,h2,b⟩:=Z0 c;replace c:=b;clear b;obtain⟨z,h3,b⟩:=Z0 c;replace c:=b;clear b;have hz:=hX.zero t z ti h3 h1;simp only[Zx,h1,jm,Z7N hX ρ h2];split at c
  ·rename_i fs g;obtain⟨cs,y,b⟩:=Z0 c;replace c:=b;clear b;simp only[g];rw[<-hz,Z9l hX y];exact Zr c rfl
  ·rename_i len e g;obtain⟨ei,hei,b⟩:=Z0 c;replace c:=b;clear b;obtain⟨te,y,b⟩:=Z0 c;replace c:=b;clear b;split at c
   ·rename_i te' n a;split at c
    ·rename_i q;subst q;obtain⟨a',f,b⟩:=Z0 c;replace c:=b;clear b;simp only[g];have a0:=(hX.code e te' ei y hei).1;have hz':ti.zero=acl X.T te' n a:=by rw[<-hz];simp[dvs]
     simp only[hei,jm];rw[hz',a0,Z9k hX f];refine Zr c ?_;simp[dv,dvs,ret]
    ·cases c
   ·cases c
  ·cases c
 ·simp only[opK]at c;obtain⟨ti,h1,b⟩:=Z0 c;replace c:=b;clear b;simp only[Zx,h1,jm];split at c
  ·rename_i e g;obtain⟨ei,h2,b⟩:=Z0 c;replace c:=b;clear b;obtain⟨te,h3,b⟩:=Z0 c;replace c:=b;clear b;obtain⟨vs,y,b⟩:=Z0 c;replace c:=b;clear b;obtain⟨es,f,b⟩:=Z0 c;replace c:=b;clear b;obtain⟨w,b⟩:=Z3 c;replace c:=b;clear b;have a0:=(hX.code e te ei h3 h2).1;simp only[g,h2,jm,Z7N hX ρ y];rw[a0,ZdN hX f];simp only[jm,List.length_map];rw[a0]at w;rw[w];refine⟨_,?_,ZQ rfl (Z2t _ _),c⟩;simp only[jB,ZY,dvu,jr,jq,dvO,dv,Z7i,Z5Z hX]
  ·cases c
 ·simp only[opK]at c;obtain⟨ti,h1,b⟩:=Z0 c;replace c:=b;clear b;obtain⟨d,h2,b⟩:=Z0 c;replace c:=b;clear b;obtain⟨lo',h3,b⟩:=Z0 c;replace c:=b;clear b;obtain⟨hi',y,b⟩:=Z0 c;replace c:=b;clear b;simp only[Zx,h1,jm,ZM,h2,jq,ZjA,h3,y];split at c
  ·rename_i s g;simp only[g,dv];obtain⟨hh,f,b⟩:=Z1y (T:=X.T) c;replace c:=b;clear b;obtain⟨l,w,b⟩:=Z1y (T:=X.T) c;replace c:=b;clear b;simp only[Zfe,f,w,jm];exact Zr c rfl
  ·rename_i n e id off g;obtain⟨ei,f,b⟩:=Z0 c;replace c:=b;clear b;obtain⟨o,ho,b⟩:=Z0 c;replace c:=b;clear b;cases o<;>simp only[reduceCtorEq]at c;rename_i ct cs;obtain⟨A,hA,b⟩:=Z0 c;replace c:=b;clear b;obtain⟨h8,b⟩:=Z3 c;replace c:=b;clear b;obtain⟨hh,h9,b⟩:=Z1y (T:=X.T) c;replace c:=b;clear b;obtain⟨l,p,b⟩:=Z1y (T:=X.T) c;replace c:=b;clear b;obtain⟨t,m,a⟩:=A;simp only[jn]at h8;obtain⟨⟨e1,e2⟩,e3⟩:=h8;have e1:=je e1;have e2:=je e2;subst e1;obtain⟨q,g1,g2⟩:=ZaF hX hA;have hal:=Z12 hX.t t m a;have hdl:=congrArg List.length g2;rw[List.length_drop,List.length_append,hal]at hdl
   have c1:Nat.ble (off+m*ei.size) (dvs X.T cs).length=true:=by rw[Nat.ble_eq,<-e2];omega
   have c2:Zc (((dvs X.T cs).drop off).take (m*ei.size))=true:=by
    rw[g2,<-e2,<-hal,List.take_left];exact Z1G (Yq hX.t t m a)
   have c3:Z11 ei.size m ((dvs X.T cs).drop off)=((List.range m).map a).map (dcl X.T t):=by
    rw[g2,<-e2];exact Z6b hX t m a q
   simp only[g,dv,f,jm,dvh,ho,jq,dvO,c1,c2,e3,ju,jB,c3,Z4M,List.length_map,List.length_range,h9,p];refine⟨_,?_,ZQ rfl ZN,c⟩;simp[ZY,dvu,dv,List.map_drop,List.map_take]
  ·rename_i n e cs g;obtain⟨ei,f,b⟩:=Z0 c;replace c:=b;clear b;obtain⟨A,hA,b⟩:=Z0 c;replace c:=b;clear b;obtain⟨h8,b⟩:=Z3 c;replace c:=b;clear b;obtain⟨hh,h9,b⟩:=Z1y (T:=X.T) c;replace c:=b;clear b;obtain⟨l,p,b⟩:=Z1y (T:=X.T) c;replace c:=b;clear b;obtain⟨t,m,a⟩:=A;simp only[jn]at h8;obtain⟨⟨e1,e2⟩,e3⟩:=h8;have e1:=je e1;have e2:=je e2;subst e1;obtain⟨q,g1,g2⟩:=ZaF hX hA;rw[Nat.zero_add]at g1;rw[List.drop_zero]at g2;have c1:Nat.ble (m*ei.size) (dvs X.T cs).length=true:=by rw[Nat.ble_eq,<-e2];exact g1
   have c2:(dvs X.T cs).all Zw=true:=by
    have:=Z4V hX (v:=.agg cs) e3;simpa[cellsOf,dv]using this
   have c3:Z11 ei.size m (dvs X.T cs)=((List.range m).map a).map (dcl X.T t):=by
    rw[g2,<-e2];exact Z6b hX t m a q
   simp only[g,dv,f,jm,c1,c2,ju,jB,c3,Z4M,List.length_map,List.length_range,h9,p];unfold ZO at c;refine⟨_,?_,ZN,c⟩;simp[ret,ZY,dvu,dv,List.map_drop,List.map_take]
  ·rename_i d _ d' e g;obtain⟨ei,f,b⟩:=Z0 c;replace c:=b;clear b;obtain⟨te,w,b⟩:=Z0 c;replace c:=b;clear b;obtain⟨es,u,b⟩:=Z0 c;replace c:=b;clear b;obtain⟨h8,b⟩:=Z3 c;replace c:=b;clear b;obtain⟨hh,h9,b⟩:=Z1y (T:=X.T) c;replace c:=b;clear b;obtain⟨l,p,b⟩:=Z1y (T:=X.T) c;replace c:=b;clear b;have a0:=(hX.code e te ei w f).1;have hhid:=Zgr (T:=X.T) h d;cases hvw:ti.view&&Z6Q h d with
   | true =>
    rw[hvw]at c;simp only[jB]at c;unfold Zjk at c;split at c
    ·unfold ZO at c;have he7:=Z5t (T:=X.T) u;simp only[dv]at he7 hhid;simp only[g,f,jm,dv,he7,Z2r hX a0.symm,h8,ju,jB,hhid,hvw,Zg8,List.length_map,h9,p];refine⟨_,?_,ZN,c⟩;simp[ret,ZY,dvu,dv]
    ·cases c
   | false =>
   rw[hvw]at c;simp only[jA]at c;simp only[g,f,jm,Z5t u,Z2r hX a0.symm,h8,ju,jB,hhid,hvw,jA,Z4M,List.length_map,h9,p];refine⟨_,?_,Z2t _ _,c⟩;simp only[ZY,jq,dv,List.map_drop,List.map_take,Z7i,Z7f hX.t]
  ·cases c
 ·simp only[opK]at c;obtain⟨ti,h1,b⟩:=Z0 c;replace c:=b;clear b;obtain⟨d,h2,b⟩:=Z0 c;replace c:=b;clear b;obtain⟨i',h3,b⟩:=Z0 c;replace c:=b;clear b;simp only[Zx,h1,jm,ZM,h2,jq,h3];split at c
  ·rename_i len e g;obtain⟨ei,y,b⟩:=Z0 c;replace c:=b;clear b;simp only[g,y,jm];cases d with
   | ptr id o =>
    simp only at c;obtain⟨j,f,w,b⟩:=Z5y (T:=X.T) c;replace c:=b;clear b;obtain⟨_,b⟩:=Z3 c;replace c:=b;clear b;simp only[f,jm,dv,Z1d];exact Zr c (by simp[dv,ret])
   | pub cs0 =>
    simp only at c;split at c
    ·rename_i t' n a cs hcs;obtain⟨f,b⟩:=Z3 c;replace c:=b;clear b;obtain⟨j,w,u,b⟩:=Z5y (T:=X.T) c;replace c:=b;clear b;simp only[jn]at f;have e1:=je f.1;have e2:=je f.2;subst e1;have hl:((List.range j).flatMap fun j=>dcl X.T t' (a j)).length=j*tsz X.T t':=Z12 hX.t t' j a;have hcut:(dvs X.T cs0).drop (j*ei.size)=dvs X.T (tcl X.T t' (a j)++.arr t' (n-(j+1)) (fun m=>a (j+1+m))::cs):=by
      rw[<-Z2O hX.t 10 cs0,hcs,Z1Y,Zv,Zv,Z2U hX.t,<-e2];simp only[Y5];rw[Z3M u,jj,List.drop_append,hl,Nat.sub_self,jd (by omega),List.nil_append,List.drop_zero,jj]
      congr 2;unfold acl;rw[List.range'_eq_map_range,List.flatMap_map]
     simp only[w,jm,dv,Z1d,hcut];exact Zr c (by simp[dv,ret])
    ·cases c
   | _=>cases c
  ·rename_i e g;obtain⟨ei,y,b⟩:=Z0 c;replace c:=b;clear b;simp only[g,y,jm];cases d with
   | sl te xs =>
    simp only at c;obtain⟨f,b⟩:=Z3 c;replace c:=b;clear b;obtain⟨j,w,u,b⟩:=Z5y (T:=X.T) c;replace c:=b;clear b;simp only[jn]at f;have e1:=je f.1;have hg:xs.getD j (tdf X.T te)=xs[j]:=by simp[List.getD_eq_getElem?_getD,u]
    rw[hg]at c;simp only[dv,List.length_map,w,jm,List.getElem?_map,List.getElem?_eq_getElem u,jq];have h8:Nat.beq (dcl X.T te xs[j]).length ei.size=true:=by rw[Yd hX.t,e1];exact Nat.beq_refl _
    rw[h8,f.2];exact Zr c (by simp[dv,Z2U hX.t,ret])
   | rs id v =>
    simp only at c;obtain⟨o,ho,b⟩:=Z0 c;replace c:=b;clear b;cases o<;>simp only[reduceCtorEq]at c;obtain⟨f,b⟩:=Z3 c;replace c:=b;clear b;obtain⟨j,w,u,b⟩:=Z5y (T:=X.T) c;replace c:=b;clear b;simp only[dv,dvh,ho,jq,jm,dvO,List.length_map,w,f,jB];exact Zr c rfl
   | _=>cases c
  ·cases c
 ·simp only[opK]at c;obtain⟨ti,h1,b⟩:=Z0 c;replace c:=b;clear b;obtain⟨d,h2,b⟩:=Z0 c;replace c:=b;clear b;obtain⟨i',h3,b⟩:=Z0 c;replace c:=b;clear b;simp only[Zx,h1,jm,ZM,h2,jq,h3];split at c
  ·rename_i len e te n a g;obtain⟨ei,y,b⟩:=Z0 c;replace c:=b;clear b;obtain⟨f,b⟩:=Z3 c;replace c:=b;clear b;obtain⟨j,w,u,b⟩:=Z5y (T:=X.T) c;replace c:=b;clear b;simp only[jn]at f;have e1:=je f.1.1;have e2:=je f.1.2;have e3:=eq_of_beq f.2;subst e1;simp only[g,y,jm,dv,w];have hp:YL ei (dvs X.T [.arr te n a]) (j*ei.size)=some (Yr X.T te (a j)):=by
    have hl:((List.range j).flatMap fun j=>dcl X.T te (a j)).length=j*tsz X.T te:=Z12 hX.t te j a;have hd:=Yd hX.t te (a j);have hal:=Z12 hX.t te n a;have hin:j*tsz X.T te+tsz X.T te<=n*tsz X.T te:=by
     have:=Nat.mul_le_mul_right (tsz X.T te) u;rw[Nat.succ_mul]at this;exact this
    simp only[dvs,jo];unfold YL;rw[<-e2,e3];have hle:Nat.ble (j*tsz X.T te+tsz X.T te) (acl X.T te n a).length=true:=by rw[Nat.ble_eq,hal];exact hin
    have hdrop:(acl X.T te n a).drop (j*tsz X.T te)=dcl X.T te (a j)++(List.range' (j+1) (n-(j+1))).flatMap fun j=>dcl X.T te (a j):=by
     rw[Z3M u,List.drop_append,hl,Nat.sub_self,jd (by omega)];rfl
    cases hag:YV te with
    | true =>
     simp only[jB,hle,hdrop];rw[List.take_append_of_le_length (by omega),List.take_of_length_le (by omega)]
     cases te<;>simp[YV]at hag<;>rfl
    | false =>
     simp only[jA];have:(acl X.T te n a)[j*tsz X.T te]?=((acl X.T te n a).drop (j*tsz X.T te))[0]? := by simp
     rw[this,hdrop,Z99 _ hag];rfl
   rw[hp];exact Zr c (by rw[Z1J hX.t];rfl)
  ·rename_i s g;obtain⟨j,w,u,b⟩:=Z5y (T:=X.T) c;replace c:=b;clear b;simp only[g,dv,w,jm,Zha s j u];exact Zr c rfl
  ·cases c
 ·simp only[opK]at c;obtain⟨ti,h1,b⟩:=Z0 c;replace c:=b;clear b;obtain⟨mv,h2,b⟩:=Z0 c;replace c:=b;clear b;obtain⟨kv,h3,b⟩:=Z0 c;replace c:=b;clear b;simp only[Zx,h1,jm,ZM,h2,jq,h3];split at c
  ·rename_i kt e id g;obtain⟨ei,y,b⟩:=Z0 c;replace c:=b;clear b;obtain⟨ki,f,b⟩:=Z0 c;replace c:=b;clear b;obtain⟨z,w,b⟩:=Z0 c;replace c:=b;clear b;obtain⟨o,ho,b⟩:=Z0 c;replace c:=b;clear b;cases o<;>simp only[reduceCtorEq]at c;rename_i kc ec es;obtain⟨key,h8,b⟩:=Z0 c;replace c:=b;clear b;obtain⟨u,b⟩:=Z3 c;replace c:=b;clear b;obtain⟨zv,h9,b⟩:=Z0 c;replace c:=b;clear b;obtain⟨eq,p,b⟩:=Z0 c;replace c:=b;clear b;simp only[jn,Bool.not_eq_true']at u;obtain⟨⟨⟨q1,q2⟩,q3⟩,q4⟩:=u;have hz:=hX.zero e z ei w y;have hkey:=Z3p hX.t h8
   have hzd:ei.zero=[Yr X.T ec zv]:=by rw[<-hz,Z2x hX.t h9,Z99 _ q4]
   simp only[g,y,f,jm,dv,dvh,ho,jq,dvO,hkey,Z8t hX f q1,q2,q3,Bool.not_false,ju,jB,ZaX hX p,hzd];cases hm:Z9I eq key es with
   | none =>
    rw[hm]at c;cases ok
    ·exact Zr c (by simp[Z1J hX.t])
    ·exact Zr c (by simp[dv,dvl,Z1J hX.t])
   | some v =>
    rw[hm]at c;cases ok
    ·exact Zr c (by simp[Z1J hX.t])
    ·exact Zr c (by simp[dv,dvl,Z1J hX.t])
  ·cases c
 ·simp only[opK]at c;obtain⟨ti,h1,b⟩:=Z0 c;replace c:=b;clear b;obtain⟨mv,h2,b⟩:=Z0 c;replace c:=b;clear b;obtain⟨kv,h3,b⟩:=Z0 c;replace c:=b;clear b;obtain⟨vv,h3',b⟩:=Z0 c;replace c:=b;clear b;simp only[Zx,h1,jm,ZM,h2,jq,h3,h3'];split at c
  ·rename_i kt e id g;obtain⟨ki,f,b⟩:=Z0 c;replace c:=b;clear b;obtain⟨o,ho,b⟩:=Z0 c;replace c:=b;clear b;cases o<;>simp only[reduceCtorEq]at c;rename_i kc ec es;obtain⟨key,h8,b⟩:=Z0 c;replace c:=b;clear b;obtain⟨u,b⟩:=Z3 c;replace c:=b;clear b;obtain⟨_,_,b⟩:=Z0 c;replace c:=b;clear b;obtain⟨xv,h9,b⟩:=Z0 c;replace c:=b;clear b;obtain⟨eq,p,b⟩:=Z0 c;replace c:=b;clear b;simp only[jn,Bool.not_eq_true']at u;obtain⟨q1,q4⟩:=u;have hkey:=Z3p hX.t h8;have hval:=Z3p hX.t h9;obtain⟨c1,c2⟩:=Zgm q4 xv;simp only[g,f,jm,dv,dvh,ho,jq,dvO,hkey,hval,Z8t hX f q1,c1,c2,ju,jB,Zdp hX p]
   refine⟨_,?_,ZQ rfl ZN,c⟩;rw[c1,c2];simp[ZY,dvu,dvO,dv,dvl]
  ·cases c
omit hX in
theorem Z5G {T:TS S} (nid:Nat):∀cs:List (TV S),dvs T (Z9U nid cs)=dvs T cs
 | []=>rfl
 | c::cs=>by
  cases c<;>first|(simp only[Z9U,Zv,Z5G nid cs];done)|skip
  rename_i ts n;simp only[Z9U,Zv,Z5G nid cs];congr 1;simp only[Y5,eal];have e:enD nid ts 0=.nilif:=by cases ts<;>rfl
  rw[e,List.map_const',List.length_range]
theorem ZgX {t:TypeId} {ti:TI} {z:TV S} (b:X.E.ty t=some ti) (h:zeroT X t ti=some z):Z1b ti=some (dv X.T z):=by
 unfold zeroT at h;obtain⟨zs,a,h⟩:=Z0 h;have hz:=hX.zero t zs ti a b;unfold Z1b;cases ha:ti.isAgg with
 | true =>
  rw[ha]at h;simp only[jB,jh]at h⊢;subst h;rw[<-hz];simp[dv]
 | false =>
  rw[ha]at h;simp only[jA]at h⊢;split at h
  ·rename_i c;cases hc:ZV c with
   | true=>rw[hc]at h;cases h
   | false =>
    rw[hc]at h;cases h;rw[<-hz];have:dvs X.T [z]=[dv X.T z]:=by
     rw[Zv,Z8M,jo];cases z<;>simp[Y5,ZV]at hc⊢
    rw[this];rfl
  ·cases h
theorem Zjz {nid:Nat} {ρ:Nat->Option (TV S)} {h:Nat->Option (Zk S)} {op:Op} {k:Z2k S R} {r:R} (g:opK X nid ρ h op k=some r) :
  Sim X.T (Zx X.E nid (dvr X.T ρ) (dvh X.T h) op) k r:=by
 cases op with
 | build t ps=>exact Z4d hX g (.inl ⟨_,_,rfl⟩)
 | buildSlice t n ps=>exact Z4d hX g (.inr (.inl ⟨_,_,_,rfl⟩))
 | slice t x lo hi mx =>
  cases mx with
  | none=>exact Z4d hX g (.inr (.inr (.inl ⟨_,_,_,_,rfl⟩)))
  | some _=>cases g
 | indexAddr t x i=>exact Z4d hX g (.inr (.inr (.inr (.inl ⟨_,_,_,rfl⟩))))
 | index t x i=>exact Z4d hX g (.inr (.inr (.inr (.inr (.inl ⟨_,_,_,rfl⟩)))))
 | lookup t m x ok=>exact Z4d hX g (.inr (.inr (.inr (.inr (.inr (.inl ⟨_,_,_,_,rfl⟩))))))
 | mapUpdate t m x v=>exact Z4d hX g (.inr (.inr (.inr (.inr (.inr (.inr ⟨_,_,_,_,rfl⟩))))))
 | makeInterface t x =>
  obtain⟨ti,j,g⟩:=Z0 g;obtain⟨v,p,g⟩:=Z0 g;cases ha:ZV v with
  | true=>rw[ha]at g;cases g
  | false =>
   rw[ha]at g;simp only[jA]at g;simp only[Zx,j,jm,ZM,p,jq];cases hk2:ti.k<;>rw[hk2]at g<;>first|exact Zr g rfl|cases g
 | typeAssert x xt t ok =>
  obtain⟨ti,j,g⟩:=Z0 g;obtain⟨v,p,g⟩:=Z0 g;simp only[Zx,j,jm,ZM,p,jq];have hf:∀{r:R},(bif ok then(zeroT X t ti).bind fun z=>ZO (.tup [z,.bool false]) k else none)=some r->Sim X.T (bif ok then(Z1b ti).bind fun z=>ret (.tup [z,.bool false])else none) k r:=fun h=>by
   cases ok with
   | false=>cases h
   | true =>
    obtain⟨z,q,h⟩:=Z0 h;simp only[jB,ZgX hX j q,jm];exact Zr h (by simp[dv,dvl])
  cases v with
  | nilif=>cases hk2:ti.k<;>rw[hk2]at g<;>first|exact hf g|cases g
  | iface t' w =>
   have q:(bif Nat.beq t' t then ZO (bif ok then .tup [w,.bool true]else w) k else bif ok then(zeroT X t ti).bind fun z=>ZO (.tup [z,.bool false]) k else none)=some r/\ti.k≠.iface:=by
    cases hk2:ti.k<;>rw[hk2]at g<;>first|exact⟨g,by simp⟩|cases g
   obtain⟨q,hni⟩:=q;have h4:Sim X.T (bif Nat.beq t' t then ret (bif ok then .tup [dv X.T w,.bool true]else dv X.T w)else bif ok then(Z1b ti).bind fun z=>ret (.tup [z,.bool false])else none) k r:=by
    cases hq:Nat.beq t' t with
    | true =>
     rw[hq]at q;cases ok
     ·exact Zr q rfl
     ·exact Zr q (by simp[dv,dvl])
    | false=>rw[hq]at q;exact hf q
   simp only[dv];cases hk2:ti.k<;>first|exact h4|exact absurd hk2 hni
  | _=>cases hk2:ti.k<;>rw[hk2]at g<;>cases g
 | makeSlice t l c =>
  obtain⟨ti,j,g⟩:=Z0 g;obtain⟨dl,p,g⟩:=Z0 g;obtain⟨dc,q,g⟩:=Z0 g;simp only[Zx,j,jm,ZM,p,q,jq];cases he:ti.k with
  | slice e =>
   rw[he]at g;obtain⟨k1,n,rfl⟩:∃k n,dl=.int k n:=by cases dl<;>first|exact⟨_,_,rfl⟩|cases g
   obtain⟨k2,n',rfl⟩:∃k n,dc=.int k n:=by cases dc<;>first|exact⟨_,_,rfl⟩|cases g
   simp only at g;obtain⟨ei,h4,g⟩:=Z0 g;obtain⟨te,h5,g⟩:=Z0 g;obtain⟨z,h6,g⟩:=Z0 g;obtain⟨zv,h7,g⟩:=Z0 g;obtain⟨h8,g⟩:=Z3 g;have hz:=hX.zero e z ei h6 h4;have hzd:ei.zero=dcl X.T te zv:=by rw[<-hz,Z2x hX.t h7]
   have hfree:Zc ei.zero=true:=by rw[hzd];exact Z1G (Z2X hX.t te zv)
   simp only[dv,h4,jm,h8,hfree,ju,jB];refine⟨_,?_,ZQ rfl ZN,g⟩;simp[ZY,dvu,dvO,dv,hzd,List.map_replicate]
  | _=>rw[he]at g;cases g
 | move x =>
  obtain⟨v,j,g⟩:=Z0 g;simp only[Zx,ZM,j,jq,jm];exact Zr g rfl
 | assign x =>
  obtain⟨v,j,g⟩:=Z0 g;simp only[Zx,ZM,j,jq,jm];exact Zr g rfl
 | pick c a b =>
  obtain⟨v,j,g⟩:=Z0 g;cases v<;>simp only[reduceCtorEq]at g;rename_i c;simp only[Zx,ZM,j,jq,jm,dv];unfold Zjh at g;split at g
  ·rename_i x y ha hb;rw[ha,hb];cases c<;>exact Zr g rfl
  ·cases c with
   | true =>
    simp only[jB]at g⊢;obtain⟨v,p,g⟩:=Z0 g;rw[p];exact Zr g rfl
   | false =>
    simp only[jA]at g⊢;obtain⟨v,p,g⟩:=Z0 g;rw[p];exact Zr g rfl
 | alloc t =>
  obtain⟨ti,j,g⟩:=Z0 g;obtain⟨z,p,g⟩:=Z0 g;refine⟨_,?_,ZQ rfl ZN,g⟩;simp only[Zx,j,jm,ZY,dvu,jr,List.map_nil,jq,dv,dvO,Z5D hX,Z5G,hX.zero t z ti p j]
 | box t x =>
  obtain⟨v,j,g⟩:=Z0 g;obtain⟨p,g⟩:=Z3 g;refine⟨_,?_,ZQ rfl ZN,g⟩;have q:=Z4V hX p;rw[Yz]at q;simp only[Zx,ZM,j,jq,jm,Yz,q,jB,ZY,dvu,jr,List.map_nil,dv,dvO,Z5D hX,Z5G]
 | load t a =>
  obtain⟨ti,j,g⟩:=Z0 g;obtain⟨v,p,g⟩:=Z0 g;simp only[Zx,j,ZM,p,jq,jm];exact Zdk hX g
 | store t a x =>
  obtain⟨ti,j,g⟩:=Z0 g;obtain⟨v,p,g⟩:=Z0 g;obtain⟨u,q,g⟩:=Z0 g;simp only[Zx,j,ZM,p,q,jq,jm];exact ZgS hX g
 | nilCheck x =>
  obtain⟨v,j,g⟩:=Z0 g;simp only[Zx,ZM,j,jq,jm];cases v<;>simp only[reduceCtorEq]at g<;>exact Zr g rfl
 | binOp op t x y u =>
  obtain⟨a,j,g⟩:=Z0 g;obtain⟨b,p,g⟩:=Z0 g;simp only[Zx,ZM,j,p,jq,jm];split
  ·rename_i e1 e2;exfalso;cases a<;>first|(simp only[dv,reduceCtorEq]at e1;done)|(unfold Zio at g;cases b<;>cases g)
  ·exact Zip hX g
 | unOp op t x =>
  obtain⟨a,j,g⟩:=Z0 g;simp only[Zx,ZM,j,jq,jm];exact ZjL g
 | convert s d x =>
  obtain⟨ts,j,g⟩:=Z0 g;obtain⟨td,p,g⟩:=Z0 g;obtain⟨v,q,g⟩:=Z0 g;simp only[Zx,j,p,ZM,q,jq,jm];split at g
  ·rename_i he;simp only[he,dv];exact Zr g rfl
  ·rename_i he;simp only[he,dv];exact Zr g rfl
  ·cases g
 | makeFunc f a c =>
  obtain⟨as,j,g⟩:=Z0 g;obtain⟨bs,p,g⟩:=Z0 g;simp only[Zx,Z3d,j,p,jq,jm];exact Zr g (by simp[dv,ret])
 | makeMap t sz =>
  cases sz with
  | some _=>cases g
  | none =>
   obtain⟨ti,j,g⟩:=Z0 g;split at g
   ·obtain⟨kt,p,g⟩:=Z0 g;obtain⟨et,q,g⟩:=Z0 g;refine⟨_,?_,ZQ rfl ZN,g⟩;simp[Zx,ZY,dvu,dv,dvO]
   ·cases g
 | fieldAddr s x f =>
  obtain⟨ti,j,g⟩:=Z0 g;obtain⟨v,p,g⟩:=Z0 g;simp only[Zx,j,ZM,p,jq,jm];split at g
  ·rename_i fs he;obtain⟨⟨ft,off⟩,q,g⟩:=Z0 g;obtain⟨fi,h4,g⟩:=Z0 g;obtain⟨h5,g⟩:=Z3 g;obtain⟨w,h6,g⟩:=Z0 g;simp only at h4 h6;simp only[he,q,h4,jm,h5,jB,Zh5 hX.t h6];exact Zr g rfl
  ·cases g
 | field s x f =>
  obtain⟨ti,j,g⟩:=Z0 g;obtain⟨v,p,g⟩:=Z0 g;simp only[Zx,j,ZM,p,jq,jm];split at g
  ·rename_i fs cs he;obtain⟨⟨ft,off⟩,q,g⟩:=Z0 g;obtain⟨fi,h4,g⟩:=Z0 g;obtain⟨w,h6,g⟩:=Z0 g;simp only at h4 h6;simp only[he,dv,q,h4,jm,(Z3U hX.t h6).1];exact Zr g rfl
  ·cases g
 | range t x =>
  obtain⟨ti,j,g⟩:=Z0 g;obtain⟨v,p,g⟩:=Z0 g;simp only[Zx,j,ZM,p,jq,jm];split at g
  ·rename_i s he;refine⟨_,?_,ZQ rfl ZN,g⟩;simp[he,ZY,dvu,dv,dvO]
  ·rename_i kt et id he;obtain⟨o,ho,g⟩:=Z0 g;cases o<;>simp only[reduceCtorEq]at g;rename_i kt' et' m;refine⟨_,?_,ZQ rfl ZN,g⟩;simp[he,ZY,dvu,dv,dvO,dvh,ho]
  ·cases g
 | next it b =>
  cases b with
  | false=>cases g
  | true =>
   obtain⟨v,j,g⟩:=Z0 g;cases v<;>simp only[reduceCtorEq]at g;rename_i id;obtain⟨o,ho,g⟩:=Z0 g;cases o<;>simp only[reduceCtorEq]at g;rename_i s pos;simp only[Zx,ZM,j,jq,jm,dv,dvh,ho,dvO];cases hp:decide (pos<s.size)with
   | true =>
    rw[hp]at g;refine⟨_,?_,ZQ rfl ZN,g⟩;simp[ZY,dvu,dv,dvl,dvO]
   | false =>
    rw[hp]at g;exact Zr g (by simp[dv,dvl])
 | extract t i =>
  obtain⟨v,j,g⟩:=Z0 g;cases v<;>simp only[reduceCtorEq]at g;rename_i vs;obtain⟨w,p,g⟩:=Z0 g;simp only[Zx,ZM,j,jq,jm,dv,Z5s,List.getElem?_map,p];exact Zr g rfl
 | call c =>
  simp only[opK]at g;split at g
  ·rename_i hc;split at g
   ·rename_i x t ts hx ht;obtain⟨ti,j,g⟩:=Z0 g;obtain⟨v,p,g⟩:=Z0 g;obtain⟨w,q,g⟩:=Z0 g;simp only[Zx,hc,hx,ht,j,ZM,p,jq,jm,ZiN hX q];exact Zr g rfl
   ·cases g
  ·rename_i hc;split at g
   ·rename_i s x t t' hx ht;obtain⟨h0,hz⟩:=Z3 g;clear g;obtain rfl:=je h0;obtain⟨v,p,hz⟩:=Z0 hz;obtain⟨w,q,g⟩:=Z0 hz;simp only[Zx,hc,hx,ht,ZM,p,q,jq,jm];exact Zej hX g
   ·cases g
  ·rename_i hc;obtain⟨vs,j,g⟩:=Z0 g;simp only[Zx,hc,Z3d,j,jq,jm];split at g
   ·obtain⟨w,p,g⟩:=Z0 g;simp only[dvl,Z9q hX (ZiS hX) p,jm];exact Zr g rfl
   ·cases g
  ·rename_i hc;obtain⟨vs,j,g⟩:=Z0 g;simp only[Zx,hc,Z3d,j,jq,jm];split at g
   ·obtain⟨w,p,g⟩:=Z0 g;simp only[dvl,Z9q hX (ZiR hX) p,jm];exact Zr g rfl
   ·cases g
  ·cases g
 | _=>cases g
end Go.Ab
namespace Go.Ab
variable {S:Nat->Type} {R:Type}
theorem Z1Z {α β:Type} (f:α->β):∀(t:Tr α) (a b:Nat),(t.mapv f).ents a b=(t.ents a b).map fun p=>(p.1,f p.2)
 | .leaf,_,_=>rfl
 | .node l v r,a,b=>by
  simp only[Tr.mapv,Tr.ents,Z1Z f l,Z1Z f r,List.map_append];cases v<;>rfl
theorem Z8A:∀(a b:List DV),Z1q (a++b)=Z1q a++Z1q b
 | [],b=>by simp[Z1q]
 | c::a,b=>by simp only[List.cons_append,Z1q,Z8A a b,jj]
theorem Z6s:∀{cs:List DV},cs.all plain=true->Z1q cs=[]
 | [],_=>rfl
 | c::cs,h=>by
  simp only[jt,jn]at h;simp only[Z1q,Z6s h.2,jo];cases c<;>simp[plain]at h<;>simp[rid]
theorem Z9g {pid:Nat}:∀{cs:List DV},cs.all (Z54 pid)=true->Z1q cs=[]
 | [],_=>rfl
 | c::cs,h=>by
  simp only[jt,jn]at h;simp only[Z1q,Z9g h.2,jo];cases c<;>simp[Z54]at h<;>simp[rid]
theorem Z6n (h:Nat->Option Zb):∀{cs:List DV},cs.all plain=true->cs.map (Z6h h)=cs
 | [],_=>rfl
 | c::cs,hp=>by
  simp only[jt,jn]at hp;rw[jr,Z6n h hp.2];cases c<;>simp[plain]at hp<;>simp[Z6h]
theorem Z6I (h:Nat->Option Zb) {pid:Nat}:∀{cs:List DV},cs.all (Z54 pid)=true->cs.map (Z6h h)=cs
 | [],_=>rfl
 | c::cs,hp=>by
  simp only[jt,jn]at hp;rw[jr,Z6I h hp.2];cases c<;>simp[Z54]at hp<;>simp[Z6h]
section
variable {T:TS S} (hT:TOk T)
include hT
mutual
theorem Zch:∀v:TV S,rid (dv T v)=Z1V v
 | .bool _=>rfl | .int _ _=>rfl | .str _=>rfl | .nilp=>rfl | .nils=>rfl
 | .sl0=>by simp[dv,rid,Z1V] | .sl _ _=>by simp[dv,rid,Z1V]
 | .arr _ _ _=>by simp[dv,rid,Z1V]
 | .stc _ _=>by simp[dv,rid,Z1V]
 | .narr _ n=>by simp only[dv,rid,Z1V];exact Z9g (Z19 0 n)
 | .earr ts pid n a=>by simp only[dv,rid,Z1V];exact Z9g (YA ts pid n a)
 | .ptr _ _=>by simp[dv,rid,Z1V] | .ap _ _ _ _ _=>by simp[dv,rid,Z1V] | .rptr _ _ _ _ _=>by simp[dv,rid,Z1V]
 | .pub _=>by simp[dv,rid,Z1V]
 | .rv _ _ _ _ _=>by simp[dv,rid,Z1V] | .slen _=>by simp[dv,rid,Z1V]
 | .rs _ _=>by simp[dv,rid,Z1V] | .map _=>by simp[dv,rid,Z1V] | .iter _=>by simp[dv,rid,Z1V] | .yld _=>by simp[dv,rid,Z1V]
 | .nilfn=>by simp[dv,rid,Z1V] | .nilmap=>by simp[dv,rid,Z1V] | .nilif=>by simp[dv,rid,Z1V]
 | .agg cs=>by simp only[dv,rid,Z1V];exact Zci cs
 | .tup cs=>by simp only[dv,rid,Z1V];exact Z4x cs
 | .fn _ a c=>by simp only[dv,rid,Z1V,Z4x a,Z4x c]
 | .iface _ v=>by simp only[dv,rid,Z1V]
theorem Zci:∀cs:List (TV S),Z1q (dvs T cs)=Z2L cs
 | []=>by simp[dvs,Z1q,Z2L]
 | c::cs=>by
  rw[Zv,Z8A,Z2L,Zci cs];have h:=Zch c;cases c<;>simp only[Y5,Z1q,jo]<;>first|rw[h]|skip
  ·rw[Z6s (Yq hT _ _ _)];rfl
  ·rw[Z6s (hT.plain _ _)];rfl
  ·rw[Z9g (YA _ _ _ _)];rfl
  ·rw[Z9g (Z19 0 _)];rfl
theorem Z4x:∀cs:List (TV S),Z1q (dvl T cs)=Z2L cs
 | []=>by simp[dvl,Z1q,Z2L]
 | c::cs=>by simp only[dvl,Z1q,Z2L,Zch c,Z4x cs]
end
theorem Zj3 (o:Zk S):ZjD (dvO T o)=Zi1 o:=by
 cases o<;>simp only[dvO,ZjD,Zi1]
 ·exact Zci hT _
 ·rw[Z1Z,List.flatMap_map];congr 1;funext p;exact Zch hT p.2
theorem Z3g (h:Nat->Option (Zk S)):∀(n:Nat) (todo acc:List Nat),Z1g (dvh T h) n todo acc=Z24 h n todo acc
 | 0,_,_=>by simp[Z1g,Z24]
 | n+1,[],_=>by simp[Z1g,Z24]
 | n+1,i::todo,acc=>by
  simp only[Z1g,Z24,dvh];cases acc.any (Nat.beq i)with
  | true=>exact Z3g h n todo acc
  | false =>
   simp only[jA];cases hi:h i with
   | none=>exact Z3g h n todo acc
   | some o =>
    simp only[jq,Zj3 hT];exact Z3g h n _ _
omit hT in
theorem Zaf (h:Nat->Option (Zk S)):∀(is:List Nat),Z2w (dvh T h) is=(Z87 h is).mapv (dvO T)
 | []=>rfl
 | i::is=>by
  simp only[Z2w,Z87,Zaf h is,Y6,dvh]
omit hT in
theorem ZaJ (o:Tr (Zk S)) (Rs:List Nat) (nx:Nat):Z4X (o.mapv (dvO T)) Rs nx=dvu T (Zbz o Rs nx):=by
 unfold Z4X Zbz dvu;rw[Z1Z,List.map_map,List.map_map];have e:((fun x=>x.1)∘fun(p:Nat×Zk S)=>(p.1,dvO T p.2))=fun p=>p.1:=rfl;rw[e];congr 1;funext i;simp only[Function.comp,ZP]
theorem ZfC (h:Nat->Option (Zk S)) (v:TV S):Z6h (dvh T h) (dv T v)=dv T (Z2J h v):=by
 cases v<;>simp only[dv,Z6h,Z2J];rename_i id ver;simp only[dvh];cases h id with
 | none=>rfl
 | some o =>
  cases o<;>simp only[jq,dvO,dv];rename_i e t xs p u;cases Nat.beq p 1&&Nat.beq u ver<;>simp[dv]
theorem Zd4 (h:Nat->Option (Zk S)):∀cs:List (TV S),(dvs T cs).map (Z6h (dvh T h))=dvs T (cs.map (Z2J h))
 | []=>by simp[dvs]
 | c::cs=>by
  rw[Zv,List.map_append,jr,Zv,Zd4 h cs];congr 1;have hc:=ZfC hT h c
  by_cases ha:ZV c=true
  ·cases c<;>simp only[ZV,jg]at ha<;>simp only[Y5,Z2J]
   ·exact Z6n _ (Yq hT _ _ _)
   ·exact Z6n _ (hT.plain _ _)
   ·exact Z6I _ (YA _ _ _ _)
   ·exact Z6I _ (Z19 0 _)
  ·have b:Y5 T c=[dv T c]:=by cases c<;>simp[Y5,ZV]at ha⊢
   have d:Y5 T (Z2J h c)=[dv T (Z2J h c)]:=by
    have a:ZV (Z2J h c)=false:=by
     cases c<;>simp[ZV]at ha<;>simp only[Z2J]<;>first|rfl|skip
     split
     ·rename_i p u _;cases Nat.beq p 1&&Nat.beq u _<;>rfl
     ·rfl
    cases hq:Z2J h c<;>rw[hq]at a<;>simp[ZV]at a<;>simp[Y5]
   rw[b,d,jr,List.map_nil,hc]
theorem ZiF (h:Nat->Option (Zk S)) (v:TV S):Z3s (dvh T h) (dv T v)=dv T (Z5Q h v):=by
 cases v with
 | agg cs=>simp only[dv,Z3s,Z5Q,Zd4 hT]
 | arr t n a=>simp only[dv,Z3s,Z5Q,Z2J,Z6h]
 | stc i x=>simp only[dv,Z3s,Z5Q,Z2J,Z6h]
 | earr ts pid n a =>
  simp only[dv,Z3s,Z5Q,Z2J];rw[Z6I _ (YA ts pid n a)]
 | narr ts n =>
  simp only[dv,Z3s,Z5Q,Z2J];rw[Z6I _ (Z19 0 n)]
 | rs id ver=>exact ZfC hT h (.rs id ver)
 | _=>simp only[dv,Z3s,Z5Q,Z2J,Z6h]
theorem Z9r (h:Nat->Option (Zk S)):∀vs:List (TV S),(dvl T vs).map (Z3s (dvh T h))=dvl T (vs.map (Z5Q h))
 | []=>by simp[dvl]
 | c::cs=>by simp only[dvl,jr,ZiF hT,Z9r h cs]
end
theorem Z3k {α:Type} (n:Nat) (k:Nat->α):sN n k=k n:=by cases n<;>rfl
mutual
theorem Zbd {α:Type}:∀(v:TV S) (k:TV S->α),sV v k=k v
 | .ptr _ _,_=>by simp only[sV,Z3k]
 | .ap _ _ _ _ _,_=>by simp only[sV,Z3k]
 | .rptr _ _ _ _ _,_=>by simp only[sV,Z3k]
 | .pub cs,_=>by simp only[sV,Z3m cs]
 | .rs _ _,_=>by simp only[sV,Z3k]
 | .rv _ _ _ _ _,_=>by simp only[sV,Z3k]
 | .slen _,_=>by simp only[sV]
 | .agg cs,_=>by simp only[sV,Z3m cs]
 | .tup cs,_=>by simp only[sV,Z3m cs]
 | .fn _ a c,_=>by simp only[sV,Z3m a,Z3m c]
 | .map _,_=>by simp only[sV,Z3k]
 | .iface _ v,_=>by simp only[sV,Zbd v]
 | .iter _,_=>by simp only[sV,Z3k]
 | .yld _,_=>by simp only[sV,Z3k]
 | .bool _,_=>by simp only[sV]
 | .int _ _,_=>by simp only[sV]
 | .str _,_=>by simp only[sV]
 | .nilp,_=>by simp only[sV]
 | .nils,_=>by simp only[sV]
 | .sl0,_=>by simp only[sV]
 | .sl _ _,_=>by simp only[sV]
 | .arr _ _ _,_=>by simp only[sV]
 | .stc _ _,_=>by simp only[sV]
 | .earr _ _ _ _,_=>by simp only[sV,Z3k]
 | .narr _ _,_=>by simp only[sV]
 | .nilfn,_=>by simp only[sV]
 | .nilmap,_=>by simp only[sV]
 | .nilif,_=>by simp only[sV]
theorem Z3m {α:Type}:∀(v:List (TV S)) (k:List (TV S)->α),sVs v k=k v
 | [],_=>by simp only[sVs]
 | c::cs,_=>by simp only[sVs,Zbd c,Z3m cs]
end
theorem Z3l {α β:Type} {f:β->(β->α)->α} (a:∀v k,f v k=k v):∀(t:Tr β) (k:Tr β->α),sTr f t k=k t
 | .leaf,_=>rfl
 | .node l v r,k=>by
  simp only[sTr,Z3l a l,Z3l a r];cases v with
  | none=>rfl
  | some x=>simp only[a]
theorem Za7 {α:Type} (v:Zk S) (k:Zk S->α):sO v k=k v:=by
 cases v<;>simp only[sO,Z3m,Z3k,Z3l Zbd]
theorem Zi4 {α:Type} (s:StT S) (k:StT S->α):sSt s k=k s:=by
 unfold sSt;rw[Z3l Zbd,Z3l Za7,Z3k]
theorem Za6 {α:Type}:∀(v:List Nat) (k:List Nat->α),sNs v k=k v
 | [],_=>rfl
 | i::is,k=>by simp only[sNs,Z3k,Za6 is]
end Go.Ab
namespace Go.Ab
variable {S:Nat->Type} {R:Type}
def Evt (p:Nat->Prop):Prop:=∃N,∀n,N<=n->p n
theorem Evt.and {p q:Nat->Prop} (c:Evt p) (d:Evt q):Evt fun n=>p n/\q n:=by
 obtain⟨a,e⟩:=c;obtain⟨b,f⟩:=d;exact⟨max a b,fun n g=>⟨e n (by omega),f n (by omega)⟩⟩
theorem Evt.mono {p q:Nat->Prop} (b:Evt p) (h:∀n,p n->q n):Evt q:=by
 obtain⟨a,c⟩:=b;exact⟨a,fun n d=>h n (c n d)⟩
theorem Evt.of {p:Nat->Prop} (h:∀n,p n):Evt p:=⟨0,fun n _=>h n⟩
theorem Evt.succ {p:Nat->Prop} (b:Evt fun n=>p (n+1)):Evt p:=by
 obtain⟨a,c⟩:=b;refine⟨a+1,fun n d=>?_⟩;cases n with
 | zero=>omega
 | succ n=>exact c n (by omega)
def WfL (E:Env) (o:Option (Zk S)):Prop:=match o with
 | some (.loop fid _ ps as bo _ _ _ po)=>∃F f,E.fn fid=some F/\Code.sub F.body po=some (.rangeFunc f ps.toArray as bo)
 | _=>True
def WfO (E:Env) (o:Tr (Zk S)):Prop:=∀i,WfL E (o.get i)
theorem Zan {E:Env} {x:Option (Zk S)} (h:ZeA x=false):WfL E x:=by
 cases x with
 | none=>trivial
 | some o=>cases o<;>first|trivial|cases h
theorem WfO.set {E:Env} {o:Tr (Zk S)} (h:WfO E o) {i:Nat} {x:Option (Zk S)} (a:WfL E x):WfO E (o.set i x):=fun j=>by
 rw[Tr.get_set];split
 ·exact a
 ·exact h j
theorem WfO.upd {E:Env}:∀{u:List (Nat×Option (Zk S))} {o:Tr (Zk S)},WfO E o->Z65 u->WfO E (Z4N o u)
 | [],_,h,_=>h
 | (i,x)::u,o,h,hu=>by
  simp only[Z4N];exact WfO.upd (h.set (Zan (hu (i,x) (by simp)))) (fun p a=>hu p (by simp[a]))
theorem WfO.updW {E:Env}:∀{u:List (Nat×Option (Zk S))} {o:Tr (Zk S)},WfO E o->(∀p∈u,WfL E p.2)->WfO E (Z4N o u)
 | [],_,h,_=>h
 | (i,x)::u,o,h,hu=>by
  simp only[Z4N];exact WfO.updW (h.set (hu (i,x) (by simp))) (fun p a=>hu p (by simp[a]))
def ZhT (E:Env) (n:Nat):Yb:=Za1 E (fun g as=>(evX E n false g as .leaf 0).bind fun x=>frz x.2.1.get x.1) (evX E n false) (evX E n true) n
structure Z8J (X:Ye S) (cs:Z3L S R):Prop where
 fn:∀g as k r,cs.fn g as k=some r->∃d,Evt (fun n=>evF X.E n g (dvl X.T as)=some (dv X.T d))/\k d=some r
 pr:∀g as s n0 k r,cs.pr g as s n0 k=some r->WfO X.E s->∃v os n',
  Evt (fun n=>(ZhT X.E n g (dvl X.T as) (s.mapv (dvO X.T)) n0).bind (Z8m n0)=some (dv X.T v,os.mapv (dvO X.T),n'))/\WfO X.E os/\k v os n'=some r
def Z2A (X:Ye S) (b:Bool) (callH:Z2z S R):Prop:=∀path g as objs next k r,callH path g as objs next k=some r->WfO X.E objs →
 ∃v objs' next',Evt (fun n=>evX X.E n b g (dvl X.T as) (objs.mapv (dvO X.T)) next=some (dv X.T v,objs'.mapv (dvO X.T),next'))/\WfO X.E objs'/\k v objs' next'=some r
def ZcP (T:TS S) (l:List (Nat×Option (TV S))):Loc:=l.map fun p=>(p.1,p.2.map (dv T))
def dvM (T:TS S) (m:Z2m S):Mid:=⟨m.base.mapv (dv T),ZcP T m.loc,m.objs.mapv (dvO T),m.next⟩
def ZI (T:TS S) (s:StT S):St:=⟨s.base.mapv (dv T),s.objs.mapv (dvO T),s.next⟩
section
variable (T:TS S)
theorem Zfz:∀(l:List (Nat×Option (TV S))) (t:Nat),Loc.find (ZcP T l) t=(Z9n l t).map (Option.map (dv T))
 | [],t=>rfl
 | (s,v)::l,t=>by
  simp only[ZcP,jr,Loc.find,Z9n];cases Nat.beq s t with
  | true=>rfl
  | false=>exact Zfz l t
theorem Zcu (V:Nat) (b:Tr (TV S)) (l:List (Nat×Option (TV S))):ZS V (b.mapv (dv T)) (ZcP T l)=dvr T (Z1r V b l):=by
 funext t;unfold ZS Z1r dvr;cases hv:Nat.testBit V t with
 | true=>simp only[hv,jB];exact ZP _ _ _
 | false =>
  simp only[hv,jA,Zfz];cases Z9n l t with
  | none=>rfl
  | some v=>rfl
theorem Zal:∀(u:List (Nat×Option (Zk S))) (o:Tr (Zk S)),Y3 (o.mapv (dvO T)) (dvu T u)=(Z4N o u).mapv (dvO T)
 | [],o=>rfl
 | (i,x)::u,o=>by
  simp only[dvu,jr,Y3,Z4N];rw[<-Y6];exact Zal u _
theorem ZeV (V nt:Nat) (m:Z2m S) (dst:Option Tmp) (v:Option (TV S)):(dvM T m).put V nt dst (v.map (dv T))=dvM T (m.put V nt dst v):=by
 unfold Mid.put Z2m.put;cases dst with
 | none=>rfl
 | some d =>
  simp only;cases(!Nat.blt d nt)with
  | true=>rfl
  | false =>
   cases Nat.testBit V d with
   | true=>simp only[jA,jB,dvM,Y6]
   | false=>simp only[jA,dvM,ZcP,jr]
theorem ZfS (V nt:Nat) (m:Z2m S) (dst:Option Tmp) (o:Zbu S):({ dvM T m with objs:=Y3 (dvM T m).objs (ZY T o).upd }:Mid).put V nt dst (ZY T o).val=dvM T (({ m with objs:=Z4N m.objs o.upd }:Z2m S).put V nt dst o.val):=by
 rw[<-ZeV];simp only[dvM,ZY,Zal]
theorem Z9K (m:Z2m S):(dvM T m).objs.get=dvh T m.objs.get:=funext fun i=>ZP _ _ _
end
theorem Z5F (V nt:Nat) (m:Z2m S) (dst:Option Tmp) (v:Option (TV S)):(m.put V nt dst v).objs=m.objs:=by
 unfold Z2m.put;cases dst with
 | none=>rfl
 | some d =>
  simp only;cases(!Nat.blt d nt)with
  | true=>rfl
  | false=>cases Nat.testBit V d<;>rfl
theorem ZgQ (V nt:Nat) (m:Z2m S) (dst:Option Tmp) (v:Option (TV S)) (t:Nat) :
  Z1r V (m.put V nt dst v).base (m.put V nt dst v).loc t=if dst=some t/\t<nt then v else Z1r V m.base m.loc t:=by
 unfold Z2m.put;cases dst with
 | none=>simp
 | some d =>
  simp only[Tr.blt_dec]
  by_cases hl:d<nt
  ·simp only[hl,decide_true,Bool.not_true,jA];cases hv:Nat.testBit V d with
   | true =>
    simp only[jB];unfold Z1r
    by_cases e:d=t
    ·subst e;simp[hv,hl,Tr.get_set]
    ·have:¬t=d:=fun h=>e h.symm;simp[e,Tr.get_set,this]
   | false =>
    simp only[jA];unfold Z1r
    by_cases e:d=t
    ·subst e;simp[hv,hl,Z9n]
    ·simp[e,Z9n,Tr.beq_dec]
  ·simp only[hl,decide_false,Bool.not_false,jB]
   by_cases e:d=t
   ·subst e;simp[hl]
   ·simp[e]
def Zar (kn:List (Nat×Bool)) (ρ:Nat->Option (TV S)):Prop:=∀t b0 b,knF kn t=some b0->ρ t=some (.bool b)->b=b0
theorem Zc5 {kn:List (Nat×Bool)} {ρ:Nat->Option (TV S)} (h:Zar kn ρ):(fun t=>ovK kn t (ρ t))=ρ:=by
 funext t;unfold ovK;cases kn with
 | nil=>rfl
 | cons p l =>
  simp only;cases hv:ρ t with
  | none=>rfl
  | some v =>
   cases v<;>simp only;rename_i b;cases hk:knF (p::l) t with
   | none=>rfl
   | some b0=>rw[h t b0 b hk hv]
theorem ZiK (kn:List (Nat×Bool)) (d t:Nat):knF (Z55 kn (some d)) t=if t=d then none else knF kn t:=by
 unfold Z55
 induction kn with
 | nil=>simp[knF]
 | cons p l ih =>
  simp only[List.filter_cons]
  by_cases e:p.1=d
  ·subst e;simp only[Tr.beq_dec,decide_true,Bool.not_true,jg,if_false];simp only[Tr.beq_dec]at ih;rw[ih];simp only[knF,Tr.beq_dec]
   by_cases e2:t=p.1
   ·simp[e2]
   ·have:¬p.1=t:=fun h=>e2 h.symm;simp[e2,this]
  ·simp only[Tr.beq_dec]at ih⊢;simp only[e,decide_false,Bool.not_false,if_true,knF,Tr.beq_dec]
   by_cases e2:p.1=t
   ·subst e2;simp[e]
   ·simp only[e2,decide_false,jA];exact ih
theorem Zdj {kn:List (Nat×Bool)} {ρ ρ':Nat->Option (TV S)} {dst:Option Tmp} (h:Zar kn ρ) (hρ:∀t v,dst≠some t->ρ' t=some v->ρ t=some v):Zar (Z55 kn dst) ρ':=fun t b0 b a hv=>by
 cases dst with
 | none=>exact h t b0 b a (hρ t _ (by simp) hv)
 | some d =>
  rw[ZiK]at a
  by_cases e:t=d
  ·rw[if_pos e]at a;cases a
  ·rw[if_neg e]at a;exact h t b0 b a (hρ t _ (fun q=>e (by cases q;rfl)) hv)
theorem Z9E {kn:List (Nat×Bool)} {V nt:Nat} {m:Z2m S} {dst:Option Tmp} {v:Option (TV S)} (h:Zar kn (Z1r V m.base m.loc)):Zar (Z55 kn dst) (Z1r V (m.put V nt dst v).base (m.put V nt dst v).loc) :=
 Zdj h fun t w a b=>by
  rw[ZgQ,if_neg (fun q=>a q.1)]at b;exact b
theorem Ze9 (T:TS S) {ops:Array Oper} {ρ:Nat->Option (TV S)} {o:Oper} {kn:List (Nat×Bool)} (d:Zar kn ρ) {f:Bool->List (Nat×Bool)->Option R} {r:R} (h:Zg9 ops ρ o kn f=some r) :
  ∃want kn',Z1u ops (dvr T ρ) o=some want/\Zar kn' ρ/\(∀t b,knF kn' t=some b->knF kn t=some b\/ρ t=some (.bool b))/\f want kn'=some r:=by
 unfold Zg9 at h;unfold Z1u;split at h
 ·rename_i l;rw[l];exact⟨true,kn,rfl,d,fun t b a=>.inl a,h⟩
 ·rename_i j want l;rw[l];simp only;split at h
  ·rename_i t ht;rw[ht];simp only[dvr];split at h
   ·rename_i b a;rw[a];simp only[jq,dv];have g:Zar ((t,b)::kn) ρ:=fun t' b0 b' c hv=>by
     simp only[knF,Tr.beq_dec]at c
     by_cases e:t=t'
     ·subst e;simp at c;subst c;rw[a]at hv;cases hv;rfl
     ·simp[e]at c;exact d t' b0 b' c hv
    have i:∀ t' b',knF ((t,b)::kn) t'=some b'->knF kn t'=some b'\/ρ t'=some (.bool b'):=fun t' b' c=>by
     simp only[knF,Tr.beq_dec]at c
     by_cases e:t=t'
     ·subst e;simp at c;subst c;exact .inr a
     ·simp[e]at c;exact .inl c
    cases b with
    | true=>exact⟨_,_,rfl,g,i,h⟩
    | false=>exact⟨_,_,rfl,g,i,h⟩
   ·rename_i v hv k;rw[k];simp only[jq];have:∀b,dv T v≠.bool b:=fun b a=>by
     cases v<;>simp[dv]at a;exact hv _ rfl
    refine⟨false,kn,?_,d,fun t b a=>.inl a,h⟩;split
    ·rename_i b a;injection a with a
     exact absurd a (this _)
    ·rfl
    ·rename_i m;cases m
   ·cases h
  ·cases h
theorem Zff {T:TS S} {E:Env} {ρ:Nat->Option (TV S)} {c:Call} {tgt:TV S×List (TV S)} (h:Zcw E ρ c=some tgt):target E (dvr T ρ) c=some (dv T tgt.1,dvl T tgt.2):=by
 unfold Zcw at h;unfold target;split at h
 ·rename_i f hc;rw[hc];obtain⟨v,b,h⟩:=Z0 h;simp only[ZM,b,jq,jm];split at h
  ·obtain⟨as,a,h⟩:=Z0 h;cases h;simp only[dv,Z3d,a,jq,jm,Z6d,dvl]
  ·obtain⟨as,a,h⟩:=Z0 h;cases h;simp only[dv,Z3d,a,jq,jm]
  ·cases h
 ·rename_i rv m hc;rw[hc];obtain⟨v,b,h⟩:=Z0 h;simp only[ZM,b,jq,jm];split at h
  ·obtain⟨ti,a,h⟩:=Z0 h;obtain⟨g,e,h⟩:=Z0 h;obtain⟨as,d,h⟩:=Z0 h;cases h;simp only[dv,a,e,Z3d,d,jq,jm,dvl]
  ·cases h
 ·cases h
theorem ZeT (T:TS S) (E:Env) (tgt:TV S×List (TV S)):ZeS E (dv T tgt.1,dvl T tgt.2)=ZfQ E tgt:=by
 obtain⟨v,as⟩:=tgt;cases v<;>simp only[dv,ZeS,ZfQ];rename_i f a c;cases f<;>rfl
section
variable {X:Ye S} (hX:XOk X) {cs:Z3L S R} (hcs:Z8J X cs)
include hX hcs
theorem Ze1 {nid:Nat} {ρ:Nat->Option (TV S)} {h:Nat->Option (Zk S)} {op:Op} {k:Z2k S R} {ki:TV S×List (TV S)->Option R} {r:R} (a:Zbj X cs nid ρ h op k ki=some r) :
  (∃o:Zbu S,Evt (fun n=>Z46 X.E (evF X.E n) nid (dvr X.T ρ) (dvh X.T h) op=some (some (ZY X.T o)))/\Z65 o.upd/\k o=some r) ∨
  (∃c tgt,Z38 op=some c/\(∀call,Z46 X.E call nid (dvr X.T ρ) (dvh X.T h) op=some none)/\target X.E (dvr X.T ρ) c=some (dv X.T tgt.1,dvl X.T tgt.2)/\ki tgt=some r):=by
 unfold Zbj at a;split at a
 ·rename_i hc;obtain⟨o,i,b,e⟩:=Zjz hX a;refine .inl ⟨o,Evt.of fun n=>?_,b,e⟩;unfold Z46;rw[hc,i];rfl
 ·rename_i c hc;obtain⟨tgt,i,a⟩:=Z0 a;have b:=Zff (T:=X.T) i;cases hp:ZfQ X.E tgt with
  | false =>
   rw[hp]at a;refine .inr ⟨c,tgt,hc,fun call=>?_,b,a⟩;unfold Z46;rw[hc];simp only[b,jm,ZeT,hp,jA]
  | true =>
   rw[hp]at a;simp only[jB]at a;unfold Zjc at a;split at a
   ·rename_i g x y as;obtain⟨fs,e,a⟩:=Z0 a;obtain⟨d,j,a⟩:=hcs.fn _ _ _ _ a;cases hrv:as.any ZfE with
    | true =>
     rw[hrv]at a;simp only[jB]at a;obtain⟨d',l,a⟩:=Z0 a;unfold ZO at a;refine .inl ⟨_,j.mono fun n f=>?_,ZN,a⟩;unfold Z46;rw[hc];simp only[b,jm];rw[show ZeS X.E (dv X.T (TV.fn (Fn.func g) x y,as).1,dvl X.T (TV.fn (Fn.func g) x y,as).2)=true from(ZeT X.T X.E _).trans hp];simp only[jB];unfold Z4Z;rw[b];simp only[jm,dv,Z7A hX.t,e,jq,f,Z93,hrv,jB,Zgb l];simp[ret,ZY,dvu]
    | false =>
    rw[hrv]at a;simp only[jA]at a;refine .inl ⟨_,j.mono fun n f=>?_,Z2t _ _,a⟩;unfold Z46;rw[hc];simp only[b,jm];rw[show ZeS X.E (dv X.T (TV.fn (Fn.func g) x y,as).1,dvl X.T (TV.fn (Fn.func g) x y,as).2)=true from(ZeT X.T X.E _).trans hp];simp only[jB];unfold Z4Z;rw[b];simp only[jm,dv,Z7A hX.t,e,jq,f,Z93,hrv,jA];simp[ZY,Z7i,Z43 hX.t]
   ·cases a
omit hcs in
theorem Zfu {callH callY:Z2z S R} (p:Z2A X false callH) (q:Z2A X true callY) {path:List Nat} {h:Nat->Option (Zk S)} {nx:Nat} {tgt:TV S×List (TV S)} {k:Zbu S->List Nat->Nat->Option R} {r:R}
  (a:Z6D callH callY path h nx tgt k=some r) (o:∀i,WfL X.E (h i)) :
  ∃x Ts n,Evt (fun m=>YU (evX X.E m false) (evX X.E m true) (dvh X.T h) nx (dv X.T tgt.1,dvl X.T tgt.2)=some (ZY X.T x,Ts,n))/\(∀u∈x.upd,WfL X.E u.2)/\k x Ts n=some r:=by
 have b:∀Rs:List Nat,WfO X.E (Z87 h Rs):=fun Rs=>by
  induction Rs with
  | nil=>intro i;exact trivial
  | cons j Rs ih =>
   simp only[Z87];exact ih.set (o j)
 unfold Z6D at a;split at a
 ·rename_i g x y as;rw[Z3m]at a;unfold Ziw at a;rw[Za6,Z3l (fun v k=>Za7 v k)]at a;obtain⟨v,o',n',l,c,a⟩:=p _ _ _ _ _ _ _ a (b _);obtain⟨e,a⟩:=Z3 a;refine⟨_,_,_,l.mono fun m f=>?_,fun u d=>?_,a⟩
  ·simp only[dv,YU,Z3D];rw[Z9r hX.t,Z4x hX.t,Z3g hX.t,Zaf,f];simp only[jm,e,jB,ZaJ,Z43 hX.t,ZY,jq]
  ·obtain⟨j,_,rfl⟩:=List.mem_map.1 d;exact c j
 ·rename_i id as;rw[Z3m]at a;unfold Ziw at a;rw[Za6,Z3l (fun v k=>Za7 v k)]at a;obtain⟨v,o',n',l,c,a⟩:=q _ _ _ _ _ _ _ a (b _);obtain⟨e,a⟩:=Z3 a;refine⟨_,_,_,l.mono fun m f=>?_,fun u d=>?_,a⟩
  ·simp only[dv,YU,Z3D];rw[Z9r hX.t,Z4x hX.t,Z3g hX.t,Zaf,f];simp only[jm,e,jB,ZaJ,Z43 hX.t,ZY,jq]
  ·obtain⟨j,_,rfl⟩:=List.mem_map.1 d;exact c j
 ·cases a
omit hX hcs in
theorem Zcv {nid:Nat} {ρ:Nat->Option (TV S)} {h:Nat->Option (Zk S)} {op:Op} {k:Z2k S R} {ki:TV S×List (TV S)->Option R} {r:R} (a:Zbj X cs nid ρ h op k ki=some r) (df:Bool) (ρ':Nat->Option DV):Z5z X.E df ρ' op=false:=by
 cases op with
 | defer c=>simp[Zbj,Z38,opK]at a
 | _=>rfl
theorem Z8W {df:Bool} {callH callY:Z2z S R} (j:Z2A X false callH) (i:Z2A X true callY) {path:List Nat} {V nt:Nat} {ops:Array Oper} {b:Nat} :
  ∀(os:List Oper) (k:Nat) (kn:List (Nat×Bool)) (m:Z2m S) (kk:Z2m S->Option R) (r:R),ZgN X cs callH callY path V nt ops b k os kn m kk=some r->Zar kn (Z1r V m.base m.loc)->WfO X.E m.objs →
   ∃m',Evt (fun n=>Z2I X.E df (evF X.E n) (evX X.E n false) (evX X.E n true) V nt ops b k os (dvM X.T m)=some (dvM X.T m'))/\WfO X.E m'.objs/\kk m'=some r
 | [],k,kn,m,kk,r,h,_,hw=>⟨m,Evt.of fun _=>rfl,hw,h⟩
 | o::os,k,kn,m,kk,r,h,hkn,hw=>by
  simp only[ZgN]at h;rw[Zc5 hkn]at h;obtain⟨want,kn',p,a,_,h⟩:=Ze9 X.T hkn h;cases want with
  | false =>
   simp only[jA]at h;obtain⟨m',e,g,l⟩:=Z8W j i os (k+1) _ _ kk r h (Z9E a) (by rw[Z5F];exact hw)
   refine⟨m',e.mono fun n d=>?_,g,l⟩;simp only[Z2I];have e1:ZS V (dvM X.T m).base (dvM X.T m).loc=dvr X.T (Z1r V m.base m.loc):=Zcu X.T V m.base m.loc;rw[e1,p];simp only[jm,jA];have e2:=ZeV X.T V nt m o.dst (some (.tup []));simp only[jq,dv,dvl]at e2;rw[e2];exact d
  | true =>
   simp only[jB]at h;rw[Zc5 a]at h;have e1:ZS V (dvM X.T m).base (dvM X.T m).loc=dvr X.T (Z1r V m.base m.loc):=Zcu X.T V m.base m.loc;have f:=Zcv h df;rcases Ze1 hX hcs h with⟨q,e,g,h⟩|⟨c,tgt,e,g,l,h⟩
   ·obtain⟨m',t,u,s⟩:=Z8W j i os (k+1) _ _ kk r h (Z9E (m:={ m with objs:=Z4N m.objs q.upd }) a) (by rw[Z5F];exact hw.upd g)
    refine⟨m',(e.and t).mono fun n d=>?_,u,s⟩;simp only[Z2I];rw[e1,p];simp only[jm,jB,Z9K,f,jA];rw[d.1];simp only[jm];rw[ZfS];exact d.2
   ·obtain⟨x,Ts,nn,t,u,h⟩:=Zfu hX j i h hw;obtain⟨m',s,v,w⟩:=Z8W j i os (k+1) _ _ kk r h (Z9E (m:={ m with objs:=Z4N m.objs x.upd,next:=nn }) a) (by rw[Z5F];exact hw.updW u)
    refine⟨m',(t.and s).mono fun n d=>?_,v,w⟩;simp only[Z2I];rw[e1,p];simp only[jm,jB,Z9K,f,jA,g,e,l];have e5:YU (evX X.E n false) (evX X.E n true) (dvh X.T m.objs.get) (dvM X.T m).next (dv X.T tgt.1,dvl X.T tgt.2)=some (ZY X.T x,Ts,nn):=d.1;rw[e5];simp only[jm];have e2:=ZeV X.T V nt { m with objs:=Z4N m.objs x.upd,next:=nn } o.dst x.val
    have e4:({ dvM X.T m with objs:=Y3 (dvM X.T m).objs (ZY X.T x).upd,next:=nn }:Mid)=dvM X.T { m with objs:=Z4N m.objs x.upd,next:=nn }:=by
     simp only[dvM,ZY,Zal]
    rw[e4];have e6:(ZY X.T x).val=x.val.map (dv X.T):=rfl;rw[e6,e2];exact d.2
end
end Go.Ab
namespace Go.Ab
variable {S:Nat->Type} {R:Type}
def dvD (T:TS S) (d:Z1j S):YH:=⟨d.dst,d.anc,d.touch,ZY T d.out,d.new⟩
def YY (T:TS S) (ds:List (Nat×Z1j S)):List (Nat×YH):=ds.map fun p=>(p.1,dvD T p.2)
section
variable {T:TS S} (hT:TOk T)
include hT
theorem Zif (ρ:Nat->Option (TV S)) (op:Op):touch (dvr T ρ) op=Zah ρ op:=by
 unfold touch Zah;congr 1;funext x;rw[ZM];cases ZR ρ x with
 | none=>rfl
 | some v=>exact ZbN hT v
omit hT in
theorem Zg3 (anc:Nat) (ρ:Nat->Option (TV S)):∀(ds:List (Nat×Z1j S)) (t:Nat),seen anc (dvr T ρ) (YY T ds) t=(Z3B anc ρ ds t).map (dv T)
 | [],t=>rfl
 | (j,d)::ds,t=>by
  have ih:=Zg3 anc ρ ds t;show seen anc (dvr T ρ) ((j,dvD T d)::YY T ds) t=_;simp only[seen,Z3B,dvD];rw[ih];cases d.dst with
  | none=>rfl
  | some s =>
   simp only;cases Nat.beq s t with
   | true =>
    simp only[jB];cases Nat.testBit anc j<;>rfl
   | false=>rfl
omit hT in
theorem Z8X (id:Nat):∀(u:List (Nat×Option (Zk S))),Zq id (dvu T u)=(Z3r id u).map (Option.map (dvO T))
 | []=>rfl
 | (i,x)::u=>by
  have ih:=Z8X id u;unfold dvu at ih;simp only[dvu,jr,Zq,Z3r,ih];cases Z3r id u with
  | some y=>rfl
  | none =>
   simp only[jp];cases Nat.beq i id<;>rfl
omit hT in
theorem ZdS (anc:Nat) (h:Nat->Option (Zk S)):∀(ds:List (Nat×Z1j S)),Z60 anc (dvh T h) (YY T ds)=dvh T (Z4A anc h ds)
 | []=>rfl
 | (j,d)::ds=>by
  funext id;have ih:=congrFun (ZdS anc h ds) id;unfold YY at ih;simp only[YY,jr,Z60,dvD,ZY,Z8X];show _=(Z4A anc h ((j,d)::ds) id).map (dvO T);simp only[Z4A];cases Z3r id d.out.upd with
  | none=>exact ih
  | some x =>
   simp only[jq];cases Nat.testBit anc j<;>rfl
omit hT in
theorem Z4T (ops:Array Oper) (ds:List (Nat×Z1j S)) (o:Oper) (k:Nat):Z1N ops (YY T ds) o k=Z4S ops ds o k:=by
 unfold Z1N Z4S;congr 1;funext m e;have:((YY T ds).find? (fun d=>Nat.beq d.1 e.on)).map (·.2.anc)=(ds.find? (fun d=>Nat.beq d.1 e.on)).map (·.2.anc):=by
  unfold YY;rw[List.find?_map,Option.map_map];rfl
 rw[this]
omit hT in
theorem Zb3 (V nt:Nat):∀(ds:List (Nat×Z1j S)) (m:Z2m S),YR V nt (YY T ds) (dvM T m)=dvM T (Z4t V nt ds m)
 | [],m=>rfl
 | (j,d)::ds,m=>by
  have ih:=Zb3 V nt ds m;unfold YY at ih;simp only[YY,jr,YR,Z4t,ih];exact ZfS T V nt (Z4t V nt ds m) d.dst d.out
end
def Zjn (E:Env) (ds:List (Nat×Z1j S)):Prop:=∀p∈ds,∀u∈p.2.out.upd,WfL E u.2
theorem Zb4 {E:Env} {V nt:Nat}:∀{ds:List (Nat×Z1j S)} {m:Z2m S},Zjn E ds->WfO E m.objs->WfO E (Z4t V nt ds m).objs
 | [],_,_,h=>h
 | (j,d)::ds,m,hd,h=>by
  simp only[Z4t];rw[Z5F];exact(Zb4 (fun p a=>hd p (by simp[a])) h).updW (hd (j,d) (by simp))
theorem Z6w {ρ:Nat->Option (TV S)} {a a':Nat} {v v':TV S}:∀{ds:List (Nat×Z1j S)} {t:Nat},Z3B a ρ ds t=some v->Z3B a' ρ ds t=some v'->v=v'
 | [],t,h,h'=>by simp only[Z3B]at h h';rw[h]at h';cases h';rfl
 | (j,d)::ds,t,h,h'=>by
  simp only[Z3B]at h h';cases hd:d.dst with
  | none =>
   rw[hd]at h h';exact Z6w h h'
  | some s =>
   rw[hd]at h h';simp only at h h';cases hm:Nat.beq s t with
   | true =>
    rw[hm]at h h';simp only[jB]at h h';cases h1:Nat.testBit a j with
    | false=>rw[h1]at h;cases h
    | true=>cases h2:Nat.testBit a' j with
     | false=>rw[h2]at h';cases h'
     | true=>rw[h1]at h;rw[h2]at h';simp only[jB]at h h';rw[h]at h';cases h';rfl
   | false =>
    rw[hm]at h h';exact Z6w h h'
def KnD (kn:List (Nat×Bool)) (ρ:Nat->Option (TV S)) (ds:List (Nat×Z1j S)):Prop:=∀anc,Zar kn (Z3B anc ρ ds)
theorem Z9D {kn:List (Nat×Bool)} {ρ:Nat->Option (TV S)} {ds:List (Nat×Z1j S)} {j:Nat} {d:Z1j S} (h:KnD kn ρ ds):KnD (Z55 kn d.dst) ρ ((j,d)::ds):=fun anc =>
 Zdj (h anc) fun t v a hv=>by
  simp only[Z3B]at hv;cases hd:d.dst with
  | none=>rw[hd]at hv;exact hv
  | some s =>
   rw[hd]at hv;have b:Nat.beq s t=false:=by
    simp only[Tr.beq_dec,decide_eq_false_iff_not];intro e;subst e;exact a hd
   simp only[b,jA]at hv;exact hv
theorem Z3P {α:Type} {c:Bool} {x y:α} (h:c=true):(bif c then x else y)=x:=by rw[h];rfl
theorem Zby {T:TS S} {ops:Array Oper} {ds:List (Nat×Z1j S)} {o:Oper} {k nt:Nat}
  (hc:(o.after.all (fun e => !Region.binds .any e||Nat.blt e.on k)&&(match o.dst with|none=>true|some t=>Nat.blt t nt)&&ds.all (fun d=>Nat.testBit (Z4S ops ds o k) d.1||(match o.dst with
    | none=>true
    | some t => !((ops.getD d.1 o).looksAt ops).contains t && !(match d.2.dst with|some s=>Nat.beq s t|none=>false))))=true) :
  (o.after.all (fun e => !Region.binds .any e||Nat.blt e.on k)&&(match o.dst with|none=>true|some t=>Nat.blt t nt)&&(YY T ds).all (fun d=>Nat.testBit (Z1N ops (YY T ds) o k) d.1||(match o.dst with
    | none=>true
    | some t => !((ops.getD d.1 o).looksAt ops).contains t && !(match d.2.dst with|some s=>Nat.beq s t|none=>false))))=true:=by
 refine Eq.trans ?_ hc;rw[Z4T];congr 1;have:∀f:Nat×YH->Bool,(YY T ds).all f=ds.all fun p=>f (p.1,dvD T p.2):=fun f=>by
  unfold YY;rw[List.all_map];rfl
 rw[this];rfl
section
variable {X:Ye S} (hX:XOk X) {cs:Z3L S R} (hcs:Z8J X cs)
include hX hcs
omit hX hcs in
theorem ZdT {anc:Nat} {h:Nat->Option (Zk S)} (b:∀i,WfL X.E (h i)):∀{ds:List (Nat×Z1j S)},Zjn X.E ds->∀i,WfL X.E (Z4A anc h ds i)
 | [],_,i=>b i
 | (j,d)::ds,hd,i=>by
  simp only[Z4A];have ih:=ZdT (anc:=anc) b (ds:=ds) (fun p c=>hd p (by simp[c])) i
  cases hq:Z3r i d.out.upd with
  | none=>exact ih
  | some x =>
   simp only;cases Nat.testBit anc j with
   | false=>trivial
   | true =>
    obtain⟨u,a,rfl⟩:∃u∈d.out.upd,u.2=x:=by
     have key:∀(us:List (Nat×Option (Zk S))),Z3r i us=some x->∃u∈us,u.2=x:=by
      intro us
      induction us with
      | nil=>intro h;cases h
      | cons u us ihu =>
       obtain⟨i',y⟩:=u;intro h;simp only[Z3r]at h;cases hu:Z3r i us with
       | some z =>
        rw[hu]at h;cases h;obtain⟨v,a,e⟩:=ihu hu;exact⟨v,by simp[a],e⟩
       | none =>
        rw[hu]at h;simp only at h;cases hb:Nat.beq i' i with
        | false=>rw[hb]at h;cases h
        | true=>rw[hb]at h;cases h;exact⟨(i',x),by simp,rfl⟩
     exact key _ hq
    exact hd (j,d) (by simp) u a
theorem Z6G {callH callY:Z2z S R} (w:Z2A X false callH) (v:Z2A X true callY) {path:List Nat} {V nt:Nat} {ops:Array Oper} {b:Nat} :
  ∀(os:List Oper) (k:Nat) (kn:List (Nat×Bool)) (m:Z2m S) (ds:List (Nat×Z1j S)) (kk:Z2m S->Option R) (r:R),Z9b X cs callH callY path V nt ops b k os kn m ds kk=some r->KnD kn (Z1r V m.base m.loc) ds->Zjn X.E ds->WfO X.E m.objs →
   ∃m',Evt (fun n=>Z15 X.E (evF X.E n) (evX X.E n false) (evX X.E n true) V nt ops b k os (dvM X.T m) (YY X.T ds)=some (dvM X.T m'))/\WfO X.E m'.objs/\kk m'=some r
 | [],k,kn,m,ds,kk,r,h,_,hd,hw=>by
  simp only[Z9b]at h;exact⟨_,Evt.of fun _=>by simp only[Z15,Zb3],Zb4 hd hw,h⟩
 | o::os,k,kn,m,ds,kk,r,h,hkn,hd,hw=>by
  simp only[Z9b]at h;obtain⟨hc,h⟩:=Z3 h;rw[Zc5 (hkn _)]at h;obtain⟨want,kn',h1,hkn1,s,h⟩:=Ze9 X.T (hkn _) h;have a:KnD kn' (Z1r V m.base m.loc) ds:=fun anc t b0 b' hk hv=>by
   rcases s t b0 hk with i|i
   ·exact hkn anc t b0 b' i hv
   ·have:=Z6w i hv;cases this;rfl
  have e1:ZS V (dvM X.T m).base (dvM X.T m).loc=dvr X.T (Z1r V m.base m.loc):=Zcu X.T V m.base m.loc;have e2:seen (Z1N ops (YY X.T ds) o k) (ZS V (dvM X.T m).base (dvM X.T m).loc) (YY X.T ds)=dvr X.T (Z3B (Z4S ops ds o k) (Z1r V m.base m.loc) ds):=by
   rw[e1,Z4T];exact funext fun t=>Zg3 _ _ ds t
  have e3:Z60 (Z1N ops (YY X.T ds) o k) (dvM X.T m).objs.get (YY X.T ds)=dvh X.T (Z4A (Z4S ops ds o k) m.objs.get ds):=by
   rw[Z9K,Z4T];exact ZdS _ _ ds
  cases want with
  | false =>
   simp only[jA]at h;obtain⟨m',i,l,z⟩:=Z6G w v os (k+1) _ m _ kk r h (Z9D (d:=⟨o.dst,Z4S ops ds o k,[],⟨some (.tup []),[]⟩,none⟩) a)
    (fun p c=>by
     rcases jv.1 c with e|c
     ·subst e;intro u hu;cases hu
     ·exact hd p c) hw
   refine⟨m',i.mono fun n j=>?_,l,z⟩;simp only[Z15];refine(Z3P (Zby hc)).trans ?_;simp only[e2,h1,jm,jA];have e4:YY X.T ((k,⟨o.dst,Z4S ops ds o k,[],⟨some (.tup []),[]⟩,none⟩)::ds)=(k,⟨o.dst,Z1N ops (YY X.T ds) o k,[],⟨some (.tup []),[]⟩,none⟩)::YY X.T ds:=by
    rw[Z4T];simp[YY,dvD,ZY,dv,dvl,dvu]
   rw[e4]at j;exact j
  | true =>
   simp only[jB]at h;rw[Zc5 (a _)]at h;have e9:∀(up:List (Nat×Option (Zk S))) (f:Z1j S->Bool) (g:YH->Bool),(∀d,g (dvD X.T d)=f d) →
     (YY X.T ds).all (fun d=>Nat.testBit (Z1N ops (YY X.T ds) o k) d.1||g d.2&&(dvu X.T up).all (fun u => !d.2.touch.contains u.1&&(Zq u.1 d.2.out.upd).isNone)) =
     ds.all (fun d=>Nat.testBit (Z4S ops ds o k) d.1||f d.2&&up.all (fun u => !d.2.touch.contains u.1&&(Z3r u.1 d.2.out.upd).isNone)):=fun up f g hfg=>by
    rw[Z4T];simp only[YY,List.all_map];congr 1;funext d;simp only[Function.comp,dvD,dvu,List.all_map];have:=hfg d.2;simp only[dvD]at this;rw[this];congr 2;congr 1;funext u;simp only[Function.comp,ZY,Z8X];cases Z3r u.1 d.2.out.upd<;>rfl
   rcases Ze1 hX hcs h with⟨q,i,l,h⟩|⟨cl,tgt,i,l,z,h⟩
   ·obtain⟨h5,h⟩:=Z3 h;obtain⟨m',h6,h7,h8⟩:=Z6G w v os (k+1) _ m _ kk r h (Z9D (d:=⟨o.dst,Z4S ops ds o k,Zah (Z3B (Z4S ops ds o k) (Z1r V m.base m.loc) ds) o.op,q,none⟩) a)
     (fun p c=>by
      rcases jv.1 c with e|c
      ·subst e;exact fun u hu=>Zan (l u hu)
      ·exact hd p c) hw
    refine⟨m',(i.and h6).mono fun n j=>?_,h7,h8⟩;simp only[Z15];refine(Z3P (Zby hc)).trans ?_;simp only[e2,e3,h1,jm,jB];rw[j.1];simp only[jm];have h9:(ZY X.T q).upd.all (fun u=>(YY X.T ds).all (fun d=>Nat.testBit (Z1N ops (YY X.T ds) o k) d.1 || !d.2.touch.contains u.1&&(Zq u.1 d.2.out.upd).isNone))=true:=by
     rw[<-h5,Z4T];simp only[ZY,dvu,YY,List.all_map];congr 1;funext u;simp only[Function.comp];congr 1;funext d;simp only[Function.comp,dvD,ZY,Z8X];cases Z3r u.1 d.2.out.upd<;>rfl
    rw[h9];simp only[jB];have e4:YY X.T ((k,⟨o.dst,Z4S ops ds o k,Zah (Z3B (Z4S ops ds o k) (Z1r V m.base m.loc) ds) o.op,q,none⟩)::ds)=(k,⟨o.dst,Z1N ops (YY X.T ds) o k,touch (dvr X.T (Z3B (Z4S ops ds o k) (Z1r V m.base m.loc) ds)) o.op,ZY X.T q,none⟩)::YY X.T ds:=by
     rw[Z4T,Zif hX.t];simp[YY,dvD]
    rw[<-e4];exact j.2
   ·obtain⟨x,Ts,nn,h5,h6,h⟩:=Zfu hX w v h (ZdT hw hd);obtain⟨h7,h⟩:=Z3 h;obtain⟨m',h8,h9,y⟩:=Z6G w v os (k+1) _ { m with next:=nn } _ kk r h (Z9D (d:=⟨o.dst,Z4S ops ds o k,Ts,x,some (m.next,nn)⟩) a)
     (fun p c=>by
      rcases jv.1 c with e|c
      ·subst e;exact h6
      ·exact hd p c) hw
    refine⟨m',(h5.and h8).mono fun n j=>?_,h9,y⟩;simp only[Z15];refine(Z3P (Zby hc)).trans ?_;simp only[e2,e3,h1,jm,jB,l,i,z];have e5:YU (evX X.E n false) (evX X.E n true) (dvh X.T (Z4A (Z4S ops ds o k) m.objs.get ds)) (dvM X.T m).next (dv X.T tgt.1,dvl X.T tgt.2)=some (ZY X.T x,Ts,nn):=j.1;rw[e5];simp only[jm];have h11:=e9 x.upd (fun d=>d.new.isNone) (fun d=>d.new.isNone) (fun d=>rfl);refine(Z3P (h11.trans h7)).trans ?_;have e4:YY X.T ((k,⟨o.dst,Z4S ops ds o k,Ts,x,some (m.next,nn)⟩)::ds)=(k,⟨o.dst,Z1N ops (YY X.T ds) o k,Ts,ZY X.T x,some ((dvM X.T m).next,nn)⟩)::YY X.T ds:=by
     rw[Z4T];simp[YY,dvD,dvM]
    rw[e4]at j;exact j.2
theorem Zf0 {df:Bool} {callH callY:Z2z S R} (i:Z2A X false callH) (j:Z2A X true callY) {path:List Nat} {V nt:Nat} {ops:Array Oper} {draw:Bool} {s:StT S} {kk:StT S->Option R} {r:R}
  (h:Zcb X cs callH callY path V nt ops draw s kk=some r) (g:WfO X.E s.objs) :
  ∃s',Evt (fun n=>Z2o X.E df (evF X.E n) (evX X.E n false) (evX X.E n true) V nt ops draw (ZI X.T s)=some (ZI X.T s'))/\WfO X.E s'.objs/\kk s'=some r:=by
 unfold Zcb at h;cases draw with
 | true =>
  simp only[jB]at h;obtain⟨m',f,b,a⟩:=Z6G hX hcs i j _ 0 [] ⟨s.base,[],s.objs,s.next+ops.size⟩ [] _ r h (fun _ _ _ _ d _=>by cases d) (fun _ k=>by cases k) g
  rw[Zi4]at a;refine⟨⟨m'.base,m'.objs,m'.next⟩,f.mono fun n c=>?_,b,a⟩;unfold Z2o;simp only[jB];have e:Z15 X.E (evF X.E n) (evX X.E n false) (evX X.E n true) V nt ops (ZI X.T s).next 0 ops.toList ⟨(ZI X.T s).base,[],(ZI X.T s).objs,(ZI X.T s).next+ops.size⟩ []=some (dvM X.T m'):=c;rw[e];rfl
 | false =>
  simp only[jA]at h;obtain⟨m',f,b,a⟩:=Z8W hX hcs (df:=df) i j _ 0 [] ⟨s.base,[],s.objs,s.next+ops.size⟩ _ r h (fun _ _ _ d _=>by cases d) g
  rw[Zi4]at a;refine⟨⟨m'.base,m'.objs,m'.next⟩,f.mono fun n c=>?_,b,a⟩;unfold Z2o;simp only[jA];have e:Z2I X.E df (evF X.E n) (evX X.E n false) (evX X.E n true) V nt ops (ZI X.T s).next 0 ops.toList ⟨(ZI X.T s).base,[],(ZI X.T s).objs,(ZI X.T s).next+ops.size⟩=some (dvM X.T m'):=c;rw[e];rfl
end
end Go.Ab
namespace Go.Ab
variable {S:Nat->Type} {R:Type}
section
variable (T:TS S)
theorem Z96 (hT:TOk T) {cs:List (TV S)} {off:Nat} {o:Option (TV S)} (h:Zbx T cs off=some o):(o=none/\(dvs T cs)[off]? = none)\/(∃c d,o=some c/\(dvs T cs)[off]? = some d/\((ZV c=false/\d=dv T c)\/(c=.bool false/\plain d=true))):=by
 unfold Zbx at h;obtain⟨r,g,h⟩:=Z0 h;obtain⟨j,i⟩:=Z1A hT g;have e:(dvs T cs)[off]?=(dvs T r)[0]? := by rw[<-i];simp
 cases r with
 | nil=>cases h;exact .inl ⟨rfl,by rw[e,Z8M];rfl⟩
 | cons c r =>
  simp only at h;cases ha:ZV c with
  | true =>
   rw[ha]at h;obtain⟨a,h⟩:=Z3 h;cases h;rw[jn]at a;obtain⟨b,a⟩:=a;have a:0<wd T c:=by simpa[Tr.blt_dec]using a
   rw[<-Z2W hT c]at a;refine .inr ⟨_,(Y5 T c)[0],rfl,?_,.inr ⟨rfl,?_⟩⟩
   ·rw[e,Zv,List.getElem?_append_left a,List.getElem?_eq_getElem a]
   ·have f:(Y5 T c).all plain=true:=by
     cases c<;>simp only[ZjT,jg]at b
     ·exact Yq hT _ _ _
     ·exact hT.plain _ _
    exact List.all_eq_true.1 f _ (jl a)
  | false =>
   rw[ha]at h;cases h;refine .inr ⟨c,dv T c,rfl,?_,.inl ⟨ha,rfl⟩⟩;rw[e,Zv];cases c<;>simp[Y5,ZV]at ha⊢
theorem Zil (hT:TOk T) {o:Tr (Zk S)} {b:Tr (TV S)} {a:Acc} {x:Option (Nat×Nat)} (h:Zik T o b a=some x):Z67 (o.mapv (dvO T)) (b.mapv (dv T)) a=x:=by
 cases a with
 | slot t e =>
  simp only[Zik]at h;simp only[Z67,ZP];cases hb:b.get t with
  | none=>rw[hb]at h;cases h;rfl
  | some v =>
   rw[hb]at h;cases v<;>simp only[jh]at h<;>subst h<;>simp[dv]
 | cell t off e =>
  simp only[Zik]at h;simp only[Z67,ZP];cases hb:b.get t with
  | none=>rw[hb]at h;cases h;rfl
  | some v =>
   rw[hb]at h;cases v with
   | ptr q p =>
    cases p with
    | zero =>
     simp only[jq,dv];simp only at h;cases ho:o.get q with
     | none=>rw[ho]at h;cases h;rfl
     | some ob =>
      rw[ho]at h;cases ob with
      | cells ct cs =>
       simp only at h;simp only[jq,dvO];obtain⟨oc,i,h⟩:=Z0 h;rcases Z96 T hT i with⟨rfl,f⟩|⟨c,d,rfl,f,g⟩
       ·rw[f];cases h;rfl
       ·rw[f];rcases g with⟨_,rfl⟩|⟨rfl,g⟩
        ·cases c<;>simp only[jh]at h<;>subst h<;>simp[dv]
        ·cases h;cases d<;>simp[plain]at g<;>rfl
      | _=>simp only[jh]at h;subst h;simp[dvO]
    | succ p=>simp only[jh]at h;subst h;simp[dv]
   | ap=>cases h
   | _=>simp only[jh]at h;subst h;simp[dv]
theorem ZcC (hT:TOk T) {o:Tr (Zk S)} {b:Tr (TV S)}:∀{as:List Acc} {L:List (Option (Nat×Nat))},Zfm T o b as=some L->as.map (Z67 (o.mapv (dvO T)) (b.mapv (dv T)))=L
 | [],L,h=>by cases h;rfl
 | a::as,L,h=>by
  simp only[Zfm]at h;obtain⟨x,d,h⟩:=Z0 h;obtain⟨xs,c,h⟩:=Z0 h;cases h;rw[jr,Zil T hT d,ZcC hT c]
end
theorem Zad:∀(cs:List DV) (off:Nat) (v:DV),off<cs.length->Ya cs off [v]=cs.set off v
 | [],off,v,h=>by simp at h
 | c::cs,0,v,h=>by cases cs<;>simp[Ya]
 | c::cs,n+1,v,h=>by
  simp only[Ya,List.set_cons_succ];rw[Zad cs n v (by simpa using h)]
theorem Z5W:∀(a b:List DV),YM (a++b)=YM a++YM b
 | [],b=>by simp[YM]
 | c::a,b=>by simp only[List.cons_append,YM,Z5W a b,jj]
theorem Z5d:∀{cs:List DV},cs.all plain=true->YM cs=[]
 | [],_=>rfl
 | c::cs,h=>by
  simp only[jt,jn]at h;simp only[YM,Z5d h.2,jo];cases c<;>simp[plain,YB]at h⊢
theorem Z6J {pid:Nat}:∀{l:List DV},l.all (Z54 pid)=true->YM l=[]
 | [],_=>rfl
 | d::l,h=>by
  simp only[jt,jn]at h;rcases Z1v h.1 with rfl|⟨t,rfl⟩<;>simp[YM,YB,Z6J h.2]
section
variable {T:TS S} (hT:TOk T)
include hT
mutual
theorem Z75:∀v:TV S,YB (dv T v)=YO v
 | .rs _ _=>by simp[dv,YB,YO]
 | .rv _ _ _ _ _=>by simp[dv,YB,YO] | .slen _=>by simp[dv,YB,YO]
 | .agg cs=>by simp only[dv,YB,YO];exact Z9T cs
 | .tup cs=>by simp only[dv,YB,YO];exact Z76 cs
 | .fn _ a c=>by simp only[dv,YB,YO,Z76 a,Z76 c]
 | .iface _ v=>by simp only[dv,YB,YO];exact Z75 v
 | .bool _=>rfl | .int _ _=>rfl | .str _=>rfl | .nilp=>rfl | .nils=>rfl
 | .sl0=>by simp[dv,YB,YO] | .sl _ _=>by simp[dv,YB,YO]
 | .arr _ _ _=>by simp[dv,YB,YO] | .stc _ _=>by simp[dv,YB,YO]
 | .earr _ _ _ _=>by simp only[dv,YB,YO];exact Z6J (YA _ _ _ _)
 | .narr _ _=>by simp only[dv,YB,YO];exact Z6J (Z19 0 _)
 | .ptr _ _=>by simp[dv,YB,YO] | .ap _ _ _ _ _=>by simp[dv,YB,YO] | .rptr _ _ _ _ _=>by simp[dv,YB,YO]
 | .pub _=>by simp[dv,YB,YO] | .map _=>by simp[dv,YB,YO] | .iter _=>by simp[dv,YB,YO] | .yld _=>by simp[dv,YB,YO]
 | .nilfn=>by simp[dv,YB,YO] | .nilmap=>by simp[dv,YB,YO] | .nilif=>by simp[dv,YB,YO]
theorem Z9T:∀cs:List (TV S),YM (dvs T cs)=Z2E cs
 | []=>by simp[dvs,YM,Z2E]
 | c::cs=>by
  rw[Zv,Z5W,Z2E,Z9T cs];have h:=Z75 c;cases c<;>simp only[Y5,YM,jo]<;>first|rw[h]|skip
  ·rw[Z5d (Yq hT _ _ _)];rfl
  ·rw[Z5d (hT.plain _ _)];rfl
  ·rw[Z6J (YA _ _ _ _)];rfl
  ·rw[Z6J (Z19 0 _)];rfl
theorem Z76:∀cs:List (TV S),YM (dvl T cs)=Z2E cs
 | []=>by simp[dvl,YM,Z2E]
 | c::cs=>by simp only[dvl,YM,Z2E,Z75 c,Z76 cs]
end
theorem ZhW (o:Zk S):ZhV (dvO T o)=ZeZ o:=by
 cases o<;>simp only[dvO,ZhV,ZeZ]
 ·exact Z9T hT _
 ·rw[Z1Z,List.flatMap_map];congr 1;funext p;exact Z75 hT p.2
theorem Zhr (o:Tr (Zk S)) (b:Tr (TV S)) (n0 keep:Nat) (A:List (Option (Nat×Nat))):ZbH (o.mapv (dvO T)) (b.mapv (dv T)) n0 keep A=ZbI o b n0 keep A:=by
 unfold ZbH ZbI;have e1:Zf4 (o.mapv (dvO T)).get=Zcm o.get:=by
  funext p;unfold Zf4 Zcm;rw[ZP];cases o.get p.1 with
  | none=>rfl
  | some x=>cases x<;>rfl
 rw[e1,Z1Z,Z1Z,List.flatMap_map,List.flatMap_map];congr 2
 ·congr 1;funext p;simp only[ZhW hT]
 ·congr 1;funext p;simp only[Z75 hT]
end
theorem Zk7 {E:Env} {g:Nat->Zk S->Option (Option (Zk S))} {t t':Tr (Zk S)} (h:t.tm g 1 0=some t') (b:WfO E t) (d:∀k x y,g k x=some y->WfL E (some x)->WfL E y):WfO E t':=fun i=>by
 rcases Tr.tm_get1 h i with⟨_,a⟩|⟨x,y,c,a,e⟩
 ·rw[a];trivial
 ·rw[e];have:=b i;rw[c]at this;exact d i x y a this
section
variable {X:Ye S} (hX:XOk X)
include hX
theorem ZhX {n0:Nat} {L:List (Option (Nat×Nat))} {x y:Zk S} (h:Z8w n0 L x=some y):Z2F n0 L (dvO X.T x)=some (dvO X.T y):=by
 cases x with
 | cells t cs =>
  simp only[Z8w]at h;obtain⟨cs',a,h⟩:=Z0 h;cases h;simp only[dvO,Z2F,Z9V hX.t _ _ _ _ a,jm]
 | loop fid b ps as bo bid ex pa po =>
  simp only[Z8w]at h;obtain⟨b',a,h⟩:=Z0 h;cases h;simp only[dvO,Z2F];have:=Z6X (dv X.T) (fun _ d=>(Z3h n0 L d).bind fun d=>some (some d)) (fun _ d=>(ren n0 L d).bind fun d=>some (some d)) (fun k x y c=>by
   obtain⟨z,e,f⟩:=Z0 c;cases f;simp only[Zcd hX.t _ _ _ _ e,jm,jq]) b 1 0 b' a
  rw[this];rfl
 | row=>cases h;rfl
 | map=>cases h;rfl
 | siter=>cases h;rfl
 | mit m n =>
  simp only[Z8w]at h;obtain⟨a,h⟩:=Z3 h;cases h;simp only[dvO,Z2F,a,jB]
 | bag=>cases h;rfl
theorem Z4R {o:Tr (Zk S)} {n0:Nat}:∀{L:List (Option (Nat×Nat))} {j:Nat} {no r:Tr (Zk S)},Z3N o n0 j L no=some r->WfO X.E no->Z28 (o.mapv (dvO X.T)) n0 j L (no.mapv (dvO X.T))=some (r.mapv (dvO X.T))/\WfO X.E r
 | [],j,no,r,h,hw=>by cases h;exact⟨rfl,hw⟩
 | none::L,j,no,r,h,hw=>by simp only[Z3N]at h;simp only[Z28];exact Z4R h hw
 | some (id,v)::L,j,no,r,h,hw=>by
  simp only[Z3N]at h;simp only[Z28,ZP];cases ho:o.get id with
  | none=>rw[ho]at h;cases h
  | some ob =>
   rw[ho]at h;cases ob<;>simp only[reduceCtorEq]at h;rename_i e t es p u;obtain⟨b,h⟩:=Z3 h;obtain⟨a,c⟩:=Z4R h (hw.set (x:=some (.row e t es p 0)) trivial);simp only[jq,dvO,b,jB];rw[Y6]at a;exact⟨a,c⟩
theorem Yh {n0:Nat}:∀{as:List Acc} {j:Nat} {b:Tr (TV S)} {no:Tr (Zk S)} {r:Tr (TV S)×Tr (Zk S)},YZ X n0 j as (b,no)=some r->WfO X.E no →
  Yi X.E n0 j as (b.mapv (dv X.T),no.mapv (dvO X.T))=some (r.1.mapv (dv X.T),r.2.mapv (dvO X.T))/\WfO X.E r.2
 | [],j,b,no,r,h,hw=>by cases h;exact⟨rfl,hw⟩
 | .slot t e::as,j,b,no,r,h,hw=>by
  simp only[YZ]at h;simp only[Yi,ZP];cases hb:b.get t with
  | none=>rw[hb]at h;exact Yh h hw
  | some v =>
   rw[hb]at h;cases v with
   | nils =>
    simp only at h;obtain⟨ei,m,h⟩:=Z0 h;obtain⟨te,g,h⟩:=Z0 h;obtain⟨a,h⟩:=Z3 h;obtain⟨l,n⟩:=Yh h (hw.set (x:=some (.row e te [] 0 0)) trivial);simp only[jq,dv,m,jm];have s:(Nat.blt 0 ei.size&&(Option.map (dvO X.T) (no.get (n0+j))).isNone)=true:=by
     rw[<-a];cases no.get (n0+j)<;>rfl
    rw[s];simp only[jB];rw[Y6,Y6]at l;exact⟨l,n⟩
   | _=>simp only[jq,dv];exact Yh h hw
 | .cell t off e::as,j,b,no,r,h,hw=>by
  simp only[YZ]at h;simp only[Yi,ZP];cases hb:b.get t with
  | none=>rw[hb]at h;exact Yh h hw
  | some v =>
   rw[hb]at h;cases v with
   | ptr q p =>
    cases p with
    | zero =>
     simp only[jq,dv];simp only at h;cases ho:no.get q with
     | none=>rw[ho]at h;exact Yh h hw
     | some ob =>
      rw[ho]at h;cases ob with
      | cells ct cs =>
       simp only at h;simp only[jq,dvO];obtain⟨oc,hc,h⟩:=Z0 h;have other:(∀d,(dvs X.T cs)[off]? = some d->d≠.nils)->YZ X n0 (j+1) as (b,no)=some r->(match(dvs X.T cs)[off]? with
         | some .nils=>(X.E.ty e).bind fun ei=>bif Nat.blt 0 ei.size&&(Option.map (dvO X.T) (no.get (n0+j))).isNone then Yi X.E n0 (j+1) as (b.mapv (dv X.T),((no.mapv (dvO X.T)).set q (some (.cells ct ((dvs X.T cs).set off (.rs (n0+j) 0))))).set (n0+j) (some (.row e [] 0 0)))else none
         | _=>Yi X.E n0 (j+1) as (b.mapv (dv X.T),no.mapv (dvO X.T)))=some (r.1.mapv (dv X.T),r.2.mapv (dvO X.T))/\WfO X.E r.2:=fun z hh=>by
        obtain⟨g1,g2⟩:=Yh hh hw;refine⟨?_,g2⟩;split
        ·rename_i w;exact absurd rfl (z _ w)
        ·exact g1
       rcases Z96 X.T hX.t hc with⟨rfl,g⟩|⟨c,d,rfl,g,a⟩
       ·exact other (fun d u=>by rw[g]at u;cases u) h
       ·by_cases hcn:c=.nils
        ·subst hcn;rcases a with⟨_,rfl⟩|⟨a,_⟩
         ·simp only at h;obtain⟨ei,m,h⟩:=Z0 h;obtain⟨te,l,h⟩:=Z0 h;obtain⟨cs',n,h⟩:=Z0 h;obtain⟨s,h⟩:=Z3 h;obtain⟨h7,y⟩:=Z1a hX.t n;have h9:dvs X.T cs'=(dvs X.T cs).set off (.rs (n0+j) 0):=by
           rw[<-y,<-Zad _ _ _ (jc.1 g).1];simp[dvs,dv]
          obtain⟨f,o⟩:=Yh h ((hw.set (x:=some (.cells ct cs')) trivial).set (x:=some (.row e te [] 0 0)) trivial);rw[g];simp only[dv,m,jm];have k:(Nat.blt 0 ei.size&&(Option.map (dvO X.T) (no.get (n0+j))).isNone)=true:=by
           rw[<-s];cases no.get (n0+j)<;>rfl
          rw[k];simp only[jB];rw[Y6,Y6]at f;simp only[jq,dvO,h9]at f;exact⟨f,o⟩
         ·cases a
        ·refine other (fun d' i=>?_) ?_
         ·rw[g]at i;cases i;rcases a with⟨_,rfl⟩|⟨_,a⟩
          ·cases c<;>simp[dv]at hcn⊢
          ·intro e;subst e;simp[plain]at a
         ·cases c<;>first|exact h|exact absurd rfl hcn
      | _=>simp only[jq,dvO];exact Yh h hw
    | succ p=>simp only[jq,dv];exact Yh h hw
   | ap=>cases h
   | _=>simp only[jq,dv];exact Yh h hw
theorem ZgB {c:Z3K} {n0:Nat} {s s':StT S} (h:ZeJ X c n0 s=some s') (v:WfO X.E s.objs):Zds X.E c n0 (ZI X.T s)=some (ZI X.T s')/\WfO X.E s'.objs:=by
 unfold ZeJ at h;obtain⟨A,q,h⟩:=Z0 h;have g:=Zhr hX.t s.objs s.base n0 c.keep A;generalize ZbI s.objs s.base n0 c.keep A=XL at h g;simp only at h;generalize hLd:XL.map some++A=L at h;obtain⟨p,h⟩:=Z3 h;obtain⟨b,w,h⟩:=Z0 h;obtain⟨o,l,h⟩:=Z0 h;obtain⟨o2,u,h⟩:=Z0 h;obtain⟨r,h6,h⟩:=Z0 h;cases h;have e1:=ZcC X.T hX.t q;have e2:=Z6X (dv X.T) _ (fun t d=>bif Nat.testBit c.keep t then(ren n0 L d).bind fun d=>some (some d)else some none) (fun k x y a=>by
  cases hk:Nat.testBit c.keep k with
  | true =>
   rw[hk]at a;obtain⟨z,e,f⟩:=Z0 a;cases f;simp only[jB,Zcd hX.t _ _ _ _ e,jm,jq]
  | false=>rw[hk]at a;cases a;rfl) s.base 1 0 b w
 have e3:=Z6X (dvO X.T) _ (fun i x=>bif Nat.blt i n0 && !Z3c i L then(Z2F n0 L x).bind fun x=>some (some x)else some none) (fun k x y a=>by
  cases hk:(Nat.blt k n0 && !Z3c k L)with
  | true =>
   rw[hk]at a;obtain⟨z,e,f⟩:=Z0 a;cases f;simp only[jB,ZhX hX e,jq,jm]
  | false=>rw[hk]at a;cases a;rfl) s.objs 1 0 o l
 have w1:WfO X.E o:=Zk7 l v fun k x y a g=>by
  cases hk:(Nat.blt k n0 && !Z3c k L)with
  | true =>
   rw[hk]at a;obtain⟨z,e,f⟩:=Z0 a;cases f;cases x with
   | loop fid bb ps as bo bid ex pa po =>
    simp only[Z8w]at e;obtain⟨b',_,j⟩:=Z0 e;cases j;exact g
   | cells t cs =>
    simp only[Z8w]at e;obtain⟨b',_,j⟩:=Z0 e;cases j;trivial
   | row=>cases e;trivial
   | map=>cases e;trivial
   | siter=>cases e;trivial
   | mit m n =>
    simp only[Z8w]at e;obtain⟨_,e⟩:=Z3 e;cases e;trivial
   | bag=>cases e;trivial
  | false=>rw[hk]at a;cases a;trivial
 obtain⟨e4,w2⟩:=Z4R hX u w1;obtain⟨e5,w3⟩:=Yh hX h6 w2;refine⟨?_,w3⟩;unfold Zds;simp only[ZI];rw[e1,g,hLd,p];simp only[jB];rw[e2];simp only[jm];rw[e3];simp only[jm];rw[e4];simp only[jm];rw[e5];rfl
omit hX in
theorem ZiO (T:TS S) (x:Zk S):dvO T (ZhA x)=Z56 (dvO T x):=by cases x<;>rfl
omit hX in
theorem Z5B {α β γ:Type} (f:α->β) (g:β->γ):∀(t:Tr α),(t.mapv f).mapv g=t.mapv fun x=>g (f x)
 | .leaf=>rfl
 | .node l v r=>by simp only[Tr.mapv,Z5B f g l,Z5B f g r,Option.map_map];rfl
omit hX in
theorem ZiP {E:Env} {o:Tr (Zk S)} (a:WfO E o):WfO E (o.mapv ZhA):=fun i=>by
 rw[ZP];have:=a i;cases hq:o.get i with
 | none=>trivial
 | some x=>rw[hq]at this;cases x<;>exact this
theorem Zdu {a:Z3K} {n0:Nat} {s s':StT S} (h:ZfM X a n0 s=some s') (b:WfO X.E s.objs):Zdr X.E a n0 (ZI X.T s)=some (ZI X.T s')/\WfO X.E s'.objs:=by
 unfold ZfM at h;obtain⟨s1,c,h⟩:=Z0 h;cases h;obtain⟨k1,k2⟩:=ZgB hX c b;unfold Zdr;rw[k1];cases a.raw with
 | true=>exact⟨rfl,k2⟩
 | false =>
  refine⟨?_,ZiP k2⟩;simp only[jm,jA,ZI];congr 2;rw[Z5B,Z5B];congr 1;funext x;exact(ZiO X.T x).symm
end
end Go.Ab
namespace Go.Ab
variable {S:Nat->Type} {R:Type}
theorem Z7r {α β:Type} {f:α->β} {p:α->Bool} {q:β->Bool} (a:∀x,p x=true->q (f x)=true):∀{t:Tr α},t.allV p=true->(t.mapv f).allV q=true
 | .leaf,_=>rfl
 | .node l v r,h=>by
  simp only[Tr.allV,jn]at h;simp only[Tr.mapv,Tr.allV,jn];refine⟨Z7r a h.1,?_,Z7r a h.2.2⟩;cases v with
  | none=>rfl
  | some x=>exact a x h.2.1
theorem Z9X (f:Nat->Nat):∀(a b:List DV),rns f (a++b)=rns f a++rns f b
 | [],b=>by simp[rns]
 | c::a,b=>by simp only[List.cons_append,rns,Z9X f a b]
theorem Z8u (p:Nat->Bool):∀(a b:List DV),Z1h p (a++b)=(Z1h p a&&Z1h p b)
 | [],b=>by simp[Z1h]
 | c::a,b=>by simp only[List.cons_append,Z1h,Z8u p a b,Bool.and_assoc]
theorem Z7P (f:Nat->Nat):∀{cs:List DV},cs.all plain=true->rns f cs=cs
 | [],_=>rfl
 | c::cs,h=>by
  simp only[jt,jn]at h;simp only[rns,Z7P f h.2];cases c<;>simp[plain]at h<;>simp[rn]
theorem Z7O (p:Nat->Bool):∀{cs:List DV},cs.all plain=true->Z1h p cs=true
 | [],_=>rfl
 | c::cs,h=>by
  simp only[jt,jn]at h;simp only[Z1h,Z7O p h.2,Bool.and_true];cases c<;>simp[plain]at h<;>simp[okD]
theorem Zhl (f:Nat->Nat) (pid:Nat):∀(ts:List TypeId) (m:Nat),rn f (enD pid ts m)=enD (f pid) ts m
 | ts,0=>by cases ts<;>simp[enD,rn]
 | [],m+1=>by simp[enD,rn]
 | t::ts,1=>by simp[enD,rn,rns]
 | t::ts,m+2=>by simp only[enD];exact Zhl f pid ts (m+1)
theorem Zhj (f:Nat->Nat) (ts:List TypeId) (pid n:Nat) (a:Nat->Nat):rns f (eal ts pid n a)=eal ts (f pid) n a:=by
 unfold eal;generalize List.range n=l
 induction l with
 | nil=>rfl
 | cons x l ih=>simp only[jr,rns,ih,Zhl]
theorem ZeI (f:Nat->Nat):∀n:Nat,rns f (List.replicate n .nilif)=List.replicate n .nilif
 | 0=>rfl
 | n+1=>by simp only[List.replicate_succ,rns,ZeI f n,rn]
theorem Zjf {p:Nat->Bool} {pid:Nat} (a:p pid=true):∀{cs:List DV},cs.all (Z54 pid)=true->Z1h p cs=true
 | [],_=>rfl
 | c::cs,h=>by
  simp only[jt,jn]at h;simp only[Z1h,Zjf a h.2,Bool.and_true];rcases Z1v h.1 with e|⟨t,e⟩<;>subst e<;>simp[okD,Z1h,a]
theorem ZhM (p:Nat->Bool):∀n:Nat,Z1h p (List.replicate n .nilif)=true
 | 0=>rfl
 | n+1=>by simp only[List.replicate_succ,Z1h,ZhM p n,okD,ju]
section
variable {T:TS S} (hT:TOk T)
include hT
mutual
theorem Zbb (f:Nat->Nat):∀v:TV S,rn f (dv T v)=dv T (rnT f v)
 | .bool _=>by simp[dv,rn,rnT] | .int _ _=>by simp[dv,rn,rnT] | .str _=>by simp[dv,rn,rnT] | .nilp=>by simp[dv,rn,rnT] | .nils=>by simp[dv,rn,rnT]
 | .sl0=>by simp[dv,rn,rnT] | .sl _ _=>by simp[dv,rn,rnT]
 | .arr _ _ _=>by simp[dv,rn,rnT]
 | .stc _ _=>by simp[dv,rn,rnT]
 | .narr _ n=>by simp only[dv,rn,rnT,ZeI]
 | .earr ts pid n a=>by simp only[dv,rn,rnT,Zhj]
 | .ptr _ _=>by simp[dv,rn,rnT] | .ap _ _ _ _ _=>by simp[dv,rn,rnT] | .rptr _ _ _ _ _=>by simp[dv,rn,rnT]
 | .pub _=>by simp[dv,rn,rnT]
 | .rv _ _ _ _ _=>by simp[dv,rn,rnT] | .slen _=>by simp[dv,rn,rnT]
 | .rs _ _=>by simp[dv,rn,rnT] | .map _=>by simp[dv,rn,rnT] | .iter _=>by simp[dv,rn,rnT] | .yld _=>by simp[dv,rn,rnT]
 | .nilfn=>by simp[dv,rn,rnT] | .nilmap=>by simp[dv,rn,rnT] | .nilif=>by simp[dv,rn,rnT]
 | .agg cs=>by simp only[dv,rn,rnT,Zcl f cs]
 | .tup cs=>by simp only[dv,rn,rnT,Z7d f cs]
 | .fn _ a c=>by simp only[dv,rn,rnT,Z7d f a,Z7d f c]
 | .iface _ v=>by simp only[dv,rn,rnT,Zbb f v]
theorem Zcl (f:Nat->Nat):∀cs:List (TV S),rns f (dvs T cs)=dvs T (Z7c f cs)
 | []=>by simp[dvs,rns,Z7c]
 | c::cs=>by
  rw[Zv,Z9X,Z7c,Zv,Zcl f cs];have h:=Zbb f c;congr 1;cases c<;>simp only[Y5,rnT,rns]<;>first|(rw[h];simp only[rnT];done)|skip
  ·exact Z7P f (Yq hT _ _ _)
  ·exact Z7P f (hT.plain _ _)
  ·exact Zhj f _ _ _ _
  ·exact ZeI f _
theorem Z7d (f:Nat->Nat):∀cs:List (TV S),rns f (dvl T cs)=dvl T (Z7c f cs)
 | []=>by simp[dvl,rns,Z7c]
 | c::cs=>by simp only[dvl,rns,Z7c,Zbb f c,Z7d f cs]
end
mutual
theorem Z9L (p:Nat->Bool):∀v:TV S,Zc1 p v=true->okD p (dv T v)=true
 | .bool _,_=>by simp[dv,okD] | .int _ _,_=>by simp[dv,okD] | .str _,_=>by simp[dv,okD] | .nilp,_=>by simp[dv,okD] | .nils,_=>by simp[dv,okD]
 | .sl0,_=>by simp[dv,okD] | .sl _ _,_=>by simp[dv,okD]
 | .arr _ _ _,_=>by simp[dv,okD]
 | .stc _ _,_=>by simp[dv,okD]
 | .narr _ _,_=>by simp only[dv,okD];exact ZhM p _
 | .earr _ _ _ _,h=>by simp only[dv,okD];exact Zjf h (YA _ _ _ _)
 | .ptr _ _,h=>h | .ap _ _ _ _ _,h=>h | .rptr _ _ _ _ _,h=>h
 | .rv _ _ _ _ _,h=>h | .slen _,_=>by simp[dv,okD]
 | .rs _ _,h=>h | .map _,h=>h | .iter _,h=>h | .yld _,h=>h
 | .nilfn,_=>by simp[dv,okD] | .nilmap,_=>by simp[dv,okD] | .nilif,_=>by simp[dv,okD]
 | .pub cs,_=>by simp only[dv,okD]
 | .agg cs,h=>by simp only[dv,okD,Zc1]at h⊢;exact Z9M p cs h
 | .tup cs,h=>by simp only[dv,okD,Zc1]at h⊢;exact Z5a p cs h
 | .fn _ a c,h=>by
  simp only[dv,okD,Zc1,jn]at h⊢;exact⟨Z5a p a h.1,Z5a p c h.2⟩
 | .iface _ v,h=>by simp only[dv,okD,Zc1]at h⊢;exact Z9L p v h
theorem Z9M (p:Nat->Bool):∀cs:List (TV S),Z59 p cs=true->Z1h p (dvs T cs)=true
 | [],_=>by simp[dvs,Z1h]
 | c::cs,h=>by
  simp only[Z59,jn]at h;rw[Zv,Z8u,Z9M p cs h.2,Bool.and_true];have hc:=Z9L p c h.1;cases c<;>simp only[Y5,Z1h,Bool.and_true]<;>first|exact hc|skip
  ·exact Z7O p (Yq hT _ _ _)
  ·exact Z7O p (hT.plain _ _)
theorem Z5a (p:Nat->Bool):∀cs:List (TV S),Z59 p cs=true->Z1h p (dvl T cs)=true
 | [],_=>by simp[dvl,Z1h]
 | c::cs,h=>by
  simp only[Z59,jn]at h;simp only[dvl,Z1h,Z9L p c h.1,Z5a p cs h.2,ju]
end
omit hT in
theorem Z4n {α β γ:Type} (f:α->β) (g:β->γ):∀t:Tr α,(t.mapv f).mapv g=t.mapv fun x=>g (f x)
 | .leaf=>rfl
 | .node l v r=>by
  simp only[Tr.mapv,Z4n f g l,Z4n f g r];cases v<;>rfl
theorem Zi2 (f:Nat->Nat) (o:Zk S):rnO f (dvO T o)=dvO T (Zf3 f o):=by
 cases o<;>simp only[dvO,rnO,Zf3]
 ·rw[Zcl hT]
 ·rw[Z4n,Z4n];congr 1;congr 1;funext d;exact Zbb hT f d
theorem Zjy {p:Nat->Bool}:∀{o:Zk S},Zk2 p o=true->okO p (dvO T o)=true
 | .cells _ cs,h=>Z9M hT p cs h
 | .row _ _ _ _ _,_=>rfl
 | .map _ _ _,_=>rfl
 | .siter _ _,_=>rfl
 | .mit _ _,h=>h
 | .bag _ _ _ _,_=>rfl
 | .loop _ b _ _ _ _ _ _ _,h=>Z7r (fun d a=>Z9L hT p d a) h
theorem ZeM {p:Nat->Bool} {h:Nat->Option (Zk S)}:∀{is:List Nat},ZhO p h is=true->okH p (dvh T h) is=true
 | [],_=>rfl
 | i::is,hb=>by
  simp only[ZhO,jn]at hb;simp only[okH,jn];refine⟨?_,ZeM hb.2⟩;simp only[dvh];cases hi:h i with
  | none=>rfl
  | some o =>
   rw[hi]at hb;exact Zjy hT hb.1
theorem Zck (f:Nat->Nat) (h:Nat->Option (Zk S)):∀(is:List Nat),Z3j f (dvh T h) is=(Z5X f h is).mapv (dvO T)
 | []=>rfl
 | i::is=>by
  simp only[Z3j,Z5X,Zck f h is,Y6,dvh];congr 1;cases h i with
  | none=>rfl
  | some o=>simp only[jq,Zi2 hT]
theorem ZdJ (f:Nat->Nat) (h:Nat->Option (Zk S)):∀(is:List Nat),Z42 f (dvh T h) is=dvu T (Z7Z f h is)
 | []=>rfl
 | i::is=>by
  simp only[Z42,Z7Z,ZdJ f h is,dvu,jr,dvh];congr 2;cases h i with
  | none=>rfl
  | some o=>simp only[jq,Zi2 hT]
theorem Zhq {k:Nat} {v:TV S} {o:Tr (Zk S)} {n:Nat} {kk:TV S->Tr (Zk S)->Nat->Option R} {r:R} (h:Zfx k v o kk=some r) :
  ∃v' o' n',Z8m k (dv T v,o.mapv (dvO T),n)=some (dv T v',o'.mapv (dvO T),n')/\(∀i y,o'.get i=some y->∃j x,o.get j=some x/\y=Zf3 (Z2p k (geN k (Z24 o.get 4096 (Z1V v++upN 0 k) []))) x)/\kk v' o' n'=some r:=by
 unfold Zfx at h;rw[Za6]at h;obtain⟨a,h⟩:=Z3 h;rw[Zbd,Z3l (fun v k=>Za7 v k),Z3k]at h;refine⟨_,_,_,?_,fun i y hy=>?_,h⟩
 ·simp only[jn]at a;have e0:(o.mapv (dvO T)).get=dvh T o.get:=funext fun i=>ZP _ _ _;unfold Z8m;simp only[e0,Zch hT,Z3g hT,a.1,Bool.true_and];rw[Z9L hT _ v a.2.1,ZeM hT a.2.2];simp only[ju,jB,Zbb hT,Zck hT]
 ·have:∀(f:Nat->Nat) (is:List Nat),(Z5X f o.get is).get i=some y->∃j x,o.get j=some x/\y=Zf3 f x:=fun f is=>by
   induction is with
   | nil=>intro h;cases h
   | cons j is ih =>
    intro h;simp only[Z5X,Tr.get_set]at h
    by_cases e:i=f j
    ·rw[if_pos e]at h;cases hj:o.get j with
     | none=>rw[hj]at h;cases h
     | some x=>rw[hj]at h;cases h;exact⟨j,x,hj,rfl⟩
    ·rw[if_neg e]at h;exact ih h
  exact this _ _ hy
end
theorem Zfk {E:Env} {f:Nat->Nat} {x:Zk S} (h:WfL E (some x)):WfL E (some (Zf3 f x)):=by
 cases x<;>first|exact h|trivial
theorem Zeb {E:Env} {f:Nat->Nat} {h:Nat->Option (Zk S)} (a:∀i,WfL E (h i)):∀(is:List Nat),WfO E (Z5X f h is)
 | []=>fun i=>trivial
 | i::is=>by
  simp only[Z5X];refine(Zeb a is).set ?_;have:=a i;cases hi:h i with
  | none=>trivial
  | some x=>rw[hi]at this;exact Zfk this
theorem Zec {E:Env} {f:Nat->Nat} {h:Nat->Option (Zk S)} (b:∀i,WfL E (h i)):∀(is:List Nat),∀p∈Z7Z f h is,WfL E p.2
 | [],p,a=>by cases a
 | i::is,p,a=>by
  simp only[Z7Z]at a;rcases jv.1 a with e|e
  ·subst e;have:=b i;cases hi:h i with
   | none=>trivial
   | some x=>rw[hi]at this;exact Zfk this
  ·exact Zec b is p e
end Go.Ab
