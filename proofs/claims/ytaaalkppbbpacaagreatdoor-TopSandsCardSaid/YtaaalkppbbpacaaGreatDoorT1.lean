/- The same on typed values. -/
import Derived.Test.YtaaalkppbbpacaaGreatDoorA1
import Derived.Test.YtaaalkppbbpacaaGreatDoorA2
set_option linter.unusedSectionVars false
set_option linter.unusedVariables false
set_option linter.unusedSimpArgs false
namespace Go.Ab
inductive Ty where
 | bool
 | int (k:IntKind)
 | str
 | sl (t:Ty)
 | arr (n:Nat) (t:Ty)
 | st (i:Nat)
 deriving DecidableEq,Inhabited
def Val (S:Nat->Type):Ty->Type
 | .bool=>Bool
 | .int _=>Int
 | .str=>ByteArray
 | .sl t=>List (Val S t)
 | .arr _ t=>Nat->Val S t
 | .st i=>S i
inductive TV (S:Nat->Type) where
 | bool (b:Bool)
 | int (k:IntKind) (n:Int)
 | str (s:ByteArray)
 | nilp
 | ptr (id off:Nat)
 | ap (id base i esz off:Nat)
 | rptr (id ver i esz off:Nat)
 | pub (cs:List (TV S))
 | nils
 | sl0
 | sl (t:Ty) (xs:List (Val S t))
 | rv (id ver i n e:Nat)
 | slen (n:Nat)
 | rs (id ver:Nat)
 | arr (t:Ty) (n:Nat) (a:Nat->Val S t)
 | stc (i:Nat) (x:S i)
 | earr (ts:List TypeId) (pid n:Nat) (a:Nat->Nat)
 | narr (ts:List TypeId) (n:Nat)
 | agg (cs:List (TV S))
 | tup (vs:List (TV S))
 | fn (f:Fn) (first caps:List (TV S))
 | nilfn
 | map (id:Nat)
 | nilmap
 | iface (t:TypeId) (v:TV S)
 | nilif
 | iter (id:Nat)
 | yld (id:Nat)
inductive Zp (S:Nat->Type) where
 | cells (t:TypeId) (cs:List (TV S))
 | row (e:TypeId) (t:Ty) (xs:List (Val S t)) (pubd ver:Nat)
 | map (kt et:Ty) (m:List (Val S kt×Val S et))
 | siter (s:ByteArray) (pos:Nat)
 | loop (fid:Nat) (base:Tr (TV S)) (params:List Nat) (assign body:Code) (bid:Nat) (done:Ex) (path at_:List Nat)
structure TS (S:Nat->Type) where
 size:Nat->Nat
 cells:∀i,S i->List (TV S)
 dcells:∀i,S i->List DV
 rd:∀i,List (TV S)->Option (S i×List (TV S))
 dflt:∀i,S i
 seq:∀i,Option (S i->S i->Bool)
section
variable {S:Nat->Type}
def tsz (T:TS S):Ty->Nat
 | .arr n t=>n*tsz T t
 | .st i=>T.size i
 | _=>1
def tdf (T:TS S):(t:Ty)->Val S t
 | .bool=>false
 | .int _=>(0:Int)
 | .str=>ByteArray.empty
 | .sl _=>[]
 | .arr _ t=>fun _=>tdf T t
 | .st i=>T.dflt i
def YZ:Ty->Bool
 | .arr _ _ | .st _=>true
 | _=>false
def tcl (T:TS S):(t:Ty)->Val S t->List (TV S)
 | .bool,b=>[.bool b]
 | .int k,n=>[.int k n]
 | .str,s=>[.str s]
 | .sl t,xs=>[.sl t xs]
 | .arr n t,a=>[.arr t n a]
 | .st i,x=>[.stc i x]
def dcl (T:TS S):(t:Ty)->Val S t->List DV
 | .bool,b=>[.bool b]
 | .int k,n=>[.int k n]
 | .str,s=>[.str s]
 | .sl t,xs=>[.sl (xs.map (dcl T t))]
 | .arr n t,a=>(List.range n).flatMap fun j=>dcl T t (a j)
 | .st i,x=>T.dcells i x
def acl (T:TS S) (t:Ty) (n:Nat) (a:Nat->Val S t):List DV:=(List.range n).flatMap fun j=>dcl T t (a j)
def Z7E (T:TS S):(t:Ty)->Val S t->TV S
 | .bool,b=>.bool b
 | .int k,n=>.int k n
 | .str,s=>.str s
 | .sl t,xs=>.sl t xs
 | .arr n t,a=>.agg [.arr t n a]
 | .st i,x=>.agg [.stc i x]
def YS (T:TS S):(t:Ty)->Val S t->DV
 | .bool,b=>.bool b
 | .int k,n=>.int k n
 | .str,s=>.str s
 | .sl t,xs=>.sl (xs.map (dcl T t))
 | .arr n t,a=>.agg (acl T t n a)
 | .st i,x=>.agg (T.dcells i x)
def enD (pid:Nat):List TypeId->Nat->DV
 | _,0=>.nilif
 | [],_+1=>.nilif
 | t::_,1=>.iface t (.agg [.ptr pid 0])
 | _::ts,m+2=>enD pid ts (m+1)
def eal (ts:List TypeId) (pid n:Nat) (a:Nat->Nat):List DV:=(List.range n).map fun j=>enD pid ts (a j)
mutual
def dv (T:TS S):TV S->DV
 | .bool b=>.bool b
 | .int k n=>.int k n
 | .str s=>.str s
 | .nilp=>.nilp
 | .ptr id off=>.ptr id off
 | .ap id base i esz off=>.ptr id (base+i*esz+off)
 | .rptr id v i esz off=>.rptr id v i esz off
 | .pub cs=>.pub (dvs T cs)
 | .nils=>.nils
 | .sl0=>.sl []
 | .sl t xs=>.sl (xs.map (dcl T t))
 | .rs id v=>.rs id v
 | .rv id v i n e=>.rv id v i n e
 | .slen n=>.slen n
 | .arr _ _ _=>.nilp
 | .stc _ _=>.nilp
 | .earr ts pid n a=>.agg (eal ts pid n a)
 | .narr _ n=>.agg (List.replicate n .nilif)
 | .agg cs=>.agg (dvs T cs)
 | .tup vs=>.tup (dvl T vs)
 | .fn f a c=>.fn f (dvl T a) (dvl T c)
 | .nilfn=>.nilfn
 | .map id=>.map id
 | .nilmap=>.nilmap
 | .iface t v=>.iface t (dv T v)
 | .nilif=>.nilif
 | .iter id=>.iter id
 | .yld id=>.yld id
def dvs (T:TS S):List (TV S)->List DV
 | []=>[]
 | .arr t n a::cs=>acl T t n a++dvs T cs
 | .stc i x::cs=>T.dcells i x++dvs T cs
 | .earr ts pid n a::cs=>eal ts pid n a++dvs T cs
 | .narr _ n::cs=>List.replicate n .nilif++dvs T cs
 | c::cs=>dv T c::dvs T cs
def dvl (T:TS S):List (TV S)->List DV
 | []=>[]
 | c::cs=>dv T c::dvl T cs
end
def Zia (t:Ty):TV S->Option (List (Val S t))
 | .sl0=>some []
 | .sl t' xs=>if h:t'=t then some (h▸xs)else none
 | _=>none
def Z69:List (TV S)->Option (Bool×List (TV S))
 | .bool b::r=>some (b,r)
 | _=>none
def Yw (k:IntKind):List (TV S)->Option (Int×List (TV S))
 | .int k' n::r=>bif k==k' then some (n,r)else none
 | _=>none
def Z5G:List (TV S)->Option (ByteArray×List (TV S))
 | .str s::r=>some (s,r)
 | _=>none
def Z8b (t:Ty):List (TV S)->Option (List (Val S t)×List (TV S))
 | c::r=>(Zia t c).bind fun xs=>some (xs,r)
 | _=>none
def Z9h (n:Nat) (t:Ty):List (TV S)->Option ((Nat->Val S t)×List (TV S))
 | .arr t' n' a::r=>if h:t'=t then(bif Nat.beq n' n then some (h▸a,r)else none)else none
 | _=>none
def rdW (i:Nat) (f:List (TV S)->Option (S i×List (TV S))):List (TV S)->Option (S i×List (TV S))
 | .stc i' x::r=>if h:i'=i then some (h▸x,r)else none
 | cs=>f cs
def YT (T:TS S) (i:Nat):Nat->List (TV S)->List (TV S)
 | n+1,.stc i' x::r=>bif Nat.beq i' i then .stc i' x::r else YT T i n (T.cells i' x++r)
 | _,cs=>cs
def trd (T:TS S):(t:Ty)->List (TV S)->Option (Val S t×List (TV S))
 | .bool=>Z69
 | .int k=>Yw k
 | .str=>Z5G
 | .sl t=>Z8b t
 | .arr n t=>Z9h n t
 | .st i=>fun cs=>rdW i (T.rd i) (YT T i 6 cs)
def Z6W (T:TS S) (t:Ty) (cs:List (TV S)):Option (Val S t):=(trd T t cs).bind fun x=>match x.2 with
 | []=>some x.1
 | _=>none
def Yf:TV S->List (TV S)
 | .agg cs=>cs
 | .arr _ _ _=>[.nilp]
 | .stc _ _=>[.nilp]
 | v=>[v]
def Z8k:TV S->Bool
 | .agg _ | .tup _=>false
 | _=>true
def Y1:TV S->Bool
 | .arr _ _ _=>true
 | .stc _ _=>true
 | .earr _ _ _ _=>true
 | .narr _ _=>true
 | _=>false
def Z5O (T:TS S) (t:Ty) (v:TV S):Option (Val S t):=match v with
 | .agg cs=>bif YZ t then Z6W T t cs else none
 | v=>bif YZ t then none else Z6W T t [v]
def wd (T:TS S):TV S->Nat
 | .arr t n _=>n*tsz T t
 | .stc i _=>T.size i
 | .earr _ _ n _=>n
 | .narr _ n=>n
 | _=>1
def wds (T:TS S):List (TV S)->Nat
 | []=>0
 | c::cs=>wd T c+wds T cs
def Zaa (T:TS S):Nat->List (TV S)->Nat->Option (List (TV S))
 | 0,_,_=>none
 | _+1,[],n=>bif Nat.beq n 0 then some []else none
 | f+1,c::cs,n=>bif Nat.beq n 0 then some (c::cs)else bif Nat.ble (wd T c) n then Zaa T f cs (n-wd T c)else match c with
  | .stc i x=>Zaa T f (T.cells i x++cs) n
  | _=>none
def Z8I (T:TS S) (cs:List (TV S)) (n:Nat):Option (List (TV S)):=Zaa T 400 cs n
def ZaH (T:TS S):Nat->List (TV S)->Nat->Option (List (TV S))
 | 0,_,_=>none
 | _+1,[],n=>bif Nat.beq n 0 then some []else none
 | f+1,c::cs,n=>bif Nat.beq n 0 then some []else bif Nat.ble (wd T c) n then(ZaH T f cs (n-wd T c)).bind fun r=>some (c::r)else match c with
  | .stc i x=>ZaH T f (T.cells i x++cs) n
  | _=>none
def Zh2 (T:TS S) (cs:List (TV S)) (n:Nat):Option (List (TV S)):=ZaH T 400 cs n
def hdF (T:TS S):Nat->List (TV S)->List (TV S)
 | n+1,.stc i x::r=>hdF T n (T.cells i x++r)
 | _,cs=>cs
def xpF (T:TS S):Nat->List (TV S)->List (TV S)
 | n+1,.stc i x::r=>xpF T n (T.cells i x++r)
 | n+1,c::r=>c::xpF T n r
 | _,cs=>cs
def Z2Y (T:TS S) (cs:List (TV S)) (off:Nat) (vs:List (TV S)):Option (List (TV S)) :=
 (Zh2 T cs off).bind fun a=>(Z8I T cs (off+wds T vs)).bind fun b=>some (a++vs++b)
def Z9d (T:TS S) (ti:TI) (cs:List (TV S)) (off:Nat):Option (TV S) :=
 (Z8I T cs off).bind fun r=>bif ti.isAgg then(Zh2 T r ti.size).bind fun p=>some (.agg p)else match hdF T 10 r with
  | c::_=>bif Y1 c then none else some c
  | []=>none
structure Yk (S:Nat->Type) where
 E:Env
 T:TS S
 code:Nat->Option Ty
 zero:Nat->Option (List (TV S))
def Zan (X:Yk S) (t:TypeId) (cs:List (TV S)):List (TV S):=match X.code t with
 | some c=>(match Z6W X.T c cs with
  | some x=>tcl X.T c x
  | none=>cs)
 | none=>cs
def Z9m (nid:Nat):List (TV S)->List (TV S)
 | []=>[]
 | .narr ts n::cs=>.earr ts nid n (fun _=>0)::Z9m nid cs
 | c::cs=>c::Z9m nid cs
structure ZaP (S:Nat->Type) where
 val:Option (TV S)
 upd:List (Nat×Option (Zp S))
def ZdV:Value->Option (TV S)
 | .bool b=>some (.bool b)
 | .int k n=>some (.int k n)
 | .string s=>some (.str s)
 | .pointer none=>some .nilp
 | .slice none 0 0=>some .nils
 | .map none=>some .nilmap
 | .nilFunc=>some .nilfn
 | .nilIface=>some .nilif
 | _=>none
def ZX (ρ:Nat->Option (TV S)):Operand->Option (TV S)
 | .tmp t=>ρ t
 | .const v=>ZdV v
 | .func f=>some (.fn (.func f) [] [])
 | .global _=>none
def Z2I (ρ:Nat->Option (TV S)):List Operand->Option (List (TV S))
 | []=>some []
 | x::xs=>(ZX ρ x).bind fun v=>(Z2I ρ xs).bind fun vs=>some (v::vs)
mutual
def Zv:TV S->Bool
 | .bool _ | .int _ _ | .str _ | .nilp | .nils | .sl0 | .sl _ _ | .nilfn | .nilmap | .nilif=>true
 | .arr _ _ _ | .stc _ _=>true
 | .earr ts i n a=>Zc (eal ts i n a)
 | .narr _ _=>true
 | .agg cs=>YK cs
 | .tup cs=>YK cs
 | .fn _ a b=>YK a&&YK b
 | .iface _ v=>Zv v
 | _=>false
def YK:List (TV S)->Bool
 | []=>true
 | c::cs=>Zv c&&YK cs
end
mutual
def Z9T (n:Nat):TV S->Bool
 | .ptr i _ | .ap i _ _ _ _ | .rptr i _ _ _ _ | .rs i _ | .rv i _ _ _ _ | .map i | .iter i | .yld i=>Nat.blt i n
 | .agg cs=>Z5y n cs
 | .tup cs=>Z5y n cs
 | .fn _ a b=>Z5y n a&&Z5y n b
 | .iface _ v=>Z9T n v
 | .pub cs=>Z5y n cs
 | .earr _ i _ _=>Nat.blt i n
 | _=>true
def Z5y (n:Nat):List (TV S)->Bool
 | []=>true
 | c::cs=>Z9T n c&&Z5y n cs
end
mutual
def YH (h:Nat->Option (Zp S)):TV S->Option (TV S)
 | .rs id v=>(h id).bind fun | .row _ t xs _ u=>bif Nat.beq u v then some (.sl t xs)else none|_=>none
 | .agg cs=>(Z1Y h cs).bind fun cs=>some (.agg cs)
 | .tup cs=>(Z1Y h cs).bind fun cs=>some (.tup cs)
 | .iface t v=>(YH h v).bind fun v=>some (.iface t v)
 | .nils=>some .sl0
 | d=>bif Zv d then some d else none
def Z1Y (h:Nat->Option (Zp S)):List (TV S)->Option (List (TV S))
 | []=>some []
 | c::cs=>(YH h c).bind fun c=>(Z1Y h cs).bind fun cs=>some (c::cs)
end
mutual
def Y6:TV S->List Nat
 | .rs id _=>[id]
 | .rv id _ _ _ _=>[id]
 | .agg cs=>Yq cs
 | .tup cs=>Yq cs
 | .iface _ v=>Y6 v
 | _=>[]
def Yq:List (TV S)->List Nat
 | []=>[]
 | c::cs=>Y6 c++Yq cs
end
def Z5M (h:Nat->Option (Zp S)):List Nat->List (Nat×Option (Zp S))
 | []=>[]
 | i::is=>(match h i with|some (.row e t xs p u)=>bif Nat.beq p 1 then []else [(i,some (.row e t xs 1 u))]|_=>[])++Z5M h is
def Zgx:Zp S->Zp S
 | .row e t xs _ u=>.row e t xs 1 u
 | o=>o
mutual
def Z25:TV S->List Nat
 | .ptr i _ | .ap i _ _ _ _ | .rptr i _ _ _ _ | .rs i _ | .rv i _ _ _ _ | .map i | .iter i | .yld i=>[i]
 | .agg cs=>Z4Q cs
 | .tup cs=>Z4Q cs
 | .fn _ a b=>Z4Q a++Z4Q b
 | .iface _ v=>Z25 v
 | .earr ts i n a=>ZI (eal ts i n a)
 | _=>[]
def Z4Q:List (TV S)->List Nat
 | []=>[]
 | c::cs=>Z25 c++Z4Q cs
end
section ops
variable {R:Type}
abbrev Z2n (S:Nat->Type) (R:Type):=ZaP S->Option R
def ZT (v:TV S) (k:Z2n S R):Option R:=k ⟨some v,[]⟩
def Z3F:(t:Ty)->Option (Val S t->Val S t->Bool)
 | .bool=>some fun(a b:Bool)=>a==b
 | .int _=>some fun(a b:Int)=>a==b
 | .str=>some fun(a b:ByteArray)=>a==b
 | _=>none
def Z93 (T:TS S):(t:Ty)->Option (Val S t->Val S t->Bool)
 | .st i=>T.seq i
 | t=>Z3F t
def Z17:List (TV S)->List (TV S)->Option Bool
 | [],[]=>some true
 | .int k a::xs,.int k' b::ys=>bif k==k' then(Z17 xs ys).bind fun r=>some (a==b&&r)else none
 | .bool a::xs,.bool b::ys=>(Z17 xs ys).bind fun r=>some (a==b&&r)
 | .str a::xs,.str b::ys=>(Z17 xs ys).bind fun r=>some (a==b&&r)
 | .arr t n a::xs,.arr t' n' b::ys=>if h:t'=t then(bif Nat.beq n' n then(Z3F t).bind fun e=>(Z17 xs ys).bind fun r=>some (((List.range n).all fun j=>e (a j) ((h▸b:Nat->Val S t) j))&&r)else none)else none
 | _,_=>none
def Z3c:List (TV S)->List (TV S)->Bool
 | [],[]=>true
 | .int k _::zs,.int k' _::xs=>k==k'&&Z3c zs xs
 | .bool _::zs,.bool _::xs=>Z3c zs xs
 | .str _::zs,.str _::xs=>Z3c zs xs
 | .arr t n _::zs,.arr t' n' _::xs=>decide (t'=t)&&Nat.beq n' n&&(Z3F (S:=S) t).isSome&&Z3c zs xs
 | _,_=>false
def Zhd (X:Yk S) (op:BinOp) (t:TypeId) (x y:TV S) (k:Z2n S R):Option R :=
 match x,y with
 | .int kd a,.int kd' b =>
  match op with
  | .shl=>bif decide (b<0)then none else ZT (.int kd (kd.wrap (a*2 ^ (min b.toNat kd.bits)))) k
  | .shr=>bif decide (b<0)then none else ZT (.int kd (a.fdiv (2 ^ (min b.toNat kd.bits)))) k
  | .quo=>bif kd==kd' then(bif b==0 then none else ZT (.int kd (kd.wrap (a.tdiv b))) k)else none
  | .rem=>bif kd==kd' then(bif b==0 then none else ZT (.int kd (a.tmod b)) k)else none
  | .add=>bif kd==kd' then ZT (.int kd (kd.wrap (a+b))) k else none
  | .sub=>bif kd==kd' then ZT (.int kd (kd.wrap (a-b))) k else none
  | .mul=>bif kd==kd' then ZT (.int kd (kd.wrap (a*b))) k else none
  | .and=>bif kd==kd' then ZT (.int kd (kd.wrap (BitVec.ofInt kd.bits a &&& BitVec.ofInt kd.bits b).toNat)) k else none
  | .or=>bif kd==kd' then ZT (.int kd (kd.wrap (BitVec.ofInt kd.bits a ||| BitVec.ofInt kd.bits b).toNat)) k else none
  | .xor=>bif kd==kd' then ZT (.int kd (kd.wrap (BitVec.ofInt kd.bits a ^^^ BitVec.ofInt kd.bits b).toNat)) k else none
  | .eql=>bif kd==kd' then ZT (.bool (a==b)) k else none
  | .neq=>bif kd==kd' then ZT (.bool (a != b)) k else none
  | .lss=>bif kd==kd' then ZT (.bool (decide (a<b))) k else none
  | .leq=>bif kd==kd' then ZT (.bool (decide (a<=b))) k else none
  | .gtr=>bif kd==kd' then ZT (.bool (decide (a>b))) k else none
  | .geq=>bif kd==kd' then ZT (.bool (decide (a>=b))) k else none
  | _=>none
 | .str a,.str b =>
  match op with
  | .add=>bif Nat.ble (a.size+b.size) 1099511627776 then ZT (.str (a++b)) k else none
  | .eql=>ZT (.bool (a.toList==b.toList)) k
  | .neq=>ZT (.bool (!(a.toList==b.toList))) k
  | .lss=>ZT (.bool (Op.bytesLess a.toList b.toList)) k
  | .leq=>ZT (.bool (Op.bytesLess a.toList b.toList||(a.toList==b.toList))) k
  | .gtr=>ZT (.bool (!(Op.bytesLess a.toList b.toList||(a.toList==b.toList)))) k
  | .geq=>ZT (.bool (!(Op.bytesLess a.toList b.toList))) k
  | _=>none
 | .bool a,.bool b=>(X.E.ty t).bind fun ti=>match ti.k,op with
  | .bool,.eql=>ZT (.bool (a==b)) k
  | .bool,.neq=>ZT (.bool (!(a==b))) k
  | _,_=>none
 | .agg a,.agg b=>(X.E.ty t).bind fun ti=>(X.zero t).bind fun z=>let z:=xpF X.T 200 z;let a:=xpF X.T 200 a;let b:=xpF X.T 200 b;bif ti.eqOk&&Z3c z a&&Z3c z b then(match op with
  | .eql=>(Z17 a b).bind fun r=>ZT (.bool r) k
  | .neq=>(Z17 a b).bind fun r=>ZT (.bool (!r)) k
  | _=>none)else none
 | .sl _ xs,.nils=>(X.E.ty t).bind fun ti=>match ti.k,op with
  | .slice _,.eql=>bif xs.isEmpty then none else ZT (.bool false) k
  | .slice _,.neq=>bif xs.isEmpty then none else ZT (.bool true) k
  | _,_=>none
 | _,_=>none
def unK (op:UnOp) (x:TV S) (k:Z2n S R):Option R:=match x with
 | .int kd n=>match op with | .neg=>ZT (.int kd (kd.wrap (0-n))) k|_=>none
 | .bool b=>match op with | .not=>ZT (.bool (!b)) k|_=>none
 | _=>none
def Zcr (n:Nat) (x:TV S) (k:Nat->Option R):Option R:=match x with
 | .int _ i=>bif decide (0<=i)&&decide (i<n)then k i.toNat else none
 | _=>none
def Zi3 (c:Bool) (a b:Option (TV S)) (k:Z2n S R):Option R:=match a,b with
 | some (.bool x),some (.bool y)=>ZT (.bool (bif c then x else y)) k
 | a,b=>bif c then a.bind fun v=>ZT v k else b.bind fun v=>ZT v k
def ZaZ (t:Ty) (h:Nat->Option (Zp S)):TV S->Option (List (Val S t))
 | .nils=>some []
 | .sl0=>some []
 | .sl t' xs=>if e:t'=t then some (e▸xs)else none
 | .rs id v=>(h id).bind fun | .row _ t' xs _ u=>bif Nat.beq u v then(if e:t'=t then some (e▸xs)else none)else none|_=>none
 | _=>none
def Z8h (X:Yk S) (fs:List (Nat×Nat)):List (Nat×TV S)->List (TV S)->Option (List (TV S))
 | [],cs=>some cs
 | (i,v)::ps,cs=>(fs[i]?).bind fun f=>(X.E.ty f.1).bind fun ti =>
   bif Nat.beq (wds X.T (Yf v)) ti.size then(Z2Y X.T cs f.2 (Yf v)).bind fun cs=>Z8h X fs ps cs else none
def Z8g (X:Yk S) (t:Ty) (n:Nat):List (Nat×TV S)->(Nat->Val S t)->Option (Nat->Val S t)
 | [],a=>some a
 | (i,v)::ps,a=>(Z5O X.T t v).bind fun x=>bif Nat.blt i n then Z8g X t n ps (fun j=>bif Nat.beq j i then x else a j)else none
def Z9f (ρ:Nat->Option (TV S)):List (Nat×Operand)->Option (List (Nat×TV S))
 | []=>some []
 | (i,x)::ps=>(ZX ρ x).bind fun v=>(Z9f ρ ps).bind fun vs=>some ((i,v)::vs)
def Zf3 (X:Yk S) (h:Nat->Option (Zp S)) (t:Ty):Nat->List (Nat×TV S)->Option (List (Val S t))
 | _,[]=>some []
 | k,(i,v)::ps=>bif Nat.beq i k&&Nat.beq (wds X.T (Yf v)) (tsz X.T t)then(Z1Y h (Yf v)).bind fun c=>(Z6W X.T t c).bind fun x=>(Zf3 X h t (k+1) ps).bind fun r=>some (x::r)else none
def Zg2 (T:TS S):TV S->Nat->Option (TV S)
 | .ptr id off,n=>some (.ptr id (off+n))
 | .ap id b i e off,n=>some (.ap id b i e (off+n))
 | .rptr id v i e off,n=>some (.rptr id v i e (off+n))
 | .pub cs,n=>(Z8I T cs n).bind fun r=>some (.pub r)
 | _,_=>none
def Z8y (T:TS S) (cs:List (TV S)) (base:Nat):Option ((t:Ty)×Nat×(Nat->Val S t)):=(Z8I T cs base).bind fun r=>match hdF T 10 r with
 | .arr t n a::_=>some ⟨t,n,a⟩
 | _=>none
def ZaY (T:TS S) (cs:List (TV S)) (base:Nat):Option (List TypeId×Nat×Nat×(Nat->Nat)):=(Z8I T cs base).bind fun r=>match hdF T 10 r with
 | .earr ts pid n a::_=>some (ts,pid,n,a)
 | _=>none
def Zhn (pid m:Nat):List TypeId->Nat->Z2n S R->Option R
 | [],_,_=>none
 | t::ts,j,k=>bif Nat.beq m j then ZT (.iface t (.agg [.ptr pid 0])) k else Zhn pid m ts (j+1) k
def enK (ts:List TypeId) (pid m:Nat) (k:Z2n S R):Option R:=bif Nat.beq m 0 then ZT .nilif k else Zhn pid m ts 1 k
def Zhv (t:TypeId):List TypeId->Nat->Option Nat
 | [],_=>none
 | u::ts,j=>bif Nat.beq u t then some j else Zhv t ts (j+1)
def Zib (ts:List TypeId) (pid:Nat):TV S->Option Nat
 | .nilif=>some 0
 | .iface t (.agg [.ptr p 0])=>bif Nat.beq p pid then Zhv t ts 1 else none
 | _=>none
def ZeO (X:Yk S) (ti:TI) (h:Nat->Option (Zp S)) (a:TV S) (k:Z2n S R):Option R:=match a with
 | .ptr id off=>(h id).bind fun | .cells _ cs=>(Z9d X.T ti cs off).bind fun v=>ZT v k|_=>none
 | .ap id base i e off=>(h id).bind fun
  | .cells _ cs=>(match ZaY X.T cs base with
   | some (ts,pid,n,a)=>bif Nat.beq e 1&&Nat.beq off 0 && !ti.isAgg then(bif Nat.blt i n then enK ts pid (a i) k else none)else none
   | none=>(Z8y X.T cs base).bind fun A=>bif Nat.beq e (tsz X.T A.1)then(bif Nat.blt i A.2.1 then(Z9d X.T ti (tcl X.T A.1 (A.2.2 i)) off).bind fun v=>ZT v k else none)else none)
  | _=>none
 | .rptr id v i e off=>(h id).bind fun
  | .row _ t xs _ u=>bif Nat.beq u v&&Nat.beq (tsz X.T t) e then(bif Nat.blt i xs.length then(Z9d X.T ti (tcl X.T t (xs.getD i (tdf X.T t))) off).bind fun v=>ZT v k else none)else none
  | _=>none
 | .pub cs=>(Z9d X.T ti cs 0).bind fun v=>ZT v k
 | _=>none
def Zeg (X:Yk S) (ti:TI) (h:Nat->Option (Zp S)) (a v:TV S) (k:Z2n S R):Option R :=
  bif Nat.beq (wds X.T (Yf v)) ti.size&&(Yf v).all Z8k then
    match a with
    | .ptr id off=>(h id).bind fun
      | .cells t cs=>(Z2Y X.T cs off (Yf v)).bind fun cs=>k ⟨some (.tup []),[(id,some (.cells t (Zan X t cs)))]⟩
      | _=>none
    | .ap id base i e off=>(h id).bind fun
      | .cells t cs=>(match ZaY X.T cs base with
       | some (ts,pid,n,a)=>bif Nat.beq e 1&&Nat.beq off 0 then(bif Nat.blt i n then(Zib ts pid v).bind fun m =>
          (Z2Y X.T cs base [.earr ts pid n (fun j=>bif Nat.beq j i then m else a j)]).bind fun cs=>k ⟨some (.tup []),[(id,some (.cells t cs))]⟩else none)else none
       | none=>(Z8y X.T cs base).bind fun A=>bif Nat.beq e (tsz X.T A.1)then(bif Nat.blt i A.2.1 then
          (Z2Y X.T (tcl X.T A.1 (A.2.2 i)) off (Yf v)).bind fun c=>(Z6W X.T A.1 c).bind fun x =>
          (Z2Y X.T cs base [.arr A.1 A.2.1 (fun j=>bif Nat.beq j i then x else A.2.2 j)]).bind fun cs=>k ⟨some (.tup []),[(id,some (.cells t (Zan X t cs)))]⟩else none)else none)
      | _=>none
    | .rptr id ver i e off=>(h id).bind fun
      | .row et t xs p u=>bif Nat.beq u ver&&Nat.beq (tsz X.T t) e&&Nat.beq p 0&&YK (Yf v)then(bif Nat.blt i xs.length then
          (Z2Y X.T (tcl X.T t (xs.getD i (tdf X.T t))) off (Yf v)).bind fun c=>(Z6W X.T t c).bind fun x =>
            k ⟨some (.tup []),[(id,some (.row et t (xs.set i x) p u))]⟩else none)else none
      | _=>none
    | _=>none
  else none
def ZgE:TV S->TV S->Option (TV S)
 | .int k x,.int _ y=>some (.int k (bif decide (y<x)then y else x))
 | _,_=>none
def ZgC:TV S->TV S->Option (TV S)
 | .int k x,.int _ y=>some (.int k (bif decide (y>x)then y else x))
 | _,_=>none
def Zcf (f:TV S->TV S->Option (TV S)):TV S->List (TV S)->Option (TV S)
 | x,[]=>some x
 | x,y::ys=>(f x y).bind fun z=>Zcf f z ys
def Zif (k:TK) (h:Nat->Option (Zp S)) (d:TV S):Option (TV S) :=
 match k,d with
 | .string,.str s=>some (.int .i64 (s.size:Nat))
 | .map _ _,.nilmap=>some (.int .i64 0)
 | .map _ _,.map id=>(h id).bind fun | .map _ _ m=>some (.int .i64 (m.length:Nat))|_=>none
 | .slice _,.nils=>some (.int .i64 0)
 | .slice _,.sl0=>some (.int .i64 0)
 | .slice _,.slen n=>some (.int .i64 (n:Nat))
 | .slice _,.sl _ xs=>some (.int .i64 (xs.length:Nat))
 | .slice _,.rs id v=>(h id).bind fun | .row _ _ xs _ u=>bif Nat.beq u v then some (.int .i64 (xs.length:Nat))else none|_=>none
 | .array n _,_=>some (.int .i64 (n:Nat))
 | _,_=>none
def ZaQ (X:Yk S) (nid:Nat) (h:Nat->Option (Zp S)) (t:TypeId) (s x:TV S) (k:Z2n S R):Option R :=
 (X.E.ty t).bind fun ti=>match ti.k with
 | .slice e=>(X.E.ty e).bind fun ei=>(X.code e).bind fun te=>(ZaZ te h x).bind fun xs=>bif Nat.blt 0 ei.size&&Nat.ble ei.bytes 100000000000 then(match s with
  | .nils=>(match xs with
   | []=>ZT .nils k
   | y::ys=>bif Nat.ble ((y::ys).length*(ei.bytes+1)) 200000000000000 then k ⟨some (.rs nid 0),[(nid,some (.row e te (y::ys) 0 0))]⟩else none)
  | .rs id v=>(h id).bind fun
   | .row e' te' es p u=>bif Nat.beq u v&&Nat.beq e' e then(if q:te'=te then(bif Nat.ble ((es.length+xs.length)*(ei.bytes+1)) 200000000000000 then
     k ⟨some (.rs id (v+1)),[(id,some (.row e te ((q▸es:List (Val S te))++xs) p (v+1)))]⟩else none)else none)else none
   | _=>none
  | _=>none)else none
 | _=>none
def Z99 {α β:Type} (e:α->α->Bool) (k:α):List (α×β)->Option β
 | []=>none
 | (k',v)::m=>bif e k k' then some v else Z99 e k m
def ZhH {α β:Type} (e:α->α->Bool) (k:α) (v:β):List (α×β)->List (α×β)
 | []=>[(k,v)]
 | (k',v')::m=>bif e k k' then(k,v)::m else(k',v')::ZhH e k v m
def Z4J (d:Option (TV S)) (dflt y:Nat) (k:Nat->Option R):Option R:=match d with
 | none=>k dflt
 | some (.int _ i)=>bif decide (0<=i)&&decide (i<=y)then k i.toNat else none
 | _=>none
def zeroT (X:Yk S) (t:TypeId) (ti:TI):Option (TV S):=(X.zero t).bind fun z=>bif ti.isAgg then some (.agg z)else match z with
 | [c]=>bif Y1 c then none else some c
 | _=>none
def ZhK (ρ:Nat->Option (TV S)):Option Operand->Option (Option (TV S))
 | none=>some none
 | some x=>(ZX ρ x).bind fun v=>some (some v)
def Z6B (T:TS S) (ki:TI) (z:Option (List (TV S))):(t:Ty)->Val S t->Bool:=fun t x=>match ki.k,t,x with
 | .int _,.int _,_ | .string,.str,_ | .bool,.bool,_=>true
 | .struct _,.st i,x=>ki.eqOk&&ki.keyOk&&(match z with|some z=>Z3c (xpF T 200 z) (xpF T 200 [.stc i x])|none=>false)
 | _,_,_=>false
def Z6w (h:Nat->Option (Zp S)):TV S->Bool
 | .rs id _=>(match h id with|some (.row _ _ _ p _)=>Nat.beq p 0|_=>false)
 | _=>false
def Zi5 (e:Nat) (d:TV S) (l hh:Nat) (k:Z2n S R):Option R:=match d with
 | .rs id v=>ZT (.rv id v l (hh-l) e) k
 | _=>none
def ZeI:TV S->Bool
 | .rv _ _ _ _ _=>true
 | _=>false
mutual
def Zfd:TV S->Option (TV S)
 | .bool b=>some (.bool b)
 | .int k n=>some (.int k n)
 | .str s=>some (.str s)
 | .sl0=>some (.slen 0)
 | .sl _ xs=>some (.slen xs.length)
 | .tup vs=>(ZbQ vs).bind fun vs=>some (.tup vs)
 | _=>none
def ZbQ:List (TV S)->Option (List (TV S))
 | []=>some []
 | d::ds=>(Zfd d).bind fun d=>(ZbQ ds).bind fun ds=>some (d::ds)
end
def opK (X:Yk S) (nid:Nat) (ρ:Nat->Option (TV S)) (h:Nat->Option (Zp S)) (op:Op) (k:Z2n S R):Option R :=
  match op with
  | .move x=>(ZX ρ x).bind fun v=>ZT v k
  | .assign x=>(ZX ρ x).bind fun v=>ZT v k
  | .pick c a b=>(ZX ρ c).bind fun
    | .bool c=>Zi3 c (ZX ρ a) (ZX ρ b) k
    | _=>none
  | .alloc t=>(X.E.ty t).bind fun _=>(X.zero t).bind fun z=>k ⟨some (.ptr nid 0),[(nid,some (.cells t (Zan X t (Z9m nid z))))]⟩
  | .box t x=>(ZX ρ x).bind fun v=>bif(Yf v).all Z8k then k ⟨some (.ptr nid 0),[(nid,some (.cells t (Zan X t (Z9m nid (Yf v)))))]⟩else none
  | .build t ps=>(X.E.ty t).bind fun ti=>(Z9f ρ ps.toList).bind fun vs=>(X.zero t).bind fun z=>match ti.k with
    | .struct fs=>(Z8h X fs vs z).bind fun cs=>ZT (.agg cs) k
    | .array _ e=>(X.E.ty e).bind fun _=>(X.code e).bind fun te=>(match z with
      | [.arr te' n a]=>if q:te'=te then(Z8g X te n vs (q▸a)).bind fun a=>ZT (.agg [.arr te n a]) k else none
      | _=>none)
    | _=>none
  | .buildSlice t n ps=>(X.E.ty t).bind fun ti=>match ti.k with
    | .slice e=>(X.E.ty e).bind fun ei=>(X.code e).bind fun te=>(Z9f ρ ps.toList).bind fun vs=>(Zf3 X h te 0 vs).bind fun es =>
        bif Nat.beq es.length n&&Nat.ble (n*ei.size) 1048576&&Nat.blt 0 ei.size then k ⟨some (.rs nid 0),(nid,some (.row e te es 0 0))::Z5M h (Yq (vs.map (·.2)))⟩else none
    | _=>none
  | .load t a=>(X.E.ty t).bind fun ti=>(ZX ρ a).bind fun a=>ZeO X ti h a k
  | .store t a x=>(X.E.ty t).bind fun ti=>(ZX ρ a).bind fun a=>(ZX ρ x).bind fun v=>Zeg X ti h a v k
  | .nilCheck x=>(ZX ρ x).bind fun
    | .ptr i o=>ZT (.ptr i o) k
    | .ap i b j e o=>ZT (.ap i b j e o) k
    | .rptr i v j e o=>ZT (.rptr i v j e o) k
    | .pub cs=>ZT (.pub cs) k
    | _=>none
  | .binOp op t x y _=>(ZX ρ x).bind fun x=>(ZX ρ y).bind fun y=>Zhd X op t x y k
  | .unOp op _ x=>(ZX ρ x).bind fun x=>unK op x k
  | .convert s d x=>(X.E.ty s).bind fun _=>(X.E.ty d).bind fun ti=>(ZX ρ x).bind fun x=>match ti.k,x with
    | .int kd,.int _ n=>ZT (.int kd (kd.wrap n)) k
    | .string,.str s=>ZT (.str s) k
    | _,_=>none
  | .makeFunc f a c=>(Z2I ρ a.toList).bind fun a=>(Z2I ρ c.toList).bind fun c=>ZT (.fn f a c) k
  | .makeMap t none=>(X.E.ty t).bind fun ti=>match ti.k with
    | .map kt e=>(X.code kt).bind fun kt=>(X.code e).bind fun et=>k ⟨some (.map nid),[(nid,some (.map kt et []))]⟩
    | _=>none
  | .slice t x lo hi none=>(X.E.ty t).bind fun ti=>(ZX ρ x).bind fun x=>(ZhK ρ lo).bind fun lo=>(ZhK ρ hi).bind fun hi=>match ti.k,x with
    | .string,.str s=>Z4J hi s.size s.size fun h=>Z4J lo 0 h fun l=>ZT (.str (s.extract l h)) k
    | .array n e,.ptr id off=>(X.E.ty e).bind fun ei=>(h id).bind fun
      | .cells _ cs=>(Z8y X.T cs off).bind fun A=>bif Nat.beq A.2.1 n&&Nat.beq (tsz X.T A.1) ei.size&&Nat.blt 0 ei.size then
          Z4J hi n n fun hh=>Z4J lo 0 hh fun l=>k ⟨some (.sl A.1 ((((List.range n).map A.2.2).take hh).drop l)),[(id,none)]⟩else none
      | _=>none
    | .slice e,d=>(X.E.ty e).bind fun ei=>(X.code e).bind fun te=>(ZaZ te h d).bind fun es=>bif Nat.blt 0 ei.size then
        Z4J hi es.length es.length fun hh=>Z4J lo 0 hh fun l=>bif ti.view&&Z6w h d then Zi5 ei.size d l hh k else k ⟨some (.sl te ((es.take hh).drop l)),Z5M h (Y6 d)⟩else none
    | _,_=>none
  | .fieldAddr s x f=>(X.E.ty s).bind fun ti=>(ZX ρ x).bind fun x=>match ti.k with
    | .struct fs=>(fs[f]?).bind fun f=>(X.E.ty f.1).bind fun fi=>bif Nat.blt 0 fi.size then(Zg2 X.T x f.2).bind fun v=>ZT v k else none
    | _=>none
  | .field s x f=>(X.E.ty s).bind fun ti=>(ZX ρ x).bind fun x=>match ti.k,x with
    | .struct fs,.agg cs=>(fs[f]?).bind fun f=>(X.E.ty f.1).bind fun fi=>(Z9d X.T fi cs f.2).bind fun v=>ZT v k
    | _,_=>none
  | .indexAddr t x i=>(X.E.ty t).bind fun ti=>(ZX ρ x).bind fun x=>(ZX ρ i).bind fun i=>match ti.k with
    | .array len e=>(X.E.ty e).bind fun ei=>(match x with
      | .ptr id o=>Zcr len i fun i=>bif Nat.blt 0 len then ZT (.ap id o i ei.size 0) k else none
      | .pub cs=>(match hdF X.T 10 cs with
       | .arr t n a::cs=>bif Nat.beq n len&&Nat.beq (tsz X.T t) ei.size then Zcr len i fun i=>ZT (.pub (tcl X.T t (a i)++.arr t (n-(i+1)) (fun m=>a (i+1+m))::cs)) k else none
       | _=>none)
      | _=>none)
    | .slice e=>(X.E.ty e).bind fun ei=>(match x with
      | .sl te xs=>bif Nat.beq (tsz X.T te) ei.size&&Nat.blt 0 ei.size then Zcr xs.length i fun i=>ZT (.pub (tcl X.T te (xs.getD i (tdf X.T te)))) k else none
      | .rs id v=>(h id).bind fun
        | .row _ _ xs _ u=>bif Nat.beq u v&&Nat.blt 0 ei.size then Zcr xs.length i fun i=>ZT (.rptr id v i ei.size 0) k else none
        | _=>none
      | _=>none)
    | _=>none
  | .index t x i=>(X.E.ty t).bind fun ti=>(ZX ρ x).bind fun x=>(ZX ρ i).bind fun i=>match ti.k,x with
    | .array len e,.agg [.arr te n a]=>(X.E.ty e).bind fun ei=>bif Nat.beq n len&&Nat.beq (tsz X.T te) ei.size&&(ei.isAgg==YZ te)then Zcr len i fun i=>ZT (Z7E X.T te (a i)) k else none
    | .string,.str s=>Zcr s.size i fun i=>ZT (.int .u8 (s.toList.getD i 0).toNat) k
    | _,_=>none
  | .lookup t m kx ok=>(X.E.ty t).bind fun ti=>(ZX ρ m).bind fun m=>(ZX ρ kx).bind fun kv=>match ti.k,m with
    | .map kt e,.map id=>(X.E.ty e).bind fun ei=>(X.E.ty kt).bind fun ki=>(X.zero e).bind fun z=>(h id).bind fun
      | .map kc ec es=>(Z5O X.T kc kv).bind fun key=>bif Z6B X.T ki (X.zero kt) kc key&&Nat.beq ei.size 1 && !ei.isAgg && !YZ ec then(Z6W X.T ec z).bind fun zv=>(Z93 X.T kc).bind fun eq =>
          ZT (bif ok then .tup [Z7E X.T ec ((Z99 eq key es).getD zv),.bool (Z99 eq key es).isSome]else Z7E X.T ec ((Z99 eq key es).getD zv)) k else none
      | _=>none
    | _,_=>none
  | .mapUpdate t m kx v=>(X.E.ty t).bind fun ti=>(ZX ρ m).bind fun m=>(ZX ρ kx).bind fun kv=>(ZX ρ v).bind fun v=>match ti.k,m with
    | .map kt _,.map id=>(X.E.ty kt).bind fun ki=>(h id).bind fun
      | .map kc ec es=>(Z5O X.T kc kv).bind fun key=>bif Z6B X.T ki (X.zero kt) kc key && !YZ ec then(Z3F (S:=S) ec).bind fun _=>(Z5O X.T ec v).bind fun x=>(Z93 X.T kc).bind fun eq =>
          k ⟨some (.tup []),[(id,some (.map kc ec (ZhH eq key x es)))]⟩else none
      | _=>none
    | _,_=>none
  | .makeInterface t x=>(X.E.ty t).bind fun ti=>(ZX ρ x).bind fun v=>bif Y1 v then none else match ti.k with
    | .iface=>none
    | _=>ZT (.iface t v) k
  | .typeAssert x _ t ok=>(X.E.ty t).bind fun ti=>(ZX ρ x).bind fun x=>match ti.k,x with
    | .iface,_=>none
    | _,.nilif=>bif ok then(zeroT X t ti).bind fun z=>ZT (.tup [z,.bool false]) k else none
    | _,.iface t' v=>bif Nat.beq t' t then ZT (bif ok then .tup [v,.bool true]else v) k else bif ok then(zeroT X t ti).bind fun z=>ZT (.tup [z,.bool false]) k else none
    | _,_=>none
  | .makeSlice t l c=>(X.E.ty t).bind fun ti=>(ZX ρ l).bind fun l=>(ZX ρ c).bind fun c=>match ti.k,l,c with
    | .slice e,.int _ n,.int _ n'=>(X.E.ty e).bind fun ei=>(X.code e).bind fun te=>(X.zero e).bind fun z=>(Z6W X.T te z).bind fun zv=>bif n==n'&&decide (0<=n)&&Nat.ble (n.toNat*(ei.bytes+1)) 200000000000000&&Nat.blt 0 ei.size then
        k ⟨some (.rs nid 0),[(nid,some (.row e te (List.replicate n.toNat zv) 0 0))]⟩else none
    | _,_,_=>none
  | .range t x=>(X.E.ty t).bind fun ti=>(ZX ρ x).bind fun x=>match ti.k,x with
    | .string,.str s=>k ⟨some (.iter nid),[(nid,some (.siter s 0))]⟩
    | _,_=>none
  | .next it true=>(ZX ρ it).bind fun
    | .iter id=>(h id).bind fun
      | .siter s pos=>bif decide (pos<s.size)then
          k ⟨some (.tup [.bool true,.int .i64 (pos:Nat),.int .i32 (Utf8.decode s pos).1]),[(id,some (.siter s (pos+(Utf8.decode s pos).2)))]⟩
        else ZT (.tup [.bool false]) k
      | _=>none
    | _=>none
  | .extract t i=>(ZX ρ t).bind fun
    | .tup vs=>(vs[i]?).bind fun v=>ZT v k
    | _=>none
  | .call c=>match c.callee with
    | .builtin .len=>(match c.args.toList,c.argTypes.toList with
      | [x],t::_=>(X.E.ty t).bind fun ti=>(ZX ρ x).bind fun x=>(Zif ti.k h x).bind fun v=>ZT v k
      | _,_=>none)
    | .builtin .append=>(match c.args.toList,c.argTypes.toList with
      | [s,x],[t,t']=>bif Nat.beq t t' then(ZX ρ s).bind fun s=>(ZX ρ x).bind fun x=>ZaQ X nid h t s x k else none
      | _,_=>none)
    | .builtin .min=>(Z2I ρ c.args.toList).bind fun vs=>(match vs with|x::xs=>(Zcf ZgE x xs).bind fun v=>ZT v k|[]=>none)
    | .builtin .max=>(Z2I ρ c.args.toList).bind fun vs=>(match vs with|x::xs=>(Zcf ZgC x xs).bind fun v=>ZT v k|[]=>none)
    | _=>none
  | _=>none
def ZbO (E:Env) (ρ:Nat->Option (TV S)) (c:Call):Option (TV S×List (TV S)) :=
 match c.callee with
 | .value f=>(ZX ρ f).bind fun
  | .fn (.func g) first caps=>(Z2I ρ c.args.toList).bind fun as=>some (.fn (.func g) [] [],first++as++caps)
  | .yld id=>(Z2I ρ c.args.toList).bind fun as=>some (.yld id,as)
  | _=>none
 | .invoke r m=>(ZX ρ r).bind fun
  | .iface t v=>(E.ty t).bind fun ti=>(Z7k m ti.meths).bind fun g=>(Z2I ρ c.args.toList).bind fun as=>some (.fn (.func g) [] [],v::as)
  | _=>none
 | _=>none
def ZeU (E:Env):TV S×List (TV S)->Bool
 | (.fn (.func g) _ _,_)=>match E.fn g with
  | some F=>F.pur
  | none=>false
 | _=>false
structure Z3H (S:Nat->Type) (R:Type) where
 fn:Nat->List (TV S)->(TV S->Option R)->Option R
 /-- calls on the heap whose numbers begin just above those that they can see -/
 pr:Nat->List (TV S)->Tr (Zp S)->Nat->(TV S->Tr (Zp S)->Nat->Option R)->Option R
def Zcm (E:Env) (h:Nat->Option (Zp S)):TV S->Option (TV S)
 | .rv id v i n e=>(h id).bind fun
  | .row t te xs _ u=>bif Nat.beq u v&&Nat.beq (match E.ty t with|some ti=>ti.size|none=>0) e then some (.sl te ((xs.drop i).take n))else none
  | _=>none
 | d=>YH h d
def Z7b (E:Env) (h:Nat->Option (Zp S)):List (TV S)->Option (List (TV S))
 | []=>some []
 | d::ds=>(Zcm E h d).bind fun c=>(Z7b E h ds).bind fun cs=>some (c::cs)
def ZhY (E:Env) (cs:Z3H S R) (h:Nat->Option (Zp S)) (tgt:TV S×List (TV S)) (k:Z2n S R):Option R:=match tgt with
 | (.fn (.func g) _ _,as)=>(Z7b E h as).bind fun fs=>cs.fn g fs fun r=>bif as.any ZeI then(Zfd r).bind fun r=>ZT r k else k ⟨some r,Z5M h (Yq as)⟩
 | _=>none
def ZaE (X:Yk S) (cs:Z3H S R) (nid:Nat) (ρ:Nat->Option (TV S)) (h:Nat->Option (Zp S)) (op:Op) (k:Z2n S R) (ki:TV S×List (TV S)->Option R):Option R :=
 match Z3b op with
 | none=>opK X nid ρ h op k
 | some c=>(ZbO X.E ρ c).bind fun tgt=>bif ZeU X.E tgt then ZhY X.E cs h tgt k else ki tgt
structure StT (S:Nat->Type) where
 base:Tr (TV S)
 objs:Tr (Zp S)
 next:Nat
structure Z2o (S:Nat->Type) where
 base:Tr (TV S)
 loc:List (Nat×Option (TV S))
 objs:Tr (Zp S)
 next:Nat
def Z8S (l:List (Nat×Option (TV S))) (t:Nat):Option (Option (TV S)):=match l with
 | []=>none
 | (s,v)::l=>bif Nat.beq s t then some v else Z8S l t
def Z1v (V:Nat) (base:Tr (TV S)) (loc:List (Nat×Option (TV S))) (t:Nat):Option (TV S) :=
 bif Nat.testBit V t then base.get t else(match Z8S loc t with|some v=>v|none=>none)
def Z4B (o:Tr (Zp S)):List (Nat×Option (Zp S))->Tr (Zp S)
 | []=>o
 | (i,x)::us=>Z4B (o.set i x) us
def Z2o.put (V nt:Nat) (m:Z2o S) (dst:Option Tmp) (v:Option (TV S)):Z2o S :=
 match dst with
 | none=>m
 | some d=>bif !Nat.blt d nt then m else bif Nat.testBit V d then { m with base:=m.base.set d v }else { m with loc:=(d,v)::m.loc }
def knF (kn:List (Nat×Bool)) (t:Nat):Option Bool:=match kn with
 | []=>none
 | (s,b)::l=>bif Nat.beq s t then some b else knF l t
def Z4T (kn:List (Nat×Bool)) (dst:Option Tmp):List (Nat×Bool):=match dst with
 | none=>kn
 | some d=>kn.filter fun p => !Nat.beq p.1 d
def ovK (kn:List (Nat×Bool)) (t:Nat) (v:Option (TV S)):Option (TV S):=match kn with
 | []=>v
 | _=>match v with
  | some (.bool b)=>(match knF kn t with|some b0=>some (.bool b0)|none=>some (.bool b))
  | v=>v
def Zfc (ops:Array Oper) (ρ:Nat->Option (TV S)) (o:Oper) (kn:List (Nat×Bool)) (f:Bool->List (Nat×Bool)->Option R):Option R :=
 match o.guard with
 | none=>f true kn
 | some (j,want)=>match(ops[j]?).bind (·.dst)with
  | some t=>(match ρ t with
   | some (.bool b)=>bif b then f (true==want) ((t,true)::kn)else f (false==want) ((t,false)::kn)
   | some _=>f false kn
   | none=>none)
  | none=>none
abbrev Z2C (S:Nat->Type) (R:Type):=List Nat->Nat->List (TV S)->Tr (Zp S)->Nat->(TV S->Tr (Zp S)->Nat->Option R)->Option R
section strict
variable {α β:Type}
def sN (n:Nat) (k:Nat->α):α:=match n with
 | 0=>k 0
 | m+1=>k (m+1)
mutual
def sV:TV S->(TV S->α)->α
 | .ptr i o,k=>sN i fun i=>sN o fun o=>k (.ptr i o)
 | .ap i b j e o,k=>sN i fun i=>sN b fun b=>sN e fun e=>sN o fun o=>k (.ap i b j e o)
 | .rptr i v j e o,k=>sN i fun i=>sN v fun v=>sN e fun e=>sN o fun o=>k (.rptr i v j e o)
 | .pub cs,k=>sVs cs fun cs=>k (.pub cs)
 | .rs i v,k=>sN i fun i=>sN v fun v=>k (.rs i v)
 | .rv i v j n e,k=>sN i fun i=>sN v fun v=>k (.rv i v j n e)
 | .slen n,k=>k (.slen n)
 | .agg cs,k=>sVs cs fun cs=>k (.agg cs)
 | .tup cs,k=>sVs cs fun cs=>k (.tup cs)
 | .fn f a c,k=>sVs a fun a=>sVs c fun c=>k (.fn f a c)
 | .map i,k=>sN i fun i=>k (.map i)
 | .iface t v,k=>sV v fun v=>k (.iface t v)
 | .iter i,k=>sN i fun i=>k (.iter i)
 | .yld i,k=>sN i fun i=>k (.yld i)
 | .bool b,k=>k (.bool b)
 | .int d n,k=>k (.int d n)
 | .str b,k=>k (.str b)
 | .nilp,k=>k .nilp
 | .nils,k=>k .nils
 | .sl0,k=>k .sl0
 | .sl t xs,k=>k (.sl t xs)
 | .arr t n a,k=>k (.arr t n a)
 | .stc i x,k=>k (.stc i x)
 | .earr ts p n a,k=>sN p fun p=>k (.earr ts p n a)
 | .narr ts n,k=>k (.narr ts n)
 | .nilfn,k=>k .nilfn
 | .nilmap,k=>k .nilmap
 | .nilif,k=>k .nilif
def sVs:List (TV S)->(List (TV S)->α)->α
 | [],k=>k []
 | c::cs,k=>sV c fun c=>sVs cs fun cs=>k (c::cs)
end
def sNs:List Nat->(List Nat->α)->α
 | [],k=>k []
 | i::is,k=>sN i fun i=>sNs is fun is=>k (i::is)
def sTr (f:β->(β->α)->α):Tr β->(Tr β->α)->α
 | .leaf,k=>k .leaf
 | .node l v r,k=>sTr f l fun l=>(match v with
  | none=>sTr f r fun r=>k (.node l none r)
  | some x=>f x fun x=>sTr f r fun r=>k (.node l (some x) r))
def sO:Zp S->(Zp S->α)->α
 | .cells t cs,k=>sVs cs fun cs=>k (.cells t cs)
 | .row e t xs p v,k=>sN v fun v=>k (.row e t xs p v)
 | .map a b m,k=>k (.map a b m)
 | .siter s p,k=>k (.siter s p)
 | .loop f b ps as bo bid ex pa po,k=>sTr sV b fun b=>k (.loop f b ps as bo bid ex pa po)
def sSt (s:StT S) (k:StT S->α):α:=sTr sV s.base fun b=>sTr sO s.objs fun o=>sN s.next fun n=>k ⟨b,o,n⟩
end strict
mutual
def Z1X:TV S->List Nat
 | .ptr i _ | .ap i _ _ _ _ | .rptr i _ _ _ _ | .rs i _ | .rv i _ _ _ _ | .map i | .iter i | .yld i=>[i]
 | .agg cs=>Z2P cs
 | .tup cs=>Z2P cs
 | .fn _ a b=>Z2P a++Z2P b
 | _=>[]
def Z2P:List (TV S)->List Nat
 | []=>[]
 | c::cs=>Z1X c++Z2P cs
end
def ZgT:Zp S->List Nat
 | .cells _ cs=>Z2P cs
 | .loop _ b _ _ _ _ _ _ _=>(b.ents 1 0).flatMap fun p=>Z1X p.2
 | _=>[]
def Z28 (h:Nat->Option (Zp S)):Nat->List Nat->List Nat->List Nat
 | 0,_,acc=>acc
 | _+1,[],acc=>acc
 | n+1,i::todo,acc=>bif acc.any (Nat.beq i)then Z28 h n todo acc else match h i with
  | some o=>Z28 h n (ZgT o++todo) (i::acc)
  | none=>Z28 h n todo acc
def Z7B (h:Nat->Option (Zp S)):List Nat->Tr (Zp S)
 | []=>.leaf
 | i::is=>(Z7B h is).set i (h i)
def ZaV (o:Tr (Zp S)) (R:List Nat) (nx:Nat):List (Nat×Option (Zp S)):=(R++((o.ents 1 0).map (·.1)).filter (Nat.ble nx)).map fun i=>(i,o.get i)
def Z2O (h:Nat->Option (Zp S)):TV S->TV S
 | .rs id v=>(match h id with
  | some (.row _ t xs p u)=>bif Nat.beq p 1&&Nat.beq u v then .sl t xs else .rs id v
  | _=>.rs id v)
 | d=>d
def Z5B (h:Nat->Option (Zp S)):TV S->TV S
 | .agg cs=>.agg (cs.map (Z2O h))
 | d=>Z2O h d
def Zhj (run:Tr (Zp S)->(TV S->Tr (Zp S)->Nat->Option R)->Option R) (h:Nat->Option (Zp S)) (nx:Nat) (is Rs:List Nat) (k:ZaP S->List Nat->Nat->Option R):Option R :=
 sNs Rs fun Rs=>sTr sO (Z7B h Rs) fun o=>run o fun v o n=>bif Nat.ble nx n then k ⟨some v,ZaV o Rs nx⟩ (is++Rs) n else none
def Z6j (callH callY:Z2C S R) (path:List Nat) (h:Nat->Option (Zp S)) (nx:Nat) (tgt:TV S×List (TV S)) (k:ZaP S->List Nat->Nat->Option R):Option R:=match tgt with
 | (.fn (.func g) _ _,as)=>sVs (as.map (Z5B h)) fun fs=>Zhj (fun o k=>callH path g fs o nx k) h nx (Yq as) (Z28 h 4096 (Z2P fs) []) k
 | (.yld id,as)=>sVs (as.map (Z5B h)) fun fs=>Zhj (fun o k=>callY path id fs o nx k) h nx (Yq as) (Z28 h 4096 (id::Z2P fs) []) k
 | _=>none
def ZfN (X:Yk S) (cs:Z3H S R) (callH callY:Z2C S R) (path:List Nat) (V nt:Nat) (ops:Array Oper) (b:Nat):Nat->List Oper->List (Nat×Bool)->Z2o S->(Z2o S->Option R)->Option R
 | _,[],_,m,kk=>kk m
 | k,o::os,kn,m,kk =>
  Zfc ops (fun t=>ovK kn t (Z1v V m.base m.loc t)) o kn fun want kn=>bif want then
   ZaE X cs (b+k) (fun t=>ovK kn t (Z1v V m.base m.loc t)) m.objs.get o.op
    (fun r=>ZfN X cs callH callY path V nt ops b (k+1) os (Z4T kn o.dst) ({ m with objs:=Z4B m.objs r.upd }.put V nt o.dst r.val) kk)
    (fun tgt=>Z6j callH callY (k::path) m.objs.get m.next tgt fun x _ n=>ZfN X cs callH callY path V nt ops b (k+1) os (Z4T kn o.dst) ({ m with objs:=Z4B m.objs x.upd,next:=n }.put V nt o.dst x.val) kk)
  else ZfN X cs callH callY path V nt ops b (k+1) os (Z4T kn o.dst) (m.put V nt o.dst (some (.tup []))) kk
structure Z1n (S:Nat->Type) where
 dst:Option Tmp
 anc:Nat
 touch:List Nat
 out:ZaP S
 new:Option (Nat×Nat)
def Z9I (ρ:Nat->Option (TV S)) (op:Op):List Nat:=op.operands.toList.flatMap fun x=>match ZX ρ x with|some d=>Z25 d|none=>[]
def Z3y (anc:Nat) (ρ:Nat->Option (TV S)):List (Nat×Z1n S)->Nat->Option (TV S)
 | [],t=>ρ t
 | (j,d)::ds,t=>bif(match d.dst with|some s=>Nat.beq s t|none=>false)then(bif Nat.testBit anc j then d.out.val else none)else Z3y anc ρ ds t
def Z3r (id:Nat):List (Nat×Option (Zp S))->Option (Option (Zp S))
 | []=>none
 | (i,x)::us=>match Z3r id us with
  | some y=>some y
  | none=>bif Nat.beq i id then some x else none
def Z4s (anc:Nat) (h:Nat->Option (Zp S)):List (Nat×Z1n S)->Nat->Option (Zp S)
 | [],id=>h id
 | (j,d)::ds,id=>match Z3r id d.out.upd with
  | some x=>bif Nat.testBit anc j then x else none
  | none=>Z4s anc h ds id
def Z4G (ops:Array Oper) (ds:List (Nat×Z1n S)) (o:Oper) (k:Nat):Nat :=
 o.after.toList.foldl (fun m e=>bif Region.binds .any e&&Nat.blt e.on k then m ||| (1 <<< e.on) ||| ((ds.find? (fun d=>Nat.beq d.1 e.on)).map (·.2.anc)).getD 0 else m) 0
def Z4l (V nt:Nat):List (Nat×Z1n S)->Z2o S->Z2o S
 | [],m=>m
 | (_,d)::ds,m=>let m:=Z4l V nt ds m;{ m with objs:=Z4B m.objs d.out.upd }.put V nt d.dst d.out.val
def Z8H (X:Yk S) (cs:Z3H S R) (callH callY:Z2C S R) (path:List Nat) (V nt:Nat) (ops:Array Oper) (b:Nat):Nat->List Oper->List (Nat×Bool)->Z2o S->List (Nat×Z1n S)->(Z2o S->Option R)->Option R
 | _,[],_,m,ds,kk=>kk (Z4l V nt ds m)
 | k,o::os,kn,m,ds,kk =>
  let anc:=Z4G ops ds o k
  let ρ0:=Z3y anc (Z1v V m.base m.loc) ds
  let h:=Z4s anc m.objs.get ds
  bif o.after.all (fun e => !Region.binds .any e||Nat.blt e.on k)&&(match o.dst with|none=>true|some t=>Nat.blt t nt)&&ds.all (fun d=>Nat.testBit anc d.1||(match o.dst with
    | none=>true
    | some t => !((ops.getD d.1 o).looksAt ops).contains t && !(match d.2.dst with|some s=>Nat.beq s t|none=>false)))then
   Zfc ops (fun t=>ovK kn t (ρ0 t)) o kn fun want kn =>
    let ρ:=fun t=>ovK kn t (ρ0 t)
    bif want then
     ZaE X cs (b+k) ρ h o.op
      (fun r=>bif r.upd.all (fun u=>ds.all (fun d=>Nat.testBit anc d.1 || !d.2.touch.contains u.1&&(Z3r u.1 d.2.out.upd).isNone))then
       Z8H X cs callH callY path V nt ops b (k+1) os (Z4T kn o.dst) m ((k,⟨o.dst,anc,Z9I ρ o.op,r,none⟩)::ds) kk
      else none)
      (fun tgt=>Z6j callH callY (k::path) h m.next tgt fun x T n =>
       bif ds.all (fun d=>Nat.testBit anc d.1||d.2.new.isNone&&x.upd.all (fun u => !d.2.touch.contains u.1&&(Z3r u.1 d.2.out.upd).isNone))then
        Z8H X cs callH callY path V nt ops b (k+1) os (Z4T kn o.dst) { m with next:=n } ((k,⟨o.dst,anc,T,x,some (m.next,n)⟩)::ds) kk
       else none)
    else Z8H X cs callH callY path V nt ops b (k+1) os (Z4T kn o.dst) m ((k,⟨o.dst,anc,[],⟨some (.tup []),[]⟩,none⟩)::ds) kk
  else none
def Zbu (X:Yk S) (cs:Z3H S R) (callH callY:Z2C S R) (path:List Nat) (V nt:Nat) (ops:Array Oper) (draw:Bool) (s:StT S) (kk:StT S->Option R):Option R :=
 bif draw then Z8H X cs callH callY path V nt ops s.next 0 ops.toList [] ⟨s.base,[],s.objs,s.next+ops.size⟩ [] fun m=>sSt ⟨m.base,m.objs,m.next⟩ kk
 else ZfN X cs callH callY path V nt ops s.next 0 ops.toList [] ⟨s.base,[],s.objs,s.next+ops.size⟩ fun m=>sSt ⟨m.base,m.objs,m.next⟩ kk
def ZiC:TV S->Bool
 | .arr _ _ _ | .stc _ _=>true
 | _=>false
def ZaT (T:TS S) (cs:List (TV S)) (off:Nat):Option (Option (TV S)):=(Z8I T cs off).bind fun
 | []=>some none
 | c::_=>bif Y1 c then(bif ZiC c&&Nat.blt 0 (wd T c)then some (some (.bool false))else none)else some (some c)
def Zh9 (T:TS S) (o:Tr (Zp S)) (b0:Tr (TV S)):Acc->Option (Option (Nat×Nat))
 | .slot t _=>(match b0.get t with
  | some (.rs id v)=>some (some (id,v))
  | _=>some none)
 | .cell t off _=>(match b0.get t with
  | some (.ptr q 0)=>(match o.get q with
   | some (.cells _ cs)=>(ZaT T cs off).bind fun
    | some (.rs id v)=>some (some (id,v))
    | _=>some none
   | _=>some none)
  | some (.ap _ _ _ _ _)=>none
  | _=>some none)
def Zeq (T:TS S) (o:Tr (Zp S)) (b0:Tr (TV S)):List Acc->Option (List (Option (Nat×Nat)))
 | []=>some []
 | a::as=>(Zh9 T o b0 a).bind fun x=>(Zeq T o b0 as).bind fun xs=>some (x::xs)
mutual
def Z3j (n0:Nat) (L:List (Option (Nat×Nat))):TV S->Option (TV S)
 | .rs id v=>match Z5A id v 0 L with
  | some j=>some (.rs (n0+j) 0)
  | none=>bif Nat.blt id n0 && !Z3f id L then some (.rs id v)else none
 | .agg cs=>(Z7X n0 L cs).bind fun cs=>some (.agg cs)
 | .tup cs=>(Z7X n0 L cs).bind fun cs=>some (.tup cs)
 | d=>bif Z9T n0 d then some d else none
def Z7X (n0:Nat) (L:List (Option (Nat×Nat))):List (TV S)->Option (List (TV S))
 | []=>some []
 | c::cs=>(Z3j n0 L c).bind fun c=>(Z7X n0 L cs).bind fun cs=>some (c::cs)
end
def Zau (n0:Nat) (L:List (Option (Nat×Nat))):Zp S->Option (Zp S)
 | .cells t cs=>(Z7X n0 L cs).bind fun cs=>some (.cells t cs)
 | .loop fid b ps as bo bid ex pa po=>(b.tm (fun _ d=>(Z3j n0 L d).bind fun d=>some (some d)) 1 0).bind fun b=>some (.loop fid b ps as bo bid ex pa po)
 | o=>some o
def Z3J (o:Tr (Zp S)) (n0:Nat):Nat->List (Option (Nat×Nat))->Tr (Zp S)->Option (Tr (Zp S))
 | _,[],no=>some no
 | j,none::l,no=>Z3J o n0 (j+1) l no
 | j,some (id,v)::l,no=>(match o.get id with
  | some (.row e t es p u)=>bif Nat.beq u v then Z3J o n0 (j+1) l (no.set (n0+j) (some (.row e t es p 0)))else none
  | _=>none)
def Z13 (X:Yk S) (n0:Nat):Nat->List Acc->Tr (TV S)×Tr (Zp S)->Option (Tr (TV S)×Tr (Zp S))
 | _,[],r=>some r
 | j,.slot t e::as,(b,no)=>(match b.get t with
  | some .nils=>(X.E.ty e).bind fun ei=>(X.code e).bind fun te=>bif Nat.blt 0 ei.size&&(no.get (n0+j)).isNone then Z13 X n0 (j+1) as (b.set t (some (.rs (n0+j) 0)),no.set (n0+j) (some (.row e te [] 0 0)))else none
  | _=>Z13 X n0 (j+1) as (b,no))
 | j,.cell t off e::as,(b,no)=>(match b.get t with
  | some (.ptr q 0)=>(match no.get q with
   | some (.cells ct cs)=>(ZaT X.T cs off).bind fun
    | some .nils=>(X.E.ty e).bind fun ei=>(X.code e).bind fun te=>(Z2Y X.T cs off [.rs (n0+j) 0]).bind fun cs=>bif Nat.blt 0 ei.size&&(no.get (n0+j)).isNone then Z13 X n0 (j+1) as (b,(no.set q (some (.cells ct cs))).set (n0+j) (some (.row e te [] 0 0)))else none
    | _=>Z13 X n0 (j+1) as (b,no)
   | _=>Z13 X n0 (j+1) as (b,no))
  | some (.ap _ _ _ _ _)=>none
  | _=>Z13 X n0 (j+1) as (b,no))
mutual
def YR:TV S->List (Nat×Nat)
 | .rs id v=>[(id,v)]
 | .agg cs=>Z2J cs
 | .tup cs=>Z2J cs
 | .fn _ a b=>Z2J a++Z2J b
 | .iface _ v=>YR v
 | _=>[]
def Z2J:List (TV S)->List (Nat×Nat)
 | []=>[]
 | c::cs=>YR c++Z2J cs
end
def Ze4:Zp S->List (Nat×Nat)
 | .cells _ cs=>Z2J cs
 | .loop _ b _ _ _ _ _ _ _=>(b.ents 1 0).flatMap fun p=>YR p.2
 | _=>[]
def ZbF (o:Nat->Option (Zp S)) (p:Nat×Nat):Bool:=match o p.1 with
 | some (.row _ _ _ _ u)=>Nat.beq u p.2
 | _=>false
def Zb4 (o:Tr (Zp S)) (b:Tr (TV S)) (n0 keep:Nat) (A:List (Option (Nat×Nat))):List (Nat×Nat) :=
 Z8d (ZbF o.get) A (((o.ents 1 0).flatMap fun p=>bif Nat.blt p.1 n0 then Ze4 p.2 else [])++((b.ents 1 0).flatMap fun p=>bif Nat.testBit keep p.1 then YR p.2 else [])) []
def ZdT (X:Yk S) (hint:Z3G) (n0:Nat) (s:StT S):Option (StT S) :=
 (Zeq X.T s.objs s.base hint.accs).bind fun A =>
 let XL:=Zb4 s.objs s.base n0 hint.keep A
 let L:=XL.map some++A
 bif Zdi L then
  (s.base.tm (fun t d=>bif Nat.testBit hint.keep t then(Z3j n0 L d).bind fun d=>some (some d)else some none) 1 0).bind fun b =>
  (s.objs.tm (fun i x=>bif Nat.blt i n0 && !Z3f i L then(Zau n0 L x).bind fun x=>some (some x)else some none) 1 0).bind fun o =>
  (Z3J s.objs n0 0 L o).bind fun o=>(Z13 X n0 XL.length hint.accs (b,o)).bind fun r=>some ⟨r.1,r.2,n0+XL.length+hint.accs.length⟩
 else none
def ZeR (X:Yk S) (hint:Z3G) (n0:Nat) (s:StT S):Option (StT S) :=
 (ZdT X hint n0 s).bind fun s=>some (bif hint.raw then s else { s with objs:=s.objs.mapv Zgx })
def Zct (rnd:Option Nat) (h:Nat->Option (Zp S)):Bool:=match rnd with
 | none=>true
 | some l=>(match h l with|some (.loop ..)=>true|_=>false)
def StT.keep (m:Nat) (s:StT S):StT S:={ s with base:=s.base.filt m 1 0 }
def StT.keepX (F:FI) (id:Nat) (s:StT S):StT S:=match F.xm.find? fun p=>Nat.beq p.1 id with
 | some p=>s.keep p.2
 | none=>s
def Code.kid:Code->Nat->Option Code
 | .seq x _,0=>some x
 | .seq _ y,1=>some y
 | .cond _ x _,0=>some x
 | .cond _ _ y,1=>some y
 | .block _ c,0=>some c
 | .loop c,0=>some c
 | .scope c,0=>some c
 | .rangeFunc _ _ a _,0=>some a
 | .rangeFunc _ _ _ b,1=>some b
 | _,_=>none
def Code.sub (c:Code):List Nat->Option Code
 | []=>some c
 | i::p=>(Code.sub c p).bind fun d=>Code.kid d i
structure Key where
 path:List Nat
 fid:Nat
 rnd:Option Nat
 pos:List Nat
 bid:Nat
 n0:Nat
abbrev Z2L (S:Nat->Type) (R:Type):=Key->StT S->(Ex->StT S->Option R)->Option R
def Z1q (X:Yk S) (cs:Z3H S R) (ls:Z2L S R) (rnd:Option Nat) (fid:Nat) (F:FI) (callH callY:Z2C S R) (path:List Nat):List Nat->Nat->Code->StT S->(Ex->StT S->Option R)->Option R
 | _,_,.skip,s,k=>k .normal s
 | _,_,.region id ops draw,s,k=>Zbu X cs callH callY (id::path) F.vmask F.nt ops draw s fun s=>k .normal s
 | pos,bid,.seq x y,s,k=>Z1q X cs ls rnd fid F callH callY path (0::pos) bid x s fun ex s=>match ex with
  | .normal=>Z1q X cs ls rnd fid F callH callY path (1::pos) bid y s k
  | _=>k ex s
 | pos,bid,.cond c x y,s,k=>(match ZX s.base.get c with
  | some (.bool t)=>bif t then Z1q X cs ls rnd fid F callH callY path (0::pos) bid x s k else Z1q X cs ls rnd fid F callH callY path (1::pos) bid y s k
  | _=>none)
 | pos,_,.block id c,s,k=>Z1q X cs ls rnd fid F callH callY path (0::pos) id c s fun ex s=>match ex with
  | .exit i=>bif Nat.beq i id then k .normal s else k ex s
  | _=>k ex s
 | pos,bid,.loop _,s,k=>(F.hints.find? fun h=>Nat.beq h.bid bid).bind fun hint=>(ZeR X hint s.next s).bind fun s1=>ls ⟨path,fid,rnd,0::pos,bid,s.next⟩ s1 k
 | _,_,.exit id,s,k=>k (.exit id) (s.keepX F id)
 | pos,bid,.scope c,s,k=>Z1q X cs ls rnd fid F callH callY path (0::pos) bid c s k
 | _,_,.label _,s,k=>k .normal s
 | _,_,.ret,s,k=>k .ret (s.keep F.rm)
 | pos,bid,.rangeFunc f ps assign body,s0,k=>bif Zct rnd s0.objs.get then Option.bind (match(F.hints.find? fun h=>Nat.beq h.bid bid:Option Z3G)with
   | some hint=>(Z13 X s0.next 0 hint.accs (s0.base,s0.objs)).bind fun r=>some (StT.mk r.1 r.2 (s0.next+hint.accs.length))
   | none=>some s0) fun(s:StT S)=>(ZX s.base.get f).bind fun fv=>(match fv with
  | .fn (.func g) first caps =>
   callH (bid::path) g (first++[.yld s.next]++caps) (s.objs.set s.next (some (.loop fid s.base ps.toList assign body bid .normal (bid::path) pos))) (s.next+1) fun _ objs next =>
    (match objs.get s.next with
    | some (.loop _ _ _ _ _ _ ex _ _)=>(match ex with | .busy=>none|_=>k ex { s with objs:=objs.set s.next none,next:=next })
    | _=>none)
  | _=>none)else none
 | _,_,_,_,_=>none
def Ze6 (X:Yk S) (base:Nat->Option (TV S)) (h:Nat->Option (Zp S)) (rs:List ResultVar) (k:List (TV S)->Option R):Option R:=match rs with
 | []=>k []
 | .tmp t::rs=>(base t).bind fun v=>Ze6 X base h rs fun vs=>k (v::vs)
 | .cell a t::rs=>(X.E.ty t).bind fun ti=>(base a).bind fun a=>ZeO X ti h a fun o=>o.val.bind fun v=>Ze6 X base h rs fun vs=>k (v::vs)
def Z4Y:List (TV S)->TV S
 | [v]=>v
 | vs=>.tup vs
def Z1p (V:Nat):Nat->List (TV S)->Tr (TV S)->Tr (TV S)
 | _,[],b=>b
 | k,v::vs,b=>Z1p V (k+1) vs (bif Nat.testBit V k then b.set k (some v)else b)
def Z1B (V nt:Nat):List Nat->List (TV S)->Tr (TV S)->Option (Tr (TV S))
 | [],[],b=>some b
 | p::ps,v::vs,b=>bif Nat.blt p nt then Z1B V nt ps vs (bif Nat.testBit V p then b.set p (some v)else b)else none
 | _,_,_=>none
mutual
def rnT (f:Nat->Nat):TV S->TV S
 | .ptr i o=>.ptr (f i) o
 | .ap i b j e o=>.ap (f i) b j e o
 | .rptr i v j e o=>.rptr (f i) v j e o
 | .rs i v=>.rs (f i) v
 | .rv i v j n e=>.rv (f i) v j n e
 | .slen n=>.slen n
 | .agg cs=>.agg (Z6N f cs)
 | .tup cs=>.tup (Z6N f cs)
 | .fn g a c=>.fn g (Z6N f a) (Z6N f c)
 | .map i=>.map (f i)
 | .iface t v=>.iface t (rnT f v)
 | .iter i=>.iter (f i)
 | .yld i=>.yld (f i)
 | .earr ts p n a=>.earr ts (f p) n a
 | .narr ts n=>.narr ts n
 | .bool b=>.bool b
 | .int k n=>.int k n
 | .str s=>.str s
 | .nilp=>.nilp
 | .pub cs=>.pub cs
 | .nils=>.nils
 | .sl0=>.sl0
 | .sl t xs=>.sl t xs
 | .arr t n a=>.arr t n a
 | .stc i x=>.stc i x
 | .nilfn=>.nilfn
 | .nilmap=>.nilmap
 | .nilif=>.nilif
def Z6N (f:Nat->Nat):List (TV S)->List (TV S)
 | []=>[]
 | c::cs=>rnT f c::Z6N f cs
end
mutual
def Zbm (p:Nat->Bool):TV S->Bool
 | .ptr i _ | .ap i _ _ _ _ | .rptr i _ _ _ _ | .rs i _ | .rv i _ _ _ _ | .map i | .iter i | .yld i=>p i
 | .agg cs=>Z4W p cs
 | .tup cs=>Z4W p cs
 | .fn _ a b=>Z4W p a&&Z4W p b
 | .iface _ v=>Zbm p v
 | .earr _ i _ _=>p i
 | _=>true
def Z4W (p:Nat->Bool):List (TV S)->Bool
 | []=>true
 | c::cs=>Zbm p c&&Z4W p cs
end
def Ze8 (f:Nat->Nat):Zp S->Zp S
 | .cells t cs=>.cells t (Z6N f cs)
 | .loop fid b ps as bo bid ex pa po=>.loop fid (b.mapv (rnT f)) ps as bo bid ex pa po
 | .row e t xs p u=>.row e t xs p u
 | .map k e m=>.map k e m
 | .siter s pos=>.siter s pos
def ZiK (p:Nat->Bool):Zp S->Bool
 | .cells _ cs=>Z4W p cs
 | .loop _ b _ _ _ _ _ _ _=>b.allV (Zbm p)
 | _=>true
def ZgI (p:Nat->Bool) (h:Nat->Option (Zp S)):List Nat->Bool
 | []=>true
 | i::is=>(match h i with|some o=>ZiK p o|none=>true)&&ZgI p h is
def Z5I (f:Nat->Nat) (h:Nat->Option (Zp S)):List Nat->Tr (Zp S)
 | []=>.leaf
 | i::is=>(Z5I f h is).set (f i) ((h i).map (Ze8 f))
def Z7u (f:Nat->Nat) (h:Nat->Option (Zp S)):List Nat->List (Nat×Option (Zp S))
 | []=>[]
 | i::is=>(f i,(h i).map (Ze8 f))::Z7u f h is
def ZeB (k:Nat) (v:TV S) (o:Tr (Zp S)) (kk:TV S->Tr (Zp S)->Nat->Option R):Option R :=
 sNs (geN k (Z28 o.get 4096 (Z1X v++upN 0 k) [])) fun Rs =>
  bif Z9K Rs&&(Zbm (fun j=>Nat.blt j k||Z3D j Rs) v&&ZgI (fun j=>Nat.blt j k||Z3D j Rs) o.get (upN 0 k++Rs))then
   sV (rnT (Z2s k Rs) v) fun v=>sTr sO (Z5I (Z2s k Rs) o.get (upN 0 k++Rs)) fun o=>sN (k+Z2t Rs) fun n=>kk v o n
  else none
def ZdA (cs:Z3H S R) (g:Nat) (as:List (TV S)) (o:Tr (Zp S)) (nx:Nat) (k:TV S->Tr (Zp S)->Nat->Option R):Option R :=
 sVs (as.map fun d=>(YH o.get d).getD d) fun fs=>sTr sO (Z4B o (Z5M o.get (Yq as))) fun o1=>sNs (Z28 o1.get 4096 (Z2P fs) []) fun Rs=>sN (Z2t Rs) fun n0 =>
  bif Z9K Rs&&(Z4W (fun i=>Z3D i Rs) fs&&ZgI (fun i=>Z3D i Rs) o1.get Rs)then
   sVs (Z6N (Z4z Rs) fs) fun fs=>sTr sO (Z5I (Z4z Rs) o1.get Rs) fun s =>
   cs.pr g fs s n0 fun v os n=>sV (rnT (ZM n0 nx Rs) v) fun v=>sTr sO (Z4B o1 (Z7u (ZM n0 nx Rs) os.get (upN 0 n))) fun o2=>sN (nx+(n-n0)) fun nx2=>k v o2 nx2
  else none
def Zgq:Ex->Bool
 | .busy=>true
 | _=>false
def xK (X:Yk S) (cs:Z3H S R) (ls:Z2L S R):Nat->Bool->Z2C S R
 | 0,_,_,_,_,_,_,_=>none
 | n+1,false,path,f,args,objs,next,k=>bif Zdh X.E f then none else
  (X.E.fn f).bind fun F=>bif F.can then ZdA cs f args objs next k else bif Nat.ble args.length F.nt then
   Z1q X cs ls none f F (xK X cs ls n false) (xK X cs ls n true) (f::path) [] 0 F.body ⟨Z1p F.vmask 0 args .leaf,objs,next⟩ fun ex s =>
    match ex with
    | .exit _ | .busy=>none
    | _=>Ze6 X s.base.get s.objs.get F.nres fun vs=>k (Z4Y vs) s.objs s.next
   else none
 | n+1,true,path,l,args,objs,next,k=>(match objs.get l with
  | some (.loop fid base ps assign body bid .normal pa po)=>(X.E.fn fid).bind fun F=>(Z1B F.vmask F.nt ps args base).bind fun b =>
    Z1q X cs ls (some l) fid F (xK X cs ls n false) (xK X cs ls n true) (l::path) (0::po) bid assign ⟨b,objs,next⟩ fun ex s=>(match ex,s.objs.get l with
    | .normal,some (.loop fid2 base2 ps2 assign2 body2 bid2 .normal pa2 po2)=>Z1q X cs ls (some l) fid F (xK X cs ls n false) (xK X cs ls n true) (l::path) (1::po) bid body { s with objs:=s.objs.set l (some (.loop fid2 base2 ps2 assign2 body2 bid2 .busy pa2 po2)) } fun ex s=>(match s.objs.get l with
     | some (.loop fid3 base3 ps3 assign3 body3 bid3 .busy pa3 po3)=>bif Zgq ex then none else k (.bool (match ex with | .normal=>true|_=>false)) (s.objs.set l (some (.loop fid3 base3 ps3 assign3 body3 bid3 ex pa3 po3))) s.next
     | _=>none)
    | _,_=>none)
  | _=>none)
end ops
end
end Go.Ab
namespace Go.Ab
def plain:DV->Bool
 | .bool _ | .int _ _ | .str _ | .sl _=>true
 | _=>false
variable {S:Nat->Type}
structure TOk (T:TS S):Prop where
 cells:∀i x,dvs T (T.cells i x)=T.dcells i x
 len:∀i x,(T.dcells i x).length=T.size i
 rd:∀i cs x r,T.rd i cs=some (x,r)->dvs T cs=T.dcells i x++dvs T r
 plain:∀i x,(T.dcells i x).all plain=true
 seq:∀i e,T.seq i=some e->∀x y,Zl (T.dcells i x) (T.dcells i y)=some (e x y)
structure XOk (X:Yk S):Prop where
 t:TOk X.T
 zero:∀t z ti,X.zero t=some z->X.E.ty t=some ti->dvs X.T z=ti.zero
 code:∀t c ti,X.code t=some c->X.E.ty t=some ti->ti.size=tsz X.T c/\ti.isAgg=YZ c
def Yc (T:TS S):TV S->List DV
 | .arr t n a=>acl T t n a
 | .stc i x=>T.dcells i x
 | .earr ts pid n a=>eal ts pid n a
 | .narr _ n=>List.replicate n .nilif
 | c=>[dv T c]
theorem ZB (T:TS S) (c:TV S) (cs:List (TV S)):dvs T (c::cs)=Yc T c++dvs T cs:=by
 cases c<;>simp[dvs,Yc]
theorem Z8f (T:TS S):dvs T []=[]:=by simp[dvs]
theorem Z21 (T:TS S):∀(a b:List (TV S)),dvs T (a++b)=dvs T a++dvs T b
 | [],b=>by simp[dvs]
 | c::a,b=>by rw[List.cons_append,ZB,ZB,Z21 T a b,jj]
theorem Z5U (T:TS S):∀(a b:List (TV S)),dvl T (a++b)=dvl T a++dvl T b
 | [],b=>by simp[dvl]
 | c::a,b=>by simp only[List.cons_append,dvl,Z5U T a b]
theorem Z5e (T:TS S):∀(a:List (TV S)),dvl T a=a.map (dv T)
 | []=>by simp[dvl]
 | c::a=>by simp only[jv,dvl,Z5e T a]
section
variable {T:TS S} (hT:TOk T)
include hT
theorem Yh:∀(t:Ty) (x:Val S t),(dcl T t x).length=tsz T t
 | .bool,_=>rfl
 | .int _,_=>rfl
 | .str,_=>rfl
 | .sl _,_=>by simp[dcl,tsz]
 | .st i,x=>hT.len i x
 | .arr n t,a=>by
  simp only[dcl,tsz,List.length_flatMap];have:(List.map (fun j=>(dcl T t (a j)).length) (List.range n))=List.map (fun _=>tsz T t) (List.range n):=List.map_congr_left fun j _=>Yh t (a j);rw[this,List.map_const',List.sum_replicate_nat,List.length_range]
theorem Z33:∀(t:Ty) (x:Val S t),(dcl T t x).all plain=true
 | .bool,_=>rfl
 | .int _,_=>rfl
 | .str,_=>rfl
 | .sl _,_=>by simp[dcl,plain]
 | .st i,x=>hT.plain i x
 | .arr n t,a=>by
  rw[List.all_eq_true];intro c hc;simp only[dcl,List.mem_flatMap]at hc;obtain⟨j,_,hc⟩:=hc;exact List.all_eq_true.1 (Z33 t (a j)) c hc
theorem Z16 (t:Ty) (n:Nat) (a:Nat->Val S t):(acl T t n a).length=n*tsz T t:=Yh hT (.arr n t) a
theorem Ys (t:Ty) (n:Nat) (a:Nat->Val S t):(acl T t n a).all plain=true:=Z33 hT (.arr n t) a
theorem Z2Z:∀(t:Ty) (x:Val S t),dvs T (tcl T t x)=dcl T t x
 | .bool,_=>by simp[tcl,dvs,dv,dcl]
 | .int _,_=>by simp[tcl,dvs,dv,dcl]
 | .str,_=>by simp[tcl,dvs,dv,dcl]
 | .sl _,_=>by simp[tcl,dvs,dv,dcl]
 | .st i,x=>by simp only[tcl,dvs,jp,dcl]
 | .arr n t,a=>by simp only[tcl,dvs,jp];rfl
theorem Z1M:∀(t:Ty) (x:Val S t),dv T (Z7E T t x)=YS T t x
 | .bool,_=>by simp[Z7E,dv,YS]
 | .int _,_=>by simp[Z7E,dv,YS]
 | .str,_=>by simp[Z7E,dv,YS]
 | .sl _,_=>by simp[Z7E,dv,YS]
 | .st i,x=>by simp only[Z7E,dv,YS,dvs,jp]
 | .arr n t,a=>by simp[Z7E,dv,YS,dvs]
theorem Z32 (c:TV S):(Yc T c).length=wd T c:=by
 cases c<;>simp[Yc,wd]
 ·rename_i t n a;exact Z16 hT t n a
 ·rename_i i x;exact hT.len i x
 ·simp[eal]
theorem Y7:∀(cs:List (TV S)),(dvs T cs).length=wds T cs
 | []=>by simp[dvs,wds]
 | c::cs=>by rw[ZB,List.length_append,Z32 hT c,Y7 cs,wds]
theorem Z5t (i:Nat) (x:S i) (r:List (TV S)):dvs T (T.cells i x++r)=dvs T (.stc i x::r):=by
 rw[Z21,hT.cells];simp[dvs]
theorem ZhT (i:Nat) (x:S i) (r:List (TV S)):wds T (T.cells i x++r)=wds T (.stc i x::r):=by
 rw[<-Y7 hT,<-Y7 hT,Z5t hT]
theorem Z77:∀(f:Nat) {cs r:List (TV S)} {n:Nat},Zaa T f cs n=some r->wds T cs=n+wds T r/\(dvs T cs).drop n=dvs T r
 | 0,_,_,_,h=>by cases h
 | f+1,[],r,n,h=>by
  simp only[Zaa]at h;obtain⟨a,h⟩:=Z3 h;cases h;have:=jf a;subst this;simp[wds,dvs]
 | f+1,c::cs,r,n,h=>by
  simp only[Zaa]at h;cases h0:Nat.beq n 0 with
  | true =>
   rw[h0]at h;cases h;have:=jf h0;subst this;simp
  | false =>
   rw[h0]at h;simp only[jA]at h;cases a:Nat.ble (wd T c) n with
   | true =>
    rw[a]at h;simp only[jB]at h;obtain⟨d,b⟩:=Z77 f h;have a:=je a;refine⟨by rw[wds];omega,?_⟩
    rw[ZB,<-b,List.drop_append,Z32 hT c,jd (by rw[Z32 hT c];exact a),List.nil_append]
   | false =>
    rw[a]at h;simp only[jA]at h;split at h
    ·rename_i i x;obtain⟨d,b⟩:=Z77 f h;rw[ZhT hT]at d;rw[Z5t hT]at b;exact⟨d,b⟩
    ·cases h
theorem Z1D {cs r:List (TV S)} {n:Nat} (h:Z8I T cs n=some r):wds T cs=n+wds T r/\(dvs T cs).drop n=dvs T r:=Z77 hT 400 h
theorem Z7C:∀(f:Nat) {cs r:List (TV S)} {n:Nat},ZaH T f cs n=some r->wds T r=n/\(dvs T cs).take n=dvs T r
 | 0,_,_,_,h=>by cases h
 | f+1,[],r,n,h=>by
  simp only[ZaH]at h;obtain⟨a,h⟩:=Z3 h;cases h;have:=jf a;subst this;simp[wds,dvs]
 | f+1,c::cs,r,n,h=>by
  simp only[ZaH]at h;cases h0:Nat.beq n 0 with
  | true =>
   rw[h0]at h;cases h;have:=jf h0;subst this;simp[wds,dvs]
  | false =>
   rw[h0]at h;simp only[jA]at h;cases a:Nat.ble (wd T c) n with
   | true =>
    rw[a]at h;simp only[jB]at h;obtain⟨r',b,h⟩:=Z0 h;cases h;obtain⟨d,e⟩:=Z7C f b;have a:=je a;refine⟨by rw[wds];omega,?_⟩
    rw[ZB,ZB,<-e,List.take_append,Z32 hT c,List.take_of_length_le (by rw[Z32 hT c];exact a)]
   | false =>
    rw[a]at h;simp only[jA]at h;split at h
    ·rename_i i x;obtain⟨b,d⟩:=Z7C f h;rw[Z5t hT]at d;exact⟨b,d⟩
    ·cases h
theorem ZaI {cs r:List (TV S)} {n:Nat} (h:Zh2 T cs n=some r):wds T r=n/\(dvs T cs).take n=dvs T r:=Z7C hT 400 h
theorem Z2T:∀(n:Nat) (cs:List (TV S)),dvs T (hdF T n cs)=dvs T cs
 | 0,cs=>by cases cs with
  | nil=>rfl
  | cons c cs=>cases c<;>rfl
 | n+1,[]=>rfl
 | n+1,c::cs=>by
  cases c<;>first|rfl|skip
  simp only[hdF];rw[Z2T n,Z5t hT]
theorem Z2m:∀(n:Nat) (cs:List (TV S)),dvs T (xpF T n cs)=dvs T cs
 | 0,cs=>by cases cs with
  | nil=>rfl
  | cons c cs=>cases c<;>rfl
 | n+1,[]=>rfl
 | n+1,c::cs=>by
  by_cases hc:∃i x,c=.stc i x
  ·obtain⟨i,x,rfl⟩:=hc;simp only[xpF];rw[Z2m n,Z5t hT]
  ·have:xpF T (n+1) (c::cs)=c::xpF T n cs:=by
    cases c<;>first|rfl|exact absurd ⟨_,_,rfl⟩ hc
   rw[this,ZB,ZB,Z2m n]
omit hT in
theorem Z10:∀(cs:List DV) (off:Nat) (vs:List DV),off+vs.length<=cs.length->Yg cs off vs=cs.take off++vs++cs.drop (off+vs.length)
 | cs,off,[],_=>by
  cases cs<;>simp[Yg]
 | [],off,v::vs,h=>by simp at h
 | c::cs,0,v::vs,h=>by
  simp only[Yg,List.take_zero,List.nil_append,List.cons_append,Nat.zero_add,List.length_cons,List.drop_succ_cons];rw[Z10 cs 0 vs (by simp at h;omega)]
  simp
 | c::cs,n+1,v::vs,h=>by
  simp only[Yg,List.take_succ_cons,List.cons_append];rw[Z10 cs n (v::vs) (by simp at h⊢;omega)]
  rw[show n+1+(v::vs).length=(n+(v::vs).length)+1 by omega,List.drop_succ_cons]
theorem Z1d {cs vs r:List (TV S)} {off:Nat} (h:Z2Y T cs off vs=some r):off+wds T vs<=wds T cs/\Yg (dvs T cs) off (dvs T vs)=dvs T r:=by
 unfold Z2Y at h;obtain⟨a,c,h⟩:=Z0 h;obtain⟨b,d,h⟩:=Z0 h;cases h;obtain⟨i,e⟩:=ZaI hT c;obtain⟨g,f⟩:=Z1D hT d;refine⟨by omega,?_⟩
 rw[Z10 _ _ _ (by rw[Y7 hT,Y7 hT];omega),Z21,Z21,<-e,<-f,Y7 hT vs]
omit hT in
theorem YB (v:TV S):cellsOf (dv T v)=dvs T (Yf v):=by
 cases v<;>simp[dv,cellsOf,Yf,dvs]
theorem Z3N {ti:TI} {cs:List (TV S)} {off:Nat} {v:TV S} (h:Z9d T ti cs off=some v):YO ti (dvs T cs) off=some (dv T v)/\Y1 v=false:=by
 unfold Z9d at h;obtain⟨r,d,h⟩:=Z0 h;obtain⟨g,a⟩:=Z1D hT d;unfold YO;cases ha:ti.isAgg with
 | true =>
  rw[ha]at h;simp only[jB]at h⊢;obtain⟨p,f,h⟩:=Z0 h;cases h;obtain⟨i,b⟩:=ZaI hT f;have e:ti.size<=wds T r:=by
   have:=congrArg List.length b;rw[List.length_take,Y7 hT,Y7 hT]at this;omega
  have:Nat.ble (off+ti.size) (dvs T cs).length=true:=by rw[Nat.ble_eq,Y7 hT];omega
  rw[this,a,b];simp[dv,Y1]
 | false =>
  rw[ha]at h;simp only[jA]at h⊢;rw[<-Z2T hT 10 r]at a;cases hr:hdF T 10 r with
  | nil=>rw[hr]at h;cases h
  | cons c r =>
   rw[hr]at h a;simp only at h;cases hc:Y1 c with
   | true=>rw[hc]at h;cases h
   | false =>
    rw[hc]at h;cases h;refine⟨?_,hc⟩;have:(dvs T cs)[off]?=(List.drop off (dvs T cs))[0]? := by simp
    rw[this,a,ZB];cases v<;>simp[Yc,Y1]at hc⊢
omit hT in
theorem Z1T {t:Ty} {cs r:List (TV S)} {x:List (Val S t)} (h:Z8b t cs=some (x,r)):dvs T cs=.sl (x.map (dcl T t))::dvs T r:=by
 unfold Z8b at h;cases cs with
 | nil=>cases h
 | cons c cs =>
  simp only at h;obtain⟨xs,a,h⟩:=Z0 h;cases h;unfold Zia at a;split at a
  ·cases a;simp[dvs,dv]
  ·split at a
   ·rename_i e;subst e;cases a;simp[dvs,dv]
   ·cases a
  ·cases a
omit hT in
theorem Z9i {cs r:List (TV S)} {x:Bool} (h:Z69 cs=some (x,r)):dvs T cs=[.bool x]++dvs T r:=by
 unfold Z69 at h;split at h
 ·cases h;simp[dvs,dv]
 ·cases h
omit hT in
theorem ZK {k:IntKind} {cs r:List (TV S)} {x:Int} (h:Yw k cs=some (x,r)):dvs T cs=[.int k x]++dvs T r:=by
 unfold Yw at h;split at h
 ·obtain⟨a,h⟩:=Z3 h;cases h;have:=eq_of_beq a;subst this;simp[dvs,dv]
 ·cases h
omit hT in
theorem Z3S {cs r:List (TV S)} {x:ByteArray} (h:Z5G cs=some (x,r)):dvs T cs=[.str x]++dvs T r:=by
 unfold Z5G at h;split at h
 ·cases h;simp[dvs,dv]
 ·cases h
omit hT in
theorem Z7r {n:Nat} {t:Ty} {cs r:List (TV S)} {x:Nat->Val S t} (h:Z9h n t cs=some (x,r)):dvs T cs=acl T t n x++dvs T r:=by
 unfold Z9h at h;split at h
 ·split at h
  ·rename_i e;obtain⟨a,h⟩:=Z3 h;cases h;have:=jf a;subst this e;rw[ZB];rfl
  ·cases h
 ·cases h
omit hT in
theorem Z8s {T0:TS S} (hc:∀i (x:S i),dvs T (T0.cells i x)=T.dcells i x) (i:Nat):∀(n:Nat) (cs:List (TV S)),dvs T (YT T0 i n cs)=dvs T cs
 | 0,cs=>by cases cs with
  | nil=>rfl
  | cons c cs=>cases c<;>rfl
 | n+1,[]=>rfl
 | n+1,c::cs=>by
  cases c<;>first|rfl|skip
  rename_i j x;simp only[YT];cases Nat.beq j i with
  | true=>rfl
  | false=>simp only[jA];rw[Z8s hc i n,Z21,hc];rfl
theorem Za4 (i:Nat):∀(n:Nat) (cs:List (TV S)),dvs T (YT T i n cs)=dvs T cs
 | 0,cs=>by cases cs with
  | nil=>rfl
  | cons c cs=>cases c<;>rfl
 | n+1,[]=>rfl
 | n+1,c::cs=>by
  cases c<;>first|rfl|skip
  rename_i j x;simp only[YT];cases Nat.beq j i with
  | true=>rfl
  | false=>simp only[jA];rw[Za4 i n,Z5t hT]
omit hT in
theorem Yt {i:Nat} {f:List (TV S)->Option (S i×List (TV S))} (a:∀cs x r,f cs=some (x,r)->dvs T cs=T.dcells i x++dvs T r) {cs r:List (TV S)} {x:S i} (h:rdW i f cs=some (x,r)):dvs T cs=T.dcells i x++dvs T r:=by
 unfold rdW at h;split at h
 ·split at h
  ·rename_i e;subst e;cases h;simp[dvs]
  ·cases h
 ·exact a _ _ _ h
theorem ZhV {t:Ty} {cs r:List (TV S)} {x:Val S t} (h:trd T t cs=some (x,r)):dvs T cs=dcl T t x++dvs T r:=by
 cases t with
 | bool =>
  simp only[trd,Z69]at h;split at h
  ·cases h;simp[dvs,dv,dcl]
  ·cases h
 | int k =>
  simp only[trd,Yw]at h;split at h
  ·obtain⟨a,h⟩:=Z3 h;cases h;have:=eq_of_beq a;subst this;simp[dvs,dv,dcl]
  ·cases h
 | str =>
  simp only[trd,Z5G]at h;split at h
  ·cases h;simp[dvs,dv,dcl]
  ·cases h
 | sl t =>
  simp only[trd]at h;rw[Z1T h];rfl
 | arr n t =>
  simp only[trd,Z9h]at h;split at h
  ·split at h
   ·rename_i e;obtain⟨a,h⟩:=Z3 h;cases h;have:=jf a;subst this e;rw[ZB];rfl
   ·cases h
  ·cases h
 | st i =>
  simp only[trd]at h;rw[<-Za4 hT i 6 cs,Yt (fun _ _ _ h=>hT.rd i _ _ _ h) h];rfl
theorem Z2A {t:Ty} {cs:List (TV S)} {x:Val S t} (h:Z6W T t cs=some x):dvs T cs=dcl T t x:=by
 unfold Z6W at h;obtain⟨⟨x',r⟩,a,h⟩:=Z0 h;cases r with
 | nil =>
  cases h;have:=ZhV hT a;rw[this,Z8f,jp]
 | cons c r=>cases h
omit hT in
theorem Z8G {t:Ty} (x:Val S t) (h:YZ t=false):dcl T t x=[YS T t x]:=by
 cases t<;>first|rfl|cases h
theorem Z3p {t:Ty} {v:TV S} {x:Val S t} (h:Z5O T t v=some x):dv T v=YS T t x:=by
 have Zeb:∀(c:TV S),YZ t=false->Z6W T t [c]=some x->dvs T [c]=[dv T c]->dv T c=YS T t x:=fun c b a hc=>by
  have d:=Z2A hT a;rw[hc,Z8G x b]at d;exact List.cons.inj d |>.1
 by_cases hag:∃cs,v=.agg cs
 ·obtain⟨cs,rfl⟩:=hag;simp only[Z5O]at h;obtain⟨e,h⟩:=Z3 h;have d:=Z2A hT h;cases t<;>simp only[YZ,jg]at e
  ·simp only[dv,YS,d];rfl
  ·simp only[dv,YS,d];rfl
 ·have a:(bif YZ t then none else Z6W T t [v])=some x:=by
   unfold Z5O at h;split at h
   ·rename_i cs;exact absurd ⟨cs,rfl⟩ hag
   ·exact h
  cases b:YZ t with
  | true=>rw[b]at a;cases a
  | false =>
   rw[b]at a;simp only[jA]at a
   by_cases hr:Y1 v=true
   ·exfalso;cases v<;>simp only[Y1,jg]at hr
    all_goals
     unfold Z6W at a;obtain⟨q,e,_⟩:=Z0 a;cases t<;>simp[YZ]at b<;>simp[trd,Z69,Yw,Z5G,Z8b,Zia]at e
   ·refine Zeb v b a ?_;rw[ZB,Z8f,jp];cases v<;>simp[Yc,Y1]at hr⊢
theorem Zg3 {v r:TV S} {n:Nat} (h:Zg2 T v n=some r):Z1g (dv T v) n=some (dv T r):=by
 cases v<;>simp only[Zg2,reduceCtorEq]at h
 ·cases h;simp[dv,Z1g]
 ·cases h;simp[dv,Z1g];omega
 ·cases h;simp[dv,Z1g]
 ·obtain⟨q,a,h⟩:=Z0 h;cases h;simp only[dv,Z1g,(Z1D hT a).2]
end
section
variable {T:TS S}
theorem ZdY {c:DV} (h:plain c=true):Zh c=true:=by cases c<;>simp[plain,Zh]at h⊢
theorem ZfE {c:DV} (n:Nat) (h:plain c=true):bdd n c=true:=by cases c<;>simp[plain,bdd]at h⊢
theorem ZfF {c:DV} (hh:Nat->Option Zd) (h:plain c=true):frz hh c=some c:=by cases c<;>simp[plain,frz,Zh]at h⊢
theorem ZdZ {c:DV} (h:plain c=true):Zj c=[]:=by cases c<;>simp[plain,Zj]at h⊢
theorem ZfG {c:DV} (h:plain c=true):ZA c=[]:=by cases c<;>simp[plain,ZA]at h⊢
theorem ZdX {c:DV} (h:plain c=true):ZH c=true:=by cases c<;>simp[plain,ZH]at h⊢
theorem ZfH {c:DV} (n:Nat) (L:List (Option (Nat×Nat))) (h:plain c=true):ren n L c=some c:=by cases c<;>simp[plain,ren,bdd]at h⊢
theorem Z4O:∀(a b:List DV),Zc (a++b)=(Zc a&&Zc b)
 | [],b=>by simp[Zc]
 | c::a,b=>by simp only[List.cons_append,Zc,Z4O a b,Bool.and_assoc]
theorem Z7J (n:Nat):∀(a b:List DV),Z1P n (a++b)=(Z1P n a&&Z1P n b)
 | [],b=>by simp[Z1P]
 | c::a,b=>by simp only[List.cons_append,Z1P,Z7J n a b,Bool.and_assoc]
theorem Z55:∀(a b:List DV),Zk (a++b)=Zk a++Zk b
 | [],b=>by simp[Zk]
 | c::a,b=>by simp only[List.cons_append,Zk,Z55 a b,jj]
theorem Z5C:∀(a b:List DV),ZI (a++b)=ZI a++ZI b
 | [],b=>by simp[ZI]
 | c::a,b=>by simp only[List.cons_append,ZI,Z5C a b,jj]
theorem Z7T (h:Nat->Option Zd):∀(a b:List DV),Z1N h (a++b)=(Z1N h a).bind fun x=>(Z1N h b).bind fun y=>some (x++y)
 | [],b=>by simp[Z1N]
 | c::a,b=>by
  simp only[List.cons_append,Z1N,Z7T h a b];cases frz h c with
  | none=>rfl
  | some c'=>cases Z1N h a with
   | none=>rfl
   | some a'=>cases Z1N h b<;>simp
theorem Z7Y (n:Nat) (L:List (Option (Nat×Nat))):∀(a b:List DV),Z2y n L (a++b)=(Z2y n L a).bind fun x=>(Z2y n L b).bind fun y=>some (x++y)
 | [],b=>by simp[Z2y]
 | c::a,b=>by
  simp only[List.cons_append,Z2y,Z7Y n L a b];cases ren n L c with
  | none=>rfl
  | some c'=>cases Z2y n L a with
   | none=>rfl
   | some a'=>cases Z2y n L b<;>simp
theorem Z1J:∀{cs:List DV},cs.all plain=true->Zc cs=true
 | [],_=>rfl
 | c::cs,h=>by
  simp only[jt,jn]at h;simp only[Zc,ZdY h.1,Z1J h.2,ju]
theorem Z64 (n:Nat):∀{cs:List DV},cs.all plain=true->Z1P n cs=true
 | [],_=>rfl
 | c::cs,h=>by
  simp only[jt,jn]at h;simp only[Z1P,ZfE n h.1,Z64 n h.2,ju]
theorem Z65 (hh:Nat->Option Zd):∀{cs:List DV},cs.all plain=true->Z1N hh cs=some cs
 | [],_=>rfl
 | c::cs,h=>by
  simp only[jt,jn]at h;simp[Z1N,ZfF hh h.1,Z65 hh h.2]
theorem Z51:∀{cs:List DV},cs.all plain=true->Zk cs=[]
 | [],_=>rfl
 | c::cs,h=>by
  simp only[jt,jn]at h;simp[Zk,ZdZ h.1,Z51 h.2]
theorem Z66:∀{cs:List DV},cs.all plain=true->ZI cs=[]
 | [],_=>rfl
 | c::cs,h=>by
  simp only[jt,jn]at h;simp[ZI,ZfG h.1,Z66 h.2]
theorem Z2w:∀{cs:List DV},cs.all plain=true->cs.all ZH=true
 | [],_=>rfl
 | c::cs,h=>by
  simp only[jt,jn]at h;simp[ZdX h.1,Z2w h.2]
theorem Z67 (n:Nat) (L:List (Option (Nat×Nat))):∀{cs:List DV},cs.all plain=true->Z2y n L cs=some cs
 | [],_=>rfl
 | c::cs,h=>by
  simp only[jt,jn]at h;simp[Z2y,ZfH n L h.1,Z67 n L h.2]
end
def dvO (T:TS S):Zp S->Zd
 | .cells t cs=>.cells t (dvs T cs)
 | .row e t xs p v=>.row e (xs.map (dcl T t)) p v
 | .map kt et m=>.map (m.map fun p=>(YS T kt p.1,YS T et p.2))
 | .siter s pos=>.siter s pos
 | .loop fid b ps as bo bid ex _ _=>.loop fid (b.mapv (dv T)) ps as bo bid ex
end Go.Ab
namespace Go.Ab
variable {S:Nat->Type}
def dvr (T:TS S) (ρ:Nat->Option (TV S)):Nat->Option DV:=fun t=>(ρ t).map (dv T)
def dvh (T:TS S) (h:Nat->Option (Zp S)):Nat->Option Zd:=fun i=>(h i).map (dvO T)
def dvu (T:TS S) (u:List (Nat×Option (Zp S))):List (Nat×Option Zd):=u.map fun p=>(p.1,p.2.map (dvO T))
def Yd (T:TS S) (o:ZaP S):Out:=⟨o.val.map (dv T),dvu T o.upd⟩
theorem Yj {α β:Type} (f:α->β):∀(t:Tr α) (k:Nat),(t.mapv f).get k=(t.get k).map f
 | .leaf,k=>rfl
 | .node l v r,k=>by
  simp only[Tr.mapv,Tr.get];cases Nat.beq k 0 with
  | true=>rfl
  | false=>cases Nat.beq (k % 2) 1 with
   | true=>exact Yj f l _
   | false=>exact Yj f r _
theorem Z2u {α β:Type} (f:α->β) (v:Option α):∀(n:Nat) (t:Tr α) (k:Nat),(Tr.setAux n t k v).mapv f=Tr.setAux n (t.mapv f) k (v.map f)
 | 0,t,k=>rfl
 | n+1,.leaf,k=>by
  simp only[Tr.setAux,Tr.mapv];cases Nat.beq k 0 with
  | true=>rfl
  | false=>cases Nat.beq (k % 2) 1 with
   | true=>simp only[jB,jA,Tr.mapv,Z2u f v n .leaf];rfl
   | false=>simp only[jA,Tr.mapv,Z2u f v n .leaf];rfl
 | n+1,.node l x r,k=>by
  simp only[Tr.setAux,Tr.mapv];cases Nat.beq k 0 with
  | true=>rfl
  | false=>cases Nat.beq (k % 2) 1 with
   | true=>simp only[jB,jA,Tr.mapv,Z2u f v n l]
   | false=>simp only[jA,Tr.mapv,Z2u f v n r]
theorem YE {α β:Type} (f:α->β) (t:Tr α) (k:Nat) (v:Option α):(t.set k v).mapv f=(t.mapv f).set k (v.map f):=Z2u f v _ t k
theorem ZcC {α β:Type} (f:α->β) (l:Tr α) (v:Option α) (r:Tr α):(Tr.mkn l v r).mapv f=Tr.mkn (l.mapv f) (v.map f) (r.mapv f):=by
 unfold Tr.mkn;cases l<;>cases v<;>cases r<;>rfl
theorem Z7j {α β:Type} (f:α->β) (m:Nat):∀(t:Tr α) (a b:Nat),(t.filt m a b).mapv f=(t.mapv f).filt m a b
 | .leaf,a,b=>rfl
 | .node l v r,a,b=>by
  simp only[Tr.filt,Tr.mapv,ZcC,Z7j f m l,Z7j f m r];cases Nat.testBit m b<;>rfl
theorem Z6C {α β:Type} (f:α->β) (g:Nat->α->Option (Option α)) (g':Nat->β->Option (Option β)) (c:∀k x y,g k x=some y->g' k (f x)=some (y.map f)) :
  ∀(t:Tr α) (a b:Nat) (r:Tr α),t.tm g a b=some r->(t.mapv f).tm g' a b=some (r.mapv f)
 | .leaf,a,b,r,h=>by simp only[Tr.tm,jh]at h;subst h;rfl
 | .node l v q,a,b,r,h=>by
  simp only[Tr.tm]at h;obtain⟨l',e,h⟩:=Z0 h;obtain⟨v',d,h⟩:=Z0 h;obtain⟨q',i,h⟩:=Z0 h;cases h;simp only[Tr.mapv,Tr.tm,Z6C f g g' c l _ _ _ e,Z6C f g g' c q _ _ _ i,jm,ZcC];cases v with
  | none=>cases d;rfl
  | some x =>
   simp only[jq];rw[c _ _ _ d];rfl
section
variable (T:TS S)
theorem ZgH (v:Value):ZeS v=(ZdV (S:=S) v).map (dv T):=by
 unfold ZeS ZdV;split<;>simp[dv]
theorem ZQ (ρ:Nat->Option (TV S)) (x:Operand):Y0 (dvr T ρ) x=(ZX ρ x).map (dv T):=by
 cases x with
 | tmp t=>rfl
 | const v=>exact ZgH T v
 | func f=>simp[Y0,ZX,dv,dvl]
 | global g=>rfl
theorem Z3g (ρ:Nat->Option (TV S)):∀xs,Z1s (dvr T ρ) xs=(Z2I ρ xs).map (dvl T)
 | []=>by simp[Z1s,Z2I,dvl]
 | x::xs=>by
  simp only[Z1s,Z2I,ZQ,Z3g ρ xs];cases ZX ρ x with
  | none=>rfl
  | some v=>cases Z2I ρ xs with
   | none=>rfl
   | some vs=>simp[dvl]
theorem Zik (ρ:Nat->Option (TV S)) (x:Option Operand):Z2h (dvr T ρ) x=(ZhK ρ x).map (Option.map (dv T)):=by
 cases x with
 | none=>rfl
 | some x =>
  simp only[Z2h,ZhK,ZQ];cases ZX ρ x<;>rfl
end
def Z4S (pid:Nat):DV->Bool
 | .nilif=>true
 | .iface _ (.agg [.ptr p 0])=>Nat.beq p pid
 | _=>false
theorem Zc8 (pid:Nat):∀(ts:List TypeId) (m:Nat),Z4S pid (enD pid ts m)=true
 | ts,0=>by cases ts<;>rfl
 | [],m+1=>rfl
 | t::ts,1=>by simp[enD,Z4S]
 | t::ts,m+2=>by simp only[enD];exact Zc8 pid ts (m+1)
theorem YC (ts:List TypeId) (pid n:Nat) (a:Nat->Nat):(eal ts pid n a).all (Z4S pid)=true:=by
 rw[List.all_eq_true];intro c hc;obtain⟨j,_,rfl⟩:=List.mem_map.1 hc;exact Zc8 pid ts _
theorem Z1c (pid n:Nat):(List.replicate n DV.nilif).all (Z4S pid)=true:=by
 rw[List.all_eq_true];intro c hc;rw[(List.mem_replicate.1 hc).2];rfl
theorem Z1z {pid:Nat} {d:DV} (h:Z4S pid d=true):d=.nilif\/∃t,d=.iface t (.agg [.ptr pid 0]):=by
 unfold Z4S at h;split at h
 ·exact .inl rfl
 ·rw[jf h];exact .inr ⟨_,rfl⟩
 ·cases h
theorem Z6p {pid:Nat}:∀{l:List DV},l.all (Z4S pid)=true->Zk l=[]
 | [],_=>rfl
 | d::l,h=>by
  simp only[jt,jn]at h;rcases Z1z h.1 with rfl|⟨t,rfl⟩<;>simp[Zk,Zj,Z6p h.2]
theorem Z8K (h':Nat->Option Zd) {pid:Nat}:∀{l:List DV},l.all (Z4S pid)=true->Z1N h' l=bif Zc l then some l else none
 | [],_=>rfl
 | d::l,h=>by
  simp only[jt,jn]at h;rcases Z1z h.1 with rfl|⟨t,rfl⟩
  ·simp only[Z1N,frz,Zh,Zc,jB,jm,Z8K h' h.2,Bool.true_and];cases Zc l<;>rfl
  ·simp[Z1N,frz,Zh,Zc]
theorem Z6L (n:Nat):Zc (List.replicate n DV.nilif)=true:=by
 induction n with
 | zero=>rfl
 | succ n ih=>rw[List.replicate_succ];simp[Zc,Zh,ih]
theorem ZeZ (n:Nat):ZI (List.replicate n DV.nilif)=[]:=by
 induction n with
 | zero=>rfl
 | succ n ih=>rw[List.replicate_succ];simp[ZI,ZA,ih]
theorem ZdF (n:Nat) (L:List (Option (Nat×Nat))) {pid:Nat} (a:Nat.blt pid n=true):∀{l:List DV},l.all (Z4S pid)=true->Z2y n L l=some l
 | [],_=>rfl
 | d::l,h=>by
  simp only[jt,jn]at h;rcases Z1z h.1 with rfl|⟨t,rfl⟩<;>simp[Z2y,ren,bdd,Z1P,a,ZdF n L a h.2]
theorem Zf0 (n:Nat) (L:List (Option (Nat×Nat))) (m:Nat):Z2y n L (List.replicate m DV.nilif)=some (List.replicate m DV.nilif):=by
 induction m with
 | zero=>rfl
 | succ m ih=>rw[List.replicate_succ];simp[Z2y,ren,bdd,ih]
theorem Zgj (n:Nat) {pid:Nat} (a:Nat.blt pid n=true):∀{l:List DV},l.all (Z4S pid)=true->Z1P n l=true
 | [],_=>rfl
 | d::l,h=>by
  simp only[jt,jn]at h;rcases Z1z h.1 with rfl|⟨t,rfl⟩<;>simp[Z1P,bdd,a,Zgj n a h.2]
theorem ZhO (n m:Nat):Z1P n (List.replicate m DV.nilif)=true:=by
 induction m with
 | zero=>rfl
 | succ m ih=>rw[List.replicate_succ];simp[Z1P,bdd,ih]
section
variable {T:TS S} (hT:TOk T)
include hT
mutual
theorem Z7e:∀v:TV S,Zh (dv T v)=Zv v
 | .bool _=>rfl | .int _ _=>rfl | .str _=>rfl | .nilp=>rfl | .nils=>rfl
 | .sl0=>by simp[dv,Zh,Zv] | .sl _ _=>by simp[dv,Zh,Zv]
 | .arr _ _ _=>by simp[dv,Zh,Zv]
 | .stc _ _=>by simp[dv,Zh,Zv]
 | .narr _ _=>by simp[dv,Zh,Zv,Z6L]
 | .earr _ _ _ _=>by simp[dv,Zh,Zv]
 | .ptr _ _=>by simp[dv,Zh,Zv] | .ap _ _ _ _ _=>by simp[dv,Zh,Zv] | .rptr _ _ _ _ _=>by simp[dv,Zh,Zv]
 | .pub _=>by simp[dv,Zh,Zv]
 | .rv _ _ _ _ _=>by simp[dv,Zh,Zv] | .slen _=>by simp[dv,Zh,Zv]
 | .rs _ _=>by simp[dv,Zh,Zv] | .map _=>by simp[dv,Zh,Zv] | .iter _=>by simp[dv,Zh,Zv] | .yld _=>by simp[dv,Zh,Zv]
 | .nilfn=>by simp[dv,Zh,Zv] | .nilmap=>by simp[dv,Zh,Zv] | .nilif=>by simp[dv,Zh,Zv]
 | .agg cs=>by simp only[dv,Zh,Zv];exact Z4P cs
 | .tup cs=>by simp only[dv,Zh,Zv];exact Z1H cs
 | .fn _ a c=>by simp only[dv,Zh,Zv,Z1H a,Z1H c]
 | .iface _ v=>by simp only[dv,Zh,Zv];exact Z7e v
theorem Z4P:∀cs:List (TV S),Zc (dvs T cs)=YK cs
 | []=>by simp[dvs,Zc,YK]
 | c::cs=>by
  rw[ZB,Z4O,YK,Z4P cs];have h:=Z7e c;cases c<;>simp only[Yc,Zc,Bool.and_true]<;>first|rw[h]|skip
  ·rw[Z1J (Ys hT _ _ _)];rfl
  ·rw[Z1J (hT.plain _ _)];rfl
  ·rfl
  ·rw[Z6L];rfl
theorem Z1H:∀cs:List (TV S),Zc (dvl T cs)=YK cs
 | []=>by simp[dvl,Zc,YK]
 | c::cs=>by simp only[dvl,Zc,YK,Z7e c,Z1H cs]
end
mutual
theorem Z1Z (n:Nat):∀v:TV S,Z9T n v=true->bdd n (dv T v)=true
 | .bool _,_=>rfl | .int _ _,_=>rfl | .str _,_=>rfl | .nilp,_=>rfl | .nils,_=>rfl
 | .sl0,_=>by simp[dv,bdd] | .sl _ _,_=>by simp[dv,bdd]
 | .arr _ _ _,_=>by simp[dv,bdd]
 | .stc _ _,_=>by simp[dv,bdd]
 | .narr _ _,_=>by simp only[dv,bdd];exact ZhO n _
 | .earr _ _ _ _,h=>by simp only[dv,bdd];exact Zgj n h (YC _ _ _ _)
 | .ptr _ _,h=>h | .ap _ _ _ _ _,h=>h | .rptr _ _ _ _ _,h=>h
 | .rv _ _ _ _ _,h=>h | .slen _,_=>by simp[dv,bdd]
 | .rs _ _,h=>h | .map _,h=>h | .iter _,h=>h | .yld _,h=>h
 | .nilfn,_=>by simp[dv,bdd] | .nilmap,_=>by simp[dv,bdd] | .nilif,_=>by simp[dv,bdd]
 | .pub cs,h=>by simp only[dv,bdd,Z9T]at h⊢;exact Z8A n cs h
 | .agg cs,h=>by simp only[dv,bdd,Z9T]at h⊢;exact Z8A n cs h
 | .tup cs,h=>by simp only[dv,bdd,Z9T]at h⊢;exact Z6h n cs h
 | .fn _ a c,h=>by
  simp only[dv,bdd,Z9T,jn]at h⊢;exact⟨Z6h n a h.1,Z6h n c h.2⟩
 | .iface _ v,h=>by simp only[dv,bdd,Z9T]at h⊢;exact Z1Z n v h
theorem Z8A (n:Nat):∀cs:List (TV S),Z5y n cs=true->Z1P n (dvs T cs)=true
 | [],_=>by simp[dvs,Z1P]
 | c::cs,h=>by
  simp only[Z5y,jn]at h;rw[ZB,Z7J,Z8A n cs h.2,Bool.and_true];have hc:=Z1Z n c h.1;cases c<;>simp only[Yc,Z1P,Bool.and_true]<;>first|exact hc|skip
  ·exact Z64 n (Ys hT _ _ _)
  ·exact Z64 n (hT.plain _ _)
theorem Z6h (n:Nat):∀cs:List (TV S),Z5y n cs=true->Z1P n (dvl T cs)=true
 | [],_=>by simp[dvl,Z1P]
 | c::cs,h=>by
  simp only[Z5y,jn]at h;simp only[dvl,Z1P,Z1Z n c h.1,Z6h n cs h.2,ju]
end
mutual
theorem Z6Q:∀v:TV S,Zj (dv T v)=Y6 v
 | .bool _=>rfl | .int _ _=>rfl | .str _=>rfl | .nilp=>rfl | .nils=>rfl
 | .sl0=>by simp[dv,Zj,Y6] | .sl _ _=>by simp[dv,Zj,Y6]
 | .arr _ _ _=>by simp[dv,Zj,Y6]
 | .stc _ _=>by simp[dv,Zj,Y6]
 | .narr _ _=>by simp only[dv,Zj,Y6];exact Z6p (Z1c 0 _)
 | .earr _ _ _ _=>by simp only[dv,Zj,Y6];exact Z6p (YC _ _ _ _)
 | .ptr _ _=>by simp[dv,Zj,Y6] | .ap _ _ _ _ _=>by simp[dv,Zj,Y6] | .rptr _ _ _ _ _=>by simp[dv,Zj,Y6]
 | .pub _=>by simp[dv,Zj,Y6]
 | .rv _ _ _ _ _=>by simp[dv,Zj,Y6] | .slen _=>by simp[dv,Zj,Y6]
 | .rs _ _=>by simp[dv,Zj,Y6] | .map _=>by simp[dv,Zj,Y6] | .iter _=>by simp[dv,Zj,Y6] | .yld _=>by simp[dv,Zj,Y6]
 | .nilfn=>by simp[dv,Zj,Y6] | .nilmap=>by simp[dv,Zj,Y6] | .nilif=>by simp[dv,Zj,Y6]
 | .agg cs=>by simp only[dv,Zj,Y6];exact ZcZ cs
 | .tup cs=>by simp only[dv,Zj,Y6];exact Z3Z cs
 | .fn _ a c=>by simp[dv,Zj,Y6]
 | .iface _ v=>by simp only[dv,Zj,Y6];exact Z6Q v
theorem ZcZ:∀cs:List (TV S),Zk (dvs T cs)=Yq cs
 | []=>by simp[dvs,Zk,Yq]
 | c::cs=>by
  rw[ZB,Z55,Yq,ZcZ cs];have h:=Z6Q c;cases c<;>simp only[Yc,Zk,jp]<;>first|rw[h]|skip
  ·rw[Z51 (Ys hT _ _ _)];rfl
  ·rw[Z51 (hT.plain _ _)];rfl
  ·rw[Z6p (YC _ _ _ _)];rfl
  ·rw[Z6p (Z1c 0 _)];rfl
theorem Z3Z:∀cs:List (TV S),Zk (dvl T cs)=Yq cs
 | []=>by simp[dvl,Zk,Yq]
 | c::cs=>by simp only[dvl,Zk,Yq,Z6Q c,Z3Z cs]
end
mutual
theorem Zb8:∀v:TV S,ZA (dv T v)=Z25 v
 | .bool _=>rfl | .int _ _=>rfl | .str _=>rfl | .nilp=>rfl | .nils=>rfl
 | .sl0=>by simp[dv,ZA,Z25] | .sl _ _=>by simp[dv,ZA,Z25]
 | .arr _ _ _=>by simp[dv,ZA,Z25]
 | .stc _ _=>by simp[dv,ZA,Z25]
 | .narr _ _=>by simp[dv,ZA,Z25,ZeZ]
 | .earr _ _ _ _=>by simp[dv,ZA,Z25]
 | .ptr _ _=>by simp[dv,ZA,Z25] | .ap _ _ _ _ _=>by simp[dv,ZA,Z25] | .rptr _ _ _ _ _=>by simp[dv,ZA,Z25]
 | .pub _=>by simp[dv,ZA,Z25]
 | .rv _ _ _ _ _=>by simp[dv,ZA,Z25] | .slen _=>by simp[dv,ZA,Z25]
 | .rs _ _=>by simp[dv,ZA,Z25] | .map _=>by simp[dv,ZA,Z25] | .iter _=>by simp[dv,ZA,Z25] | .yld _=>by simp[dv,ZA,Z25]
 | .nilfn=>by simp[dv,ZA,Z25] | .nilmap=>by simp[dv,ZA,Z25] | .nilif=>by simp[dv,ZA,Z25]
 | .agg cs=>by simp only[dv,ZA,Z25];exact ZeH cs
 | .tup cs=>by simp only[dv,ZA,Z25];exact Z8i cs
 | .fn _ a c=>by simp only[dv,ZA,Z25,Z8i a,Z8i c]
 | .iface _ v=>by simp only[dv,ZA,Z25];exact Zb8 v
theorem ZeH:∀cs:List (TV S),ZI (dvs T cs)=Z4Q cs
 | []=>by simp[dvs,ZI,Z4Q]
 | c::cs=>by
  rw[ZB,Z5C,Z4Q,ZeH cs];have h:=Zb8 c;cases c<;>simp only[Yc,ZI,jp]<;>first|rw[h]|skip
  ·rw[Z66 (Ys hT _ _ _)];rfl
  ·rw[Z66 (hT.plain _ _)];rfl
  ·rfl
  ·rw[ZeZ];rfl
theorem Z8i:∀cs:List (TV S),ZI (dvl T cs)=Z4Q cs
 | []=>by simp[dvl,ZI,Z4Q]
 | c::cs=>by simp only[dvl,ZI,Z4Q,Zb8 c,Z8i cs]
end
mutual
theorem Z5Z (h:Nat->Option (Zp S)):∀v:TV S,frz (dvh T h) (dv T v)=(YH h v).map (dv T)
 | .bool _=>by simp[dv,frz,YH,Zh,Zv] | .int _ _=>by simp[dv,frz,YH,Zh,Zv] | .str _=>by simp[dv,frz,YH,Zh,Zv]
 | .nilp=>by simp[dv,frz,YH,Zh,Zv] | .nils=>by simp[dv,frz,YH]
 | .sl0=>by simp[dv,frz,YH,Zh,Zv] | .sl _ _=>by simp[dv,frz,YH,Zh,Zv]
 | .arr _ _ _=>by simp[dv,frz,YH,Zh,Zv]
 | .stc _ _=>by simp[dv,frz,YH,Zh,Zv]
 | .narr _ _=>by simp[dv,frz,YH,Zv,Z8K _ (Z1c 0 _),Z6L]
 | .earr ts pid n a=>by
  simp only[dv,frz,YH,Zv,Z8K _ (YC _ _ _ _)];cases Zc (eal ts pid n a)<;>simp[dv]
 | .ptr _ _=>by simp[dv,frz,YH,Zh,Zv] | .ap _ _ _ _ _=>by simp[dv,frz,YH,Zh,Zv] | .rptr _ _ _ _ _=>by simp[dv,frz,YH,Zh,Zv]
 | .pub _=>by simp[dv,frz,YH,Zh,Zv]
 | .rs id v=>by
  simp only[dv,frz,YH,dvh];cases h id with
  | none=>rfl
  | some o =>
   cases o<;>simp only[jq,jm,dvO,Option.map_none];rename_i e t xs p u;cases Nat.beq u v<;>simp[dv]
 | .rv _ _ _ _ _=>by simp[dv,frz,YH,Zh,Zv] | .slen _=>by simp[dv,frz,YH,Zh,Zv]
 | .map _=>by simp[dv,frz,YH,Zh,Zv] | .iter _=>by simp[dv,frz,YH,Zh,Zv] | .yld _=>by simp[dv,frz,YH,Zh,Zv]
 | .nilfn=>by simp[dv,frz,YH,Zh,Zv] | .nilmap=>by simp[dv,frz,YH,Zh,Zv] | .nilif=>by simp[dv,frz,YH,Zh,Zv]
 | .agg cs=>by
  simp only[dv,frz,YH,Z8Z h cs];cases Z1Y h cs<;>simp[dv]
 | .tup cs=>by
  simp only[dv,frz,YH,Zco h cs];cases Z1Y h cs<;>simp[dv]
 | .fn f a c=>by
  simp only[dv,frz,YH,Zh,Zv,Z1H hT a,Z1H hT c];cases YK a&&YK c<;>simp[dv]
 | .iface t v=>by
  simp only[dv,frz,YH,Z5Z h v];cases YH h v<;>simp[dv]
theorem Z8Z (h:Nat->Option (Zp S)):∀cs:List (TV S),Z1N (dvh T h) (dvs T cs)=(Z1Y h cs).map (dvs T)
 | []=>by simp[dvs,Z1N,Z1Y]
 | c::cs=>by
  rw[ZB,Z7T,Z8Z h cs,Z1Y];have hc:=Z5Z h c
  by_cases ha:Y1 c=true
  ·cases c<;>simp only[Y1,jg]at ha
   ·simp only[Yc,YH,Zv,jB,jm];rw[Z65 _ (Ys hT _ _ _)];cases Z1Y h cs<;>simp[dvs]
   ·simp only[Yc,YH,Zv,jB,jm];rw[Z65 _ (hT.plain _ _)];cases Z1Y h cs<;>simp[dvs]
   ·rename_i ts pid n a;simp only[Yc,YH,Zv];rw[Z8K _ (YC _ _ _ _)];cases Zc (eal ts pid n a)
    ·rfl
    ·cases Z1Y h cs<;>simp[dvs]
   ·simp only[Yc,YH,Zv,jB,jm];rw[Z8K _ (Z1c 0 _),Z6L];cases Z1Y h cs<;>simp[dvs]
  ·have e:Yc T c=[dv T c]:=by cases c<;>simp[Yc,Y1]at ha⊢
   rw[e];simp only[Z1N,hc];cases b:YH h c with
   | none=>rfl
   | some c' =>
    have d:Y1 c'=false:=by
     cases c<;>simp[Y1]at ha<;>simp only[YH,Zv,jB,jA,reduceCtorEq,jh]at b<;>first|(subst b;rfl)|skip
     ·cases ho:h _ with
      | none=>rw[ho]at b;cases b
      | some o =>
       rw[ho]at b;cases o<;>simp only[jm,reduceCtorEq]at b;obtain⟨_,b⟩:=Z3 b;cases b;rfl
     ·obtain⟨_,_,b⟩:=Z0 b;cases b;rfl
     ·obtain⟨_,_,b⟩:=Z0 b;cases b;rfl
     ·obtain⟨_,b⟩:=Z3 b;cases b;rfl
     ·obtain⟨_,_,b⟩:=Z0 b;cases b;rfl
    have f:∀l,dvs T (c'::l)=dv T c'::dvs T l:=fun l=>by
     rw[ZB];cases c'<;>simp[Yc,Y1]at d⊢
    cases Z1Y h cs<;>simp[f]
theorem Zco (h:Nat->Option (Zp S)):∀cs:List (TV S),Z1N (dvh T h) (dvl T cs)=(Z1Y h cs).map (dvl T)
 | []=>by simp[dvl,Z1N,Z1Y]
 | c::cs=>by
  simp only[dvl,Z1N,Z1Y,Z5Z h c,Zco h cs];cases YH h c with
  | none=>rfl
  | some c'=>cases Z1Y h cs<;>simp[dvl]
end
theorem Zht (E:Env) (h:Nat->Option (Zp S)) (v:TV S):Z8W E (dvh T h) (dv T v)=(Zcm E h v).map (dv T):=by
 cases v with
 | rv id ver i n e =>
  simp only[dv,Z8W,Zcm,dvh];cases h id with
  | none=>rfl
  | some o =>
   cases o<;>simp only[jq,jm,dvO,Option.map_none];rename_i t te xs p u;cases Nat.beq u ver&&Nat.beq (match E.ty t with|some ti=>ti.size|none=>0) e<;>simp[dv,List.map_drop,List.map_take]
 | _=>first|exact Z5Z hT h _|(simp only[dv,Z8W,Zcm];exact Z5Z hT h _)
theorem Z7c (E:Env) (h:Nat->Option (Zp S)):∀cs:List (TV S),Z3M E (dvh T h) (dvl T cs)=(Z7b E h cs).map (dvl T)
 | []=>by simp[dvl,Z3M,Z7b]
 | c::cs=>by
  simp only[dvl,Z3M,Z7b,Zht hT E h c,Z7c E h cs];cases Zcm E h c with
  | none=>rfl
  | some c'=>cases Z7b E h cs<;>simp[dvl]
omit hT in
theorem Z8v:∀cs:List (TV S),(dvl T cs).any Zgr=cs.any ZeI
 | []=>by simp[dvl]
 | c::cs=>by
  simp only[dvl,List.any_cons,Z8v cs];cases c<;>simp[dv,Zgr,ZeI]
omit hT in
mutual
theorem Zfe:∀{v v':TV S},Zfd v=some v'->Yx (dv T v)=some (dv T v')
 | .bool _,_,h=>by cases h;simp[dv,Yx]
 | .int _ _,_,h=>by cases h;simp[dv,Yx]
 | .str _,_,h=>by cases h;simp[dv,Yx]
 | .sl0,_,h=>by cases h;simp[dv,Yx]
 | .sl _ _,_,h=>by cases h;simp[dv,Yx]
 | .tup vs,_,h=>by
  simp only[Zfd]at h;obtain⟨vs',a,h⟩:=Z0 h;cases h;simp only[dv,Yx,Zdl a,jm]
theorem Zdl:∀{vs vs':List (TV S)},ZbQ vs=some vs'->Z5d (dvl T vs)=some (dvl T vs')
 | [],_,h=>by cases h;simp[dvl,Z5d]
 | c::cs,_,h=>by
  simp only[ZbQ]at h;obtain⟨c',a,h⟩:=Z0 h;obtain⟨cs',b,h⟩:=Z0 h;cases h;simp only[dvl,Z5d,Zfe a,Zdl b,jm]
end
mutual
theorem Zbw (n:Nat) (L:List (Option (Nat×Nat))):∀(v v':TV S),Z3j n L v=some v'->ren n L (dv T v)=some (dv T v')
 | .rs id v,v',h=>by
  simp only[dv,ren,Z3j]at h⊢;cases hj:Z5A id v 0 L with
  | some j=>rw[hj]at h;cases h;rfl
  | none =>
   rw[hj]at h;obtain⟨d,h⟩:=Z3 h;cases h;simp only[d,jB];rfl
 | .agg cs,v',h=>by
  simp only[Z3j]at h;obtain⟨cs',d,h⟩:=Z0 h;cases h;simp only[dv,ren,Z9n n L cs cs' d,jm]
 | .tup cs,v',h=>by
  simp only[Z3j]at h;obtain⟨cs',d,h⟩:=Z0 h;cases h;simp only[dv,ren,ZcO n L cs cs' d,jm]
 | .narr ts m,v',h=>by
  simp only[Z3j]at h;obtain⟨_,h⟩:=Z3 h;cases h;simp only[dv,ren,Zf0 n L m,jm]
 | .earr ts pid m a,v',h=>by
  simp only[Z3j]at h;obtain⟨d,h⟩:=Z3 h;cases h;simp only[dv,ren,ZdF n L d (YC _ _ _ _),jm]
 | .bool _,v',h=>by cases h;simp[dv,ren,bdd] | .int _ _,v',h=>by cases h;simp[dv,ren,bdd] | .str _,v',h=>by cases h;simp[dv,ren,bdd]
 | .nilp,v',h=>by cases h;simp[dv,ren,bdd] | .nils,v',h=>by cases h;simp[dv,ren,bdd]
 | .sl0,v',h=>by cases h;simp[dv,ren,bdd] | .sl _ _,v',h=>by cases h;simp[dv,ren,bdd]
 | .arr _ _ _,v',h=>by cases h;simp[dv,ren,bdd]
 | .stc _ _,v',h=>by cases h;simp[dv,ren,bdd]
 | .nilfn,v',h=>by cases h;simp[dv,ren,bdd] | .nilmap,v',h=>by cases h;simp[dv,ren,bdd] | .nilif,v',h=>by cases h;simp[dv,ren,bdd]
 | .ptr i o,v',h=>by
  simp only[Z3j]at h;obtain⟨d,h⟩:=Z3 h;cases h;have:=Z1Z hT n (.ptr i o) d;simp only[dv,ren]at this⊢;rw[this];rfl
 | .ap i b j e o,v',h=>by
  simp only[Z3j]at h;obtain⟨d,h⟩:=Z3 h;cases h;have:=Z1Z hT n (.ap i b j e o) d;simp only[dv,ren]at this⊢;rw[this];rfl
 | .rptr i w j e o,v',h=>by
  simp only[Z3j]at h;obtain⟨d,h⟩:=Z3 h;cases h;have:=Z1Z hT n (.rptr i w j e o) d;simp only[dv,ren]at this⊢;rw[this];rfl
 | .rv i w j m e,v',h=>by
  simp only[Z3j]at h;obtain⟨d,h⟩:=Z3 h;cases h;have:=Z1Z hT n (.rv i w j m e) d;simp only[dv,ren]at this⊢;rw[this];rfl
 | .slen _,v',h=>by cases h;simp[dv,ren,bdd]
 | .pub cs,v',h=>by
  simp only[Z3j]at h;obtain⟨d,h⟩:=Z3 h;cases h;have:=Z1Z hT n (.pub cs) d;simp only[dv,ren]at this⊢;rw[this];rfl
 | .map i,v',h=>by
  simp only[Z3j]at h;obtain⟨d,h⟩:=Z3 h;cases h;have:=Z1Z hT n (.map i) d;simp only[dv,ren]at this⊢;rw[this];rfl
 | .iter i,v',h=>by
  simp only[Z3j]at h;obtain⟨d,h⟩:=Z3 h;cases h;have:=Z1Z hT n (.iter i) d;simp only[dv,ren]at this⊢;rw[this];rfl
 | .yld i,v',h=>by
  simp only[Z3j]at h;obtain⟨d,h⟩:=Z3 h;cases h;have:=Z1Z hT n (.yld i) d;simp only[dv,ren]at this⊢;rw[this];rfl
 | .fn f a c,v',h=>by
  simp only[Z3j]at h;obtain⟨d,h⟩:=Z3 h;cases h;have:=Z1Z hT n (.fn f a c) d;simp only[dv,ren]at this⊢;rw[this];rfl
 | .iface t v,v',h=>by
  simp only[Z3j]at h;obtain⟨d,h⟩:=Z3 h;cases h;have:=Z1Z hT n (.iface t v) d;simp only[dv,ren]at this⊢;rw[this];rfl
theorem Z9n (n:Nat) (L:List (Option (Nat×Nat))):∀(cs cs':List (TV S)),Z7X n L cs=some cs'->Z2y n L (dvs T cs)=some (dvs T cs')
 | [],cs',h=>by cases h;simp[dvs,Z2y]
 | c::cs,r,h=>by
  simp only[Z7X]at h;obtain⟨c',a,h⟩:=Z0 h;obtain⟨cs',e,h⟩:=Z0 h;cases h;rw[ZB,Z7Y,Z9n n L cs cs' e,ZB];have hc:=Zbw n L c c' a
  by_cases ha:Y1 c=true
  ·cases c<;>simp only[Y1,jg]at ha
   ·cases a;simp only[Yc,jm];rw[Z67 n L (Ys hT _ _ _)];rfl
   ·cases a;simp only[Yc,jm];rw[Z67 n L (hT.plain _ _)];rfl
   ·simp only[Z3j]at a;obtain⟨d,a⟩:=Z3 a;cases a;simp only[Yc,jm];rw[ZdF n L d (YC _ _ _ _)];rfl
   ·simp only[Z3j]at a;obtain⟨d,a⟩:=Z3 a;cases a;simp only[Yc,jm];rw[Zf0 n L];rfl
  ·have e1:Yc T c=[dv T c]:=by cases c<;>simp[Yc,Y1]at ha⊢
   have b:Y1 c'=false:=by
    cases c<;>simp[Y1]at ha<;>simp only[Z3j,Z9T,jB,jh]at a<;>first|(subst a;rfl)|(obtain⟨_,a⟩:=Z3 a;cases a;rfl)|(obtain⟨_,_,a⟩:=Z0 a;cases a;rfl)|skip
    rename_i id v;cases hj:Z5A id v 0 L with
    | some j=>rw[hj]at a;cases a;rfl
    | none=>rw[hj]at a;obtain⟨_,a⟩:=Z3 a;cases a;rfl
   have e2:Yc T c'=[dv T c']:=by cases c'<;>simp[Yc,Y1]at b⊢
   rw[e1,e2];simp only[Z2y,hc,jm]
theorem ZcO (n:Nat) (L:List (Option (Nat×Nat))):∀(cs cs':List (TV S)),Z7X n L cs=some cs'->Z2y n L (dvl T cs)=some (dvl T cs')
 | [],cs',h=>by cases h;simp[dvl,Z2y]
 | c::cs,r,h=>by
  simp only[Z7X]at h;obtain⟨c',a,h⟩:=Z0 h;obtain⟨cs',b,h⟩:=Z0 h;cases h;simp only[dvl,Z2y,Zbw n L c c' a,ZcO n L cs cs' b,jm]
end
omit hT in
theorem Z6T (h:Nat->Option (Zp S)):∀is,Zu (dvh T h) is=dvu T (Z5M h is)
 | []=>rfl
 | i::is=>by
  simp only[Zu,Z5M,Z6T h is,dvh,dvu,List.map_append];cases h i with
  | none=>rfl
  | some o =>
   cases o with
   | row e t xs p u=>simp only[jq,dvO];cases Nat.beq p 1<;>simp[dvO]
   | _=>simp[dvO]
end
end Go.Ab
namespace Go.Ab
variable {S:Nat->Type} {R:Type}
def ZdL:Option (Zp S)->Bool
 | some (.loop ..)=>true
 | _=>false
def Z5P (u:List (Nat×Option (Zp S))):Prop:=∀p∈u,ZdL p.2=false
theorem ZY:Z5P (S:=S) []:=fun _ h=>by cases h
theorem Y2 {i:Nat} {x:Option (Zp S)} {u:List (Nat×Option (Zp S))} (b:ZdL x=false) (h:Z5P u):Z5P ((i,x)::u):=fun p a=>by
 rcases jr.1 a with e|a
 ·subst e;exact b
 ·exact h p a
theorem Z2v (h:Nat->Option (Zp S)):∀is,Z5P (Z5M h is)
 | []=>ZY
 | i::is=>fun p a=>by
  simp only[Z5M,List.mem_append]at a;rcases a with a|a
  ·cases hi:h i with
   | none=>rw[hi]at a;simp at a
   | some o =>
    rw[hi]at a;cases o with
    | row e t xs p1 u =>
     simp only at a;cases hb:Nat.beq p1 1 with
     | true=>rw[hb]at a;cases a
     | false=>rw[hb]at a;simp only[jA,List.mem_singleton]at a;subst a;rfl
    | _=>cases a
  ·exact Z2v h is p a
def Sim (T:TS S) (e:Option Out) (k:Z2n S R) (r:R):Prop:=∃o:ZaP S,e=some (Yd T o)/\Z5P o.upd/\k o=some r
theorem Zx {T:TS S} {k:Z2n S R} {r:R} {v:TV S} {e:Option Out} (h:ZT v k=some r) (a:e=ret (dv T v)):Sim T e k r:=⟨⟨some v,[]⟩,by rw[a];rfl,ZY,h⟩
theorem Z1S:∀{x y x' y':List DV},Zg x y=true->Zg (x++x') (y++y')=Zg x' y'
 | [],[],_,_,_=>rfl
 | [],_::_,_,_,h=>by simp[Zg]at h
 | a::x,[],_,_,h=>by cases a<;>simp[Zg]at h
 | a::x,b::y,x',y',h=>by
  cases a<;>cases b<;>simp only[Zg,jn,jg]at h<;>simp only[List.cons_append,Zg]
  ·exact Z1S h
  ·rw[h.1,Z1S h.2,Bool.true_and]
  ·exact Z1S h
theorem Z18:∀{x y x' y':List DV} {p q:Bool},Zl x y=some p->Zl x' y'=some q->Zl (x++x') (y++y')=some (p&&q)
 | [],[],_,_,p,q,h,h'=>by simp[Zl]at h;subst h;simpa using h'
 | [],_::_,_,_,_,_,h,_=>by simp[Zl]at h
 | a::x,[],_,_,_,_,h,_=>by cases a<;>simp[Zl]at h
 | a::x,b::y,x',y',p,q,h,h'=>by
  cases a<;>cases b<;>simp only[Zl,reduceCtorEq]at h<;>simp only[List.cons_append,Zl]
  ·obtain⟨r,c,h⟩:=Z0 h;cases h;rw[Z18 c h'];simp[Bool.and_assoc]
  ·obtain⟨d,h⟩:=Z3 h;obtain⟨r,c,h⟩:=Z0 h;cases h;rw[d,Z18 c h'];simp[Bool.and_assoc]
  ·obtain⟨r,c,h⟩:=Z0 h;cases h;rw[Z18 c h'];simp[Bool.and_assoc]
section
variable (T:TS S)
theorem Zec {t:Ty} (a:(Z3F (S:=S) t).isSome=true) (x y:Val S t):Zg (dcl T t x) (dcl T t y)=true:=by
 cases t<;>simp[Z3F]at a<;>simp[dcl,Zg]
theorem ZhR {t:Ty} {e:Val S t->Val S t->Bool} (a:Z3F t=some e) (x y:Val S t):Zl (dcl T t x) (dcl T t y)=some (e x y):=by
 cases t<;>simp only[Z3F,reduceCtorEq]at a<;>cases a<;>simp[dcl,Zl]
theorem Za3 {t:Ty} (c:(Z3F (S:=S) t).isSome=true) (a b:Nat->Val S t):∀l:List Nat,Zg (l.flatMap fun j=>dcl T t (a j)) (l.flatMap fun j=>dcl T t (b j))=true
 | []=>rfl
 | j::l=>by
  simp only[List.flatMap_cons];rw[Z1S (Zec T c _ _)];exact Za3 c a b l
theorem Zg1 {t:Ty} {e:Val S t->Val S t->Bool} (c:Z3F t=some e) (a b:Nat->Val S t):∀l:List Nat,Zl (l.flatMap fun j=>dcl T t (a j)) (l.flatMap fun j=>dcl T t (b j))=some (l.all fun j=>e (a j) (b j))
 | []=>rfl
 | j::l=>by
  simp only[List.flatMap_cons,jt];exact Z18 (ZhR T c _ _) (Zg1 c a b l)
theorem Z26:∀{z a:List (TV S)},Z3c z a=true->Zg (dvs T z) (dvs T a)=true
 | [],[],_=>by simp[dvs,Zg]
 | [],_::_,h=>by simp[Z3c]at h
 | z::zs,[],h=>by cases z<;>simp[Z3c]at h
 | z::zs,a::as,h=>by
  cases z<;>cases a<;>simp only[Z3c,jn,jg]at h<;>simp only[dvs,dv,Zg]
  ·exact Z26 h
  ·rw[h.1,Z26 h.2];rfl
  ·exact Z26 h
  ·obtain⟨⟨⟨b,c⟩,d⟩,e⟩:=h;have b:=of_decide_eq_true b;have c:=jf c;subst b c;exact(Z1S (Za3 T d _ _ (List.range _))).trans (Z26 e)
theorem Z1E:∀{a b:List (TV S)} {r:Bool},Z17 a b=some r->Zl (dvs T a) (dvs T b)=some r
 | [],[],r,h=>by simp[Z17]at h;subst h;simp[dvs,Zl]
 | [],_::_,_,h=>by simp[Z17]at h
 | z::zs,[],_,h=>by cases z<;>simp[Z17]at h
 | z::zs,a::as,r,h=>by
  cases z<;>cases a<;>simp only[Z17,reduceCtorEq]at h<;>simp only[dvs,dv,Zl]
  ·obtain⟨q,c,h⟩:=Z0 h;rw[Z1E c];exact h
  ·obtain⟨d,h⟩:=Z3 h;obtain⟨q,c,h⟩:=Z0 h;rw[d,Z1E c];exact h
  ·obtain⟨q,c,h⟩:=Z0 h;rw[Z1E c];exact h
  ·split at h
   ·rename_i e;obtain⟨d,h⟩:=Z3 h;obtain⟨eq,c,h⟩:=Z0 h;obtain⟨q,f,h⟩:=Z0 h;cases h;have d:=jf d;subst e d;exact Z18 (Zg1 T c _ _ _) (Z1E f)
   ·cases h
end
variable {X:Yk S} (hX:XOk X)
include hX
theorem Zhe {op:BinOp} {t:TypeId} {x y:TV S} {k:Z2n S R} {r:R} (h:Zhd X op t x y k=some r):Sim X.T ((ZaS X.E op t (dv X.T x) (dv X.T y)).bind ret) k r:=by
 unfold Zhd at h;split at h
 ·rename_i kd a kd' b;simp only[dv,ZaS];cases op<;>simp only[reduceCtorEq]at h<;>simp only[Z5l,jA,jB,Zhw,ZbK,Zhh,Zev]
  case shl =>
   cases hb:decide (b<0)with
   | true=>rw[hb]at h;cases h
   | false=>rw[hb]at h;exact Zx h rfl
  case shr =>
   cases hb:decide (b<0)with
   | true=>rw[hb]at h;cases h
   | false=>rw[hb]at h;exact Zx h rfl
  case quo =>
   obtain⟨d,h⟩:=Z3 h;rw[d];cases hb:b==0 with
   | true=>rw[hb]at h;cases h
   | false=>rw[hb]at h;exact Zx h rfl
  case rem =>
   obtain⟨d,h⟩:=Z3 h;rw[d];cases hb:b==0 with
   | true=>rw[hb]at h;cases h
   | false=>rw[hb]at h;exact Zx h rfl
  all_goals
   obtain⟨d,h⟩:=Z3 h;rw[d];exact Zx h rfl
 ·rename_i a b;simp only[dv,ZaS,ZhU];cases op<;>simp only[reduceCtorEq]at h
  case add =>
   obtain⟨d,h⟩:=Z3 h;rw[d];exact Zx h rfl
  all_goals exact Zx h rfl
 ·rename_i a b;obtain⟨ti,e,h⟩:=Z0 h;simp only[dv,ZaS,e,jm];cases hk:ti.k<;>rw[hk]at h<;>first|(cases h;done)|skip
  cases op<;>simp only[reduceCtorEq]at h<;>exact Zx h rfl
 ·rename_i a b;obtain⟨ti,e,h⟩:=Z0 h;obtain⟨z,i,h⟩:=Z0 h;obtain⟨f,h⟩:=Z3 h;simp only[jn]at f;simp only[dv,ZaS,e,jm];have hz:=hX.zero t z ti i e;have k1:=Z26 X.T f.1.2;have k2:=Z26 X.T f.2;rw[Z2m hX.t,Z2m hX.t]at k1 k2;rw[f.1.1,<-hz,k1,k2];simp only[ju,jB];split at h
  ·obtain⟨q,g,h⟩:=Z0 h;have k3:=Z1E X.T g;rw[Z2m hX.t,Z2m hX.t]at k3;rw[k3];exact Zx h rfl
  ·obtain⟨q,g,h⟩:=Z0 h;have k3:=Z1E X.T g;rw[Z2m hX.t,Z2m hX.t]at k3;rw[k3];exact Zx h rfl
  ·cases h
 ·rename_i tt xs;obtain⟨ti,e,h⟩:=Z0 h;cases xs with
  | nil =>
   cases hk:ti.k<;>rw[hk]at h<;>first|(cases h;done)|skip
   cases op<;>simp at h
  | cons c cs =>
   simp only[dv,jv,ZaS,e,jm];cases hk:ti.k<;>rw[hk]at h<;>first|(cases h;done)|skip
   cases op<;>simp only[reduceCtorEq]at h<;>exact Zx h rfl
 ·cases h
omit hX in
theorem Ziv {T:TS S} {op:UnOp} {x:TV S} {k:Z2n S R} {r:R} (h:unK op x k=some r):Sim T ((unD op (dv T x)).bind ret) k r:=by
 unfold unK at h;split at h
 ·split at h
  ·exact Zx h rfl
  ·cases h
 ·split at h
  ·exact Zx h rfl
  ·cases h
 ·cases h
omit hX in
theorem Z5j {T:TS S} {n:Nat} {x:TV S} {k:Nat->Option R} {r:R} (h:Zcr n x k=some r):∃i,Z3a n (dv T x)=some i/\i<n/\k i=some r:=by
 unfold Zcr at h;split at h
 ·rename_i kd i;obtain⟨a,h⟩:=Z3 h;have b:=a;simp only[jn,jl]at b;refine⟨i.toNat,?_,by omega,h⟩
  simp only[dv,Z3a];rw[a];rfl
 ·cases h
omit hX in
theorem Z31 {T:TS S} {d:Option (TV S)} {dflt y:Nat} {k:Nat->Option R} {r:R} (h:Z4J d dflt y k=some r):∃i,Z2F (d.map (dv T)) dflt y=some i/\k i=some r:=by
 unfold Z4J at h;split at h
 ·exact⟨dflt,rfl,h⟩
 ·rename_i kd i;obtain⟨a,h⟩:=Z3 h;refine⟨i.toNat,?_,h⟩;simp only[jq,dv,Z2F];rw[a];rfl
 ·cases h
omit hX in
theorem Zfv {T:TS S} (h:Nat->Option (Zp S)) (d:TV S):Z39 (dvh T h) (dv T d)=Z6w h d:=by
 cases d with
 | rs id v =>
  simp only[dv,Z39,Z6w,dvh];cases h id with
  | none=>rfl
  | some o=>cases o<;>rfl
 | _=>simp[dv,Z39,Z6w]
omit hX in
theorem Z78 {T:TS S} {t:Ty} {h:Nat->Option (Zp S)} {x:TV S} {xs:List (Val S t)} (a:ZaZ t h x=some xs):Y4 (dvh T h) (dv T x)=some (xs.map (dcl T t)):=by
 unfold ZaZ at a;split at a
 ·cases a;rfl
 ·cases a;simp[dv,Y4]
 ·split at a
  ·rename_i e;subst e;cases a;simp[dv,Y4]
  ·cases a
 ·rename_i id v;obtain⟨o,c,a⟩:=Z0 a;simp only[dv,Y4,dvh,c,jq,jm];cases o<;>simp only[reduceCtorEq]at a;obtain⟨b,a⟩:=Z3 a;split at a
  ·rename_i e;subst e;cases a;simp only[dvO,b,jB]
  ·cases a
 ·cases a
omit hX in
theorem Z3R {i n:Nat} (h:i<n):List.range n=List.range i++(i::List.range' (i+1) (n-(i+1))):=by
 rw[List.range_eq_range',List.range_eq_range',<-List.range'_succ,show n-(i+1)+1=n-i by omega]
 have:=(List.range'_append_1 (s:=0) (m:=i) (n:=n-i));rw[Nat.zero_add,show i+(n-i)=n by omega]at this
 exact this.symm
omit hX in
theorem Zc9 {T:TS S} {pid m:Nat} {k:Z2n S R} {r:R}:∀{ts:List TypeId} {j:Nat},Zhn pid m ts j k=some r->j<=m->∃v:TV S,dv T v=enD pid ts (m-j+1)/\ZT v k=some r
 | [],_,h,_=>by cases h
 | t::ts,j,h,hj=>by
  simp only[Zhn]at h;cases hq:Nat.beq m j with
  | true =>
   rw[hq]at h;have:=jf hq;subst this;refine⟨_,?_,h⟩;rw[Nat.sub_self];simp[dv,dvs,enD]
  | false =>
   rw[hq]at h;have c:m≠j:=fun e=>by subst e;rw[Nat.beq_refl]at hq;cases hq
   obtain⟨v,a,b⟩:=Zc9 h (by omega)
   refine⟨v,?_,b⟩;rw[a,show m-j+1=(m-(j+1))+2 by omega]
   simp[enD]
omit hX in
theorem Zho {T:TS S} {ts:List TypeId} {pid m:Nat} {k:Z2n S R} {r:R} (h:enK ts pid m k=some r):∃v:TV S,dv T v=enD pid ts m/\ZT v k=some r:=by
 unfold enK at h;cases hq:Nat.beq m 0 with
 | true =>
  rw[hq]at h;have:=jf hq;subst this;exact⟨.nilif,by cases ts<;>rfl,h⟩
 | false =>
  rw[hq]at h;have c:m≠0:=fun e=>by subst e;cases hq
  obtain⟨v,a,b⟩:=Zc9 (T:=T) h (by omega)
  exact⟨v,by rw[a,show m-1+1=m by omega],b⟩
theorem Z8J {cs:List (TV S)} {base n pid:Nat} {ts:List TypeId} {a:Nat->Nat} (h:ZaY X.T cs base=some (ts,pid,n,a)):∃q,base+n<=(dvs X.T cs).length/\(dvs X.T cs).drop base=eal ts pid n a++q:=by
 unfold ZaY at h;obtain⟨q,d,h⟩:=Z0 h;split at h
 ·rename_i ts' pid' n' a' q' b;cases h;obtain⟨e,c⟩:=Z1D hX.t d;rw[<-Z2T hX.t 10 q,b,ZB]at c;refine⟨dvs X.T q',?_,c⟩;have:=congrArg List.length c;simp[Yc,eal]at this;rw[Y7 hX.t];rw[Y7 hX.t]at this;omega
 ·cases h
theorem Zcz {ti:TI} {h:Nat->Option (Zp S)} {a:TV S} {k:Z2n S R} {r:R} (b:ZeO X ti h a k=some r):Sim X.T ((Z3d ti (dvh X.T h) (dv X.T a)).bind ret) k r:=by
 unfold ZeO at b;split at b
 ·rename_i id off;obtain⟨o,ho,b⟩:=Z0 b;simp only[dv,Z3d,dvh,ho,jq,jm];cases o<;>simp only[reduceCtorEq]at b;obtain⟨v,c,b⟩:=Z0 b;simp only[dvO,(Z3N hX.t c).1];exact Zx b rfl
 ·rename_i id base i e off;obtain⟨o,ho,b⟩:=Z0 b;simp only[dv,Z3d,dvh,ho,jq,jm];cases o<;>simp only[reduceCtorEq]at b;rename_i ct cs;split at b
  ·rename_i ts pid n a hE;obtain⟨c,g⟩:=Z3 b;obtain⟨d,w⟩:=Z3 g;clear b g;simp only[jn,Bool.not_eq_true']at c;obtain⟨⟨h3,h4⟩,z⟩:=c;have h3:=jf h3;have h4:=jf h4;subst h3 h4;have d:i<n:=by simpa[Tr.blt_dec]using d
   obtain⟨v,h6,f⟩:=Zho (T:=X.T) w;obtain⟨q,h8,h9⟩:=Z8J hX hE;have hp:YO ti (dvs X.T cs) (base+i*1+0)=some (dv X.T v):=by
    unfold YO;rw[z];simp only[jA];have:(dvs X.T cs)[base+i*1+0]?=((dvs X.T cs).drop base)[i]? := by simp
    rw[this,h9,List.getElem?_append_left (by simp[eal];exact d),h6]
    simp[eal,d]
   simp only[dvO,hp];exact Zx f rfl
  obtain⟨A,hA,b⟩:=Z0 b;obtain⟨t,n,a⟩:=A;simp only at b;obtain⟨c,g⟩:=Z3 b;obtain⟨d,w⟩:=Z3 g;obtain⟨v,h3,hk3⟩:=Z0 w;clear b g w;have c:=jf c;have d:i<n:=by simpa[Tr.blt_dec]using d
  subst c;unfold Z8y at hA;obtain⟨q,h4,hA⟩:=Z0 hA;split at hA
  ·rename_i t' n' a' q' hq';cases hA;obtain⟨z,h6⟩:=Z1D hX.t h4;rw[<-Z2T hX.t 10 q,hq']at h6;rw[<-Y7 hX.t q,<-Z2T hX.t 10 q,hq',Y7 hX.t]at z;obtain⟨f,h8⟩:=Z3N hX.t h3;rw[Z2Z hX.t]at f;have h9:YO ti (dvs X.T cs) (base+i*tsz X.T t+off)=some (dv X.T v):=by
    have y:∀m,(dvs X.T cs).drop (base+m)=(acl X.T t n a++dvs X.T q').drop m:=fun m=>by
     rw[<-List.drop_drop,h6,ZB];rfl
    have s:=Y7 hX.t cs;rw[z]at s;simp only[wds,wd]at s;have hin:(i+1)*tsz X.T t<=n*tsz X.T t:=Nat.mul_le_mul_right _ d;have l:∀m,m<=tsz X.T t->∃rest,(acl X.T t n a++dvs X.T q').drop (i*tsz X.T t+m)=(dcl X.T t (a i)).drop m++rest:=fun m hm=>by
     refine⟨((List.range' (i+1) (n-(i+1))).flatMap fun j=>dcl X.T t (a j))++dvs X.T q',?_⟩;have x:acl X.T t n a=((List.range i).flatMap fun j=>dcl X.T t (a j))++(dcl X.T t (a i)++(List.range' (i+1) (n-(i+1))).flatMap fun j=>dcl X.T t (a j)):=by
      unfold acl;rw[Z3R d,List.flatMap_append,List.flatMap_cons]
     have hl:((List.range i).flatMap fun j=>dcl X.T t (a j)).length=i*tsz X.T t:=Z16 hX.t t i a;rw[x,jj,List.drop_append,hl,jd (by rw[hl];omega),List.nil_append,Nat.add_sub_cancel_left,jj,List.drop_append_of_le_length (by rw[Yh hX.t];exact hm)]
    unfold YO at f⊢;cases hag:ti.isAgg with
    | true =>
     rw[hag]at f;simp only[jB]at f⊢;obtain⟨h10,h11⟩:=Z3 f;rw[Nat.ble_eq,Yh hX.t]at h10;obtain⟨rest,hr⟩:=l off (by omega)
     have hle:Nat.ble (base+i*tsz X.T t+off+ti.size) (dvs X.T cs).length=true:=by
      rw[Nat.ble_eq,s];rw[Nat.add_mul,Nat.one_mul]at hin;omega
     rw[hle,Nat.add_assoc,y,hr];simp only[jB];rw[List.take_append_of_le_length (by rw[List.length_drop,Yh hX.t];omega)]
     exact h11
    | false =>
     rw[hag]at f;simp only[jA]at f⊢;have hlt:=(jc.1 f).1;rw[Yh hX.t]at hlt;obtain⟨rest,hr⟩:=l off (by omega)
     have:(dvs X.T cs)[base+i*tsz X.T t+off]?=((dvs X.T cs).drop (base+(i*tsz X.T t+off)))[0]? := by simp[Nat.add_assoc]
     rw[this,y,hr,List.getElem?_append_left (by rw[List.length_drop,Yh hX.t];omega)]
     simpa using f
   simp only[dvO,h9];exact Zx hk3 rfl
  ·cases hA
 ·rename_i id v i e off;obtain⟨o,ho,b⟩:=Z0 b;simp only[dv,Z3d,dvh,ho,jq,jm];cases o<;>simp only[reduceCtorEq]at b;rename_i re t xs p u;obtain⟨c,b⟩:=Z3 b;obtain⟨d,b⟩:=Z3 b;obtain⟨q,h3,b⟩:=Z0 b;have d:i<xs.length:=by simpa[Tr.blt_dec]using d
  simp only[jn]at c;have h4:=jf c.2;have z:=(Z3N hX.t h3).1;rw[Z2Z hX.t]at z;have h6:xs.getD i (tdf X.T t)=xs[i]:=by simp[List.getD_eq_getElem?_getD,d]
  rw[h6]at z;simp only[dvO,List.getElem?_map,List.getElem?_eq_getElem d,jq,jm];have f:Nat.beq (dcl X.T t xs[i]).length e=true:=by rw[Yh hX.t,<-h4];exact Nat.beq_refl _
  rw[c.1,f,z];exact Zx b rfl
 ·rename_i cs;obtain⟨v,c,b⟩:=Z0 b;simp only[dv,Z3d,(Z3N hX.t c).1];exact Zx b rfl
 ·cases b
end Go.Ab
namespace Go.Ab
variable {S:Nat->Type} {R:Type}
theorem Z3I {T:TS S} {t:Ty} {n i:Nat} (h:i<n) (a:Nat->Val S t) :
  acl T t n a=((List.range i).flatMap fun j=>dcl T t (a j))++(dcl T t (a i)++(List.range' (i+1) (n-(i+1))).flatMap fun j=>dcl T t (a j)):=by
 unfold acl;rw[Z3R h,List.flatMap_append,List.flatMap_cons]
theorem Zer {T:TS S} {t:Ty} {n i:Nat} (h:i<n) (a:Nat->Val S t) (x:Val S t) :
  acl T t n (fun j=>bif Nat.beq j i then x else a j)=((List.range i).flatMap fun j=>dcl T t (a j))++(dcl T t x++(List.range' (i+1) (n-(i+1))).flatMap fun j=>dcl T t (a j)):=by
 rw[Z3I h];have e1:∀j∈List.range i,dcl T t ((fun j=>bif Nat.beq j i then x else a j) j)=dcl T t (a j):=fun j b=>by
  have:j<i:=List.mem_range.1 b;have c:Nat.beq j i=false:=by rw[Tr.beq_dec];simp;omega
  simp[c]
 have e2:∀j∈List.range' (i+1) (n-(i+1)),dcl T t ((fun j=>bif Nat.beq j i then x else a j) j)=dcl T t (a j):=fun j b=>by
  have:=List.mem_range'_1.1 b;have c:Nat.beq j i=false:=by rw[Tr.beq_dec];simp;omega
  simp[c]
 have e3:Nat.beq i i=true:=Nat.beq_refl i;simp only[e3,jB];congr 1
 ·rw[List.flatMap_def,List.flatMap_def,List.map_congr_left e1]
 ·congr 1;rw[List.flatMap_def,List.flatMap_def,List.map_congr_left e2]
variable {X:Yk S} (hX:XOk X)
include hX
theorem Z5o (t:TypeId) (cs:List (TV S)):dvs X.T (Zan X t cs)=dvs X.T cs:=by
 unfold Zan;cases X.code t with
 | none=>rfl
 | some c =>
  simp only;cases hd:Z6W X.T c cs with
  | none=>rfl
  | some x=>simp only;rw[Z2Z hX.t,Z2A hX.t hd]
omit hX in
theorem Zez {pid:Nat} {l:List DV} (h:l.all (Z4S pid)=true):l.all ZH=true:=by
 rw[List.all_eq_true]at h⊢;intro d a;rcases Z1z (h d a)with rfl|⟨t,rfl⟩<;>rfl
theorem Z7K {v:TV S} (h:(Yf v).all Z8k=true):(cellsOf (dv X.T v)).all ZH=true:=by
 rw[YB];generalize Yf v=cs at h
 induction cs with
 | nil=>simp[dvs]
 | cons c cs ih =>
  simp only[jt,jn]at h;rw[ZB,List.all_append,ih h.2,Bool.and_true];cases c<;>simp only[Z8k,jg]at h<;>simp only[Yc,dv,jt,List.all_nil,ZH,Bool.and_true]
  ·exact Z2w (Ys hX.t _ _ _)
  ·exact Z2w (hX.t.plain _ _)
  ·exact Zez (YC _ _ _ _)
  ·exact Zez (Z1c 0 _)
  ·exact absurd h.1 (by simp)
  ·exact absurd h.1 (by simp)
omit hX in
theorem Zhm {ts:List TypeId} {pid n i m:Nat} {ar:Nat->Nat} (h:i<n):eal ts pid n (fun j=>bif Nat.beq j i then m else ar j)=(eal ts pid n ar).take i++[enD pid ts m]++(eal ts pid n ar).drop (i+1):=by
 have b:∀j,j≠i->Nat.beq j i=false:=fun j a=>by
  cases hq:Nat.beq j i with
  | false=>rfl
  | true=>exact absurd (jf hq) a
 have c:(eal ts pid n ar).take i=(List.range i).map fun j=>enD pid ts (ar j):=by
  unfold eal;rw[Z3R h,List.map_append,List.take_left' (by simp)]
 have d:(eal ts pid n ar).drop (i+1)=(List.range' (i+1) (n-(i+1))).map fun j=>enD pid ts (ar j):=by
  unfold eal;rw[Z3R h,List.map_append,jv,List.drop_append];simp
 rw[c,d];unfold eal;rw[Z3R h,List.map_append,jv];simp only[Nat.beq_refl,jB];have e1:(List.range i).map (fun j=>enD pid ts (bif Nat.beq j i then m else ar j))=(List.range i).map fun j=>enD pid ts (ar j):=List.map_congr_left fun j a=>by
  rw[b j (by have:=List.mem_range.1 a;omega)];rfl
 have e2:(List.range' (i+1) (n-(i+1))).map (fun j=>enD pid ts (bif Nat.beq j i then m else ar j))=(List.range' (i+1) (n-(i+1))).map fun j=>enD pid ts (ar j):=List.map_congr_left fun j a=>by
  rw[b j (by have:=List.mem_range'_1.1 a;omega)];rfl
 rw[e1,e2];simp
omit hX in
theorem Zcs {pid:Nat} {t:TypeId}:∀{ts:List TypeId} {j m:Nat},Zhv t ts j=some m->j<=m/\enD pid ts (m-j+1)=.iface t (.agg [.ptr pid 0])
 | [],_,_,h=>by cases h
 | u::ts,j,m,h=>by
  simp only[Zhv]at h;cases hq:Nat.beq u t with
  | true =>
   rw[hq]at h;cases h;have:=jf hq;subst this;exact⟨Nat.le_refl _,by rw[Nat.sub_self];simp[enD]⟩
  | false =>
   rw[hq]at h;obtain⟨b,a⟩:=Zcs (pid:=pid) h;refine⟨by omega,?_⟩
   rw[show m-j+1=(m-(j+1))+2 by omega]
   simpa[enD]using a
omit hX in
theorem Zgi {ts:List TypeId} {pid m:Nat} {v:TV S} (h:Zib ts pid v=some m):dvs X.T (Yf v)=[enD pid ts m]/\Yf v=[v]/\wds X.T (Yf v)=1:=by
 unfold Zib at h;split at h
 ·cases h;exact⟨by cases ts<;>simp[Yf,dvs,dv,enD],rfl,rfl⟩
 ·rename_i t p;obtain⟨a,hi⟩:=Z3 h;have b:=jf a;obtain⟨d,c⟩:=Zcs (pid:=pid) hi;refine⟨?_,rfl,rfl⟩;rw[show m=m-1+1 by omega,c,b]
  simp[Yf,dvs,dv]
 ·cases h
theorem ZfR {ti:TI} {h:Nat->Option (Zp S)} {a v:TV S} {k:Z2n S R} {r:R} (b:Zeg X ti h a v k=some r) :
  Sim X.T ((Z5a ti (dvh X.T h) (dv X.T a) (dv X.T v)).bind fun u=>some ⟨some (.tup []),u⟩) k r:=by
 unfold Zeg at b;have h0:=(Z3 b).1;replace b:=(Z3 b).2;simp only[jn]at h0;have hc:(Nat.beq (cellsOf (dv X.T v)).length ti.size&&(cellsOf (dv X.T v)).all ZH)=true:=by
  rw[Z7K hX h0.2,YB,Y7 hX.t,h0.1];rfl
 have hsz:=jf h0.1;unfold Z5a;rw[hc];simp only[jB];cases a with
 | ptr id off =>
  simp only at b;obtain⟨o,ho,b⟩:=Z0 b;cases o<;>simp only[reduceCtorEq]at b;rename_i ct cs;obtain⟨cs',g,b⟩:=Z0 b;obtain⟨d,z⟩:=Z1d hX.t g;have f:Nat.ble (off+ti.size) (dvs X.T cs).length=true:=by rw[Nat.ble_eq,Y7 hX.t];omega
  refine⟨_,?_,?_,b⟩
  ·simp only[dv,dvh,ho,jq,jm,dvO,f,jB,YB,z];simp[Yd,dvu,dvO,dv,dvl,Z5o hX]
  ·exact Y2 rfl ZY
 | ap id base i e off =>
  simp only at b;obtain⟨o,ho,b⟩:=Z0 b;cases o<;>simp only[reduceCtorEq]at b;rename_i ct cs;split at b
  ·rename_i ts pid n ar hE;obtain⟨g,hk1⟩:=Z3 b;obtain⟨d,hk2⟩:=Z3 hk1;obtain⟨m,hm,hk3⟩:=Z0 hk2;obtain⟨cs',h5,hk4⟩:=Z0 hk3;clear b hk1 hk2 hk3;simp only[jn]at g;obtain⟨z,h4⟩:=g;have z:=jf z;have h4:=jf h4;subst z h4;have d:i<n:=by simpa[Tr.blt_dec]using d
   obtain⟨q,h8,h9⟩:=Z8J hX hE;obtain⟨hv,_,hw⟩:=Zgi (X:=X) hm;have hts:ti.size=1:=by rw[<-hsz,hw]
   obtain⟨g1,g2⟩:=Z1d hX.t h5;have f:Nat.ble (base+i*1+0+ti.size) (dvs X.T cs).length=true:=by rw[Nat.ble_eq,hts];omega
   have s:Yg (dvs X.T cs) (base+i*1+0) (dvs X.T (Yf v))=dvs X.T cs':=by
    rw[<-g2,hv];have w:dvs X.T [.earr ts pid n (fun j=>bif Nat.beq j i then m else ar j)]=eal ts pid n (fun j=>bif Nat.beq j i then m else ar j):=by simp[dvs]
    have hl1:(eal ts pid n (fun j=>bif Nat.beq j i then m else ar j)).length=n:=by simp[eal]
    have a0:(eal ts pid n ar).length=n:=by simp[eal]
    rw[w,Z10 _ _ _ (by simp;omega),Z10 _ _ _ (by rw[hl1];exact h8),hl1]
    have e1:(dvs X.T cs).take (base+i*1+0)=(dvs X.T cs).take base++(eal ts pid n ar).take i:=by
     rw[Nat.mul_one,Nat.add_zero,List.take_add,h9,List.take_append_of_le_length (by rw[a0];omega)]
    have e2:(dvs X.T cs).drop (base+i*1+0+[enD pid ts m].length)=(eal ts pid n ar).drop (i+1)++(dvs X.T cs).drop (base+n):=by
     have hq:(dvs X.T cs).drop (base+n)=q:=by
      rw[<-List.drop_drop,h9,List.drop_append,a0,Nat.sub_self,jd (by rw[a0];exact Nat.le_refl _)];rfl
     rw[hq,show base+i*1+0+[enD pid ts m].length=base+(i+1) by simp;omega,<-List.drop_drop,h9,List.drop_append_of_le_length (by rw[a0];omega)]
    have e3:eal ts pid n (fun j=>bif Nat.beq j i then m else ar j)=(eal ts pid n ar).take i++[enD pid ts m]++(eal ts pid n ar).drop (i+1):=by
     exact Zhm d
    rw[e1,e2,e3];simp only[jj]
   refine⟨_,?_,Y2 rfl ZY,hk4⟩;simp only[dv,dvh,ho,jq,jm,dvO,f,jB,YB,s];simp[Yd,dvu,dvO,dv,dvl]
  obtain⟨A,hA,b⟩:=Z0 b;obtain⟨t,n,ar⟩:=A;simp only at b;obtain⟨g,b⟩:=Z3 b;obtain⟨d,b⟩:=Z3 b;obtain⟨c,z,b⟩:=Z0 b;obtain⟨x,h4,b⟩:=Z0 b;obtain⟨cs',h5,b⟩:=Z0 b;have g:=jf g;have d:i<n:=by simpa[Tr.blt_dec]using d
  obtain⟨h6,h7⟩:=Z1d hX.t z;obtain⟨h8,h9⟩:=Z1d hX.t h5;rw[Z2Z hX.t,Z2A hX.t h4]at h7;unfold Z8y at hA;obtain⟨q,h10,hA⟩:=Z0 hA;split at hA
  ·rename_i t' n' a' q' hq';cases hA;obtain⟨h11,h12⟩:=Z1D hX.t h10;rw[<-Z2T hX.t 10 q,hq']at h12;rw[<-Y7 hX.t q,<-Z2T hX.t 10 q,hq',Y7 hX.t]at h11;have hlenT:wds X.T (tcl X.T t (ar i))=tsz X.T t:=by rw[<-Y7 hX.t,Z2Z hX.t,Yh hX.t]
   rw[hlenT]at h6;have a1:=Y7 hX.t cs;rw[h11]at a1;simp only[wds,wd]at a1;have hin:i*tsz X.T t+tsz X.T t<=n*tsz X.T t:=by
    have:=Nat.mul_le_mul_right (tsz X.T t) d;rw[Nat.succ_mul]at this;exact this
   have f:Nat.ble (base+i*e+off+ti.size) (dvs X.T cs).length=true:=by rw[Nat.ble_eq,g];omega
   have s:Yg (dvs X.T cs) (base+i*e+off) (dvs X.T (Yf v))=dvs X.T cs':=by
    rw[<-h9];have y:(dvs X.T (Yf v)).length=wds X.T (Yf v):=Y7 hX.t _;rw[Z10 _ _ _ (by rw[y,g];omega)]
    have l:∀m,(dvs X.T cs).drop (base+m)=(acl X.T t n ar++dvs X.T q').drop m:=fun m=>by
     rw[<-List.drop_drop,h12,ZB];rfl
    have hal:(acl X.T t n (fun j=>bif Nat.beq j i then x else ar j)).length=n*tsz X.T t:=Z16 hX.t t n _;have w:dvs X.T [.arr t n (fun j=>bif Nat.beq j i then x else ar j)]=acl X.T t n (fun j=>bif Nat.beq j i then x else ar j):=by simp[dvs]
    rw[w,Z10 _ _ _ (by rw[hal];omega),hal]
    have hpre:(dvs X.T cs).take (base+i*e+off)=(dvs X.T cs).take base++(acl X.T t n ar++dvs X.T q').take (i*e+off):=by
     have:=l 0;rw[Nat.add_zero,List.drop_zero]at this;rw[<-this,Nat.add_assoc,List.take_add]
    have hq:(dvs X.T cs).drop (base+n*tsz X.T t)=dvs X.T q':=by
     rw[l,List.drop_append,Z16 hX.t,Nat.sub_self,jd (by rw[Z16 hX.t];exact Nat.le_refl _)];rfl
    rw[hpre,hq,Nat.add_assoc base,Nat.add_assoc base,l,y,Zer d ar x,<-h7,Z10 _ _ _ (by rw[y,Yh hX.t];omega),Z3I d ar,y]
    have hl:((List.range i).flatMap fun j=>dcl X.T t (ar j)).length=i*tsz X.T t:=Z16 hX.t t i ar;have hd:=Yh hX.t t (ar i);generalize ((List.range i).flatMap fun j=>dcl X.T t (ar j))=P1 at *;generalize ((List.range' (i+1) (n-(i+1))).flatMap fun j=>dcl X.T t (ar j))=P2 at *;generalize dcl X.T t (ar i)=M at *;generalize dvs X.T (Yf v)=Vv at *;have e1:((P1++(M++P2))++dvs X.T q').take (i*e+off)=P1++M.take off:=by
     rw[jj,List.take_append,hl,g,List.take_of_length_le (by rw[hl];omega),Nat.add_sub_cancel_left,jj,List.take_append_of_le_length (by rw[hd];omega)]
    have e2:((P1++(M++P2))++dvs X.T q').drop (i*e+off+wds X.T (Yf v))=M.drop (off+wds X.T (Yf v))++P2++dvs X.T q':=by
     rw[jj,List.drop_append,hl,g,jd (by rw[hl];omega),List.nil_append,show i*tsz X.T t+off+wds X.T (Yf v)-i*tsz X.T t=off+wds X.T (Yf v) by omega,jj,List.drop_append_of_le_length (by rw[hd];omega),jj]
    rw[e1,e2];simp only[jj]
   refine⟨_,?_,?_,b⟩
   ·simp only[dv,dvh,ho,jq,jm,dvO,f,jB,YB,s];simp[Yd,dvu,dvO,dv,dvl,Z5o hX]
   ·exact Y2 rfl ZY
  ·cases hA
 | rptr id v' i e off =>
  simp only at b;obtain⟨o,ho,b⟩:=Z0 b;cases o<;>simp only[reduceCtorEq]at b;rename_i et t xs p u;obtain⟨g,b⟩:=Z3 b;obtain⟨d,b⟩:=Z3 b;obtain⟨c,z,b⟩:=Z0 b;obtain⟨x,h4,b⟩:=Z0 b;simp only[jn]at g;obtain⟨⟨⟨hu,he⟩,hp⟩,hf⟩:=g;have d:i<xs.length:=by simpa[Tr.blt_dec]using d
  have he':=jf he;obtain⟨h6,h7⟩:=Z1d hX.t z;have hw:wds X.T (tcl X.T t (xs.getD i (tdf X.T t)))=tsz X.T t:=by rw[<-Y7 hX.t,Z2Z hX.t,Yh hX.t]
  rw[hw]at h6;rw[Z2Z hX.t,Z2A hX.t h4]at h7;have hget:(xs.map (dcl X.T t))[i]? = some (dcl X.T t (xs.getD i (tdf X.T t))):=by
   rw[List.getElem?_map,List.getElem?_eq_getElem d,List.getD_eq_getElem?_getD,List.getElem?_eq_getElem d];rfl
  have f:Nat.ble (off+ti.size) (dcl X.T t (xs.getD i (tdf X.T t))).length=true:=by rw[Nat.ble_eq,Yh hX.t];omega
  have hb:(Nat.beq u v'&&Nat.beq (dcl X.T t (xs.getD i (tdf X.T t))).length e&&Nat.beq p 0&&Zc (cellsOf (dv X.T v))&&Nat.ble (off+ti.size) (dcl X.T t (xs.getD i (tdf X.T t))).length)=true:=by
   rw[f,hu,Yh hX.t,he,hp,YB,Z4P hX.t,hf];rfl
  refine⟨_,?_,Y2 rfl ZY,b⟩;simp only[dv,dvh,ho,jq,jm,dvO,hget,hb,jB];rw[YB,h7];simp[Yd,dvu,dvO,dv,dvl,List.map_set]
 | _=>cases b
end Go.Ab
namespace Go.Ab
variable {S:Nat->Type} {R:Type} {X:Yk S} (hX:XOk X)
include hX
theorem Z3w {t:Ty} {n:Nat} (a:tsz X.T t=n) (xs:List (Val S t)):(xs.map (dcl X.T t)).all (fun c=>Nat.beq c.length n)=true:=by
 rw[List.all_eq_true];intro c hc;obtain⟨x,_,rfl⟩:=List.mem_map.1 hc;rw[Yh hX.t,a];exact Nat.beq_refl n
theorem Zdv {nid:Nat} {h:Nat->Option (Zp S)} {t:TypeId} {s x:TV S} {k:Z2n S R} {r:R} (a:ZaQ X nid h t s x k=some r) :
  Sim X.T (Z3t X.E nid (dvh X.T h) t t (dv X.T s) (dv X.T x)) k r:=by
 unfold ZaQ at a;obtain⟨ti,g,a⟩:=Z0 a;unfold Z3t;rw[g];simp only[jm];split at a
 ·rename_i e j;simp only[j];obtain⟨ei,f,a⟩:=Z0 a;obtain⟨te,n,a⟩:=Z0 a;obtain⟨xs,w,a⟩:=Z0 a;obtain⟨m,a⟩:=Z3 a;have b:=(hX.code e te ei n f).1;have c:Z8w X.E (dvh X.T h) t t (dv X.T x)=Y4 (dvh X.T h) (dv X.T x):=by unfold Z8w;rw[Nat.beq_refl];rfl
  rw[f,c,Z78 w];simp only[jm,m,jB];cases s with
  | nils =>
   cases xs with
   | nil=>exact Zx a rfl
   | cons y ys =>
    simp only at a;obtain⟨d,a⟩:=Z3 a;refine⟨_,?_,Y2 rfl ZY,a⟩;simp only[dv,jv];rw[<-jv,Z3w hX b.symm,List.length_map,d];simp[Yd,dvu,dvO,dv]
  | rs id v =>
   simp only at a;obtain⟨o,l,a⟩:=Z0 a;cases o<;>simp only[reduceCtorEq]at a;rename_i e' te' es p u;obtain⟨d,a⟩:=Z3 a;split at a
   ·rename_i q;subst q;obtain⟨i,a⟩:=Z3 a;refine⟨_,?_,Y2 rfl ZY,a⟩;simp only[dv,dvh,l,jq,jm,dvO];rw[d,Z3w hX b.symm,List.length_map,List.length_map,i];simp[Yd,dvu,dvO,dv]
   ·cases a
  | _=>cases a
 ·cases a
theorem Z7n (ρ:Nat->Option (TV S)):∀{ps:List (Nat×Operand)} {vs:List (Nat×TV S)},Z9f ρ ps=some vs->Z27 (dvr X.T ρ) ps=some (vs.map fun p=>(p.1,dv X.T p.2))
 | [],vs,h=>by cases h;rfl
 | (i,x)::ps,vs,h=>by
  simp only[Z9f]at h;obtain⟨v,a,h⟩:=Z0 h;obtain⟨vs',b,h⟩:=Z0 h;cases h;simp only[Z27,ZQ,a,jq,jm,Z7n ρ b,jv]
theorem Z8Q {fs:List (Nat×Nat)}:∀{ps:List (Nat×TV S)} {cs r:List (TV S)},Z8h X fs ps cs=some r->Z1a fs X.E (ps.map fun p=>(p.1,dv X.T p.2)) (dvs X.T cs)=some (dvs X.T r)
 | [],cs,r,h=>by cases h;rfl
 | (i,v)::ps,cs,r,h=>by
  simp only[Z8h]at h;obtain⟨⟨ft,off⟩,e,h⟩:=Z0 h;obtain⟨ti,b,h⟩:=Z0 h;obtain⟨c,h⟩:=Z3 h;obtain⟨cs',d,h⟩:=Z0 h;simp only at b d;obtain⟨g,f⟩:=Z1d hX.t d;have j:=jf c;have a:Nat.ble (off+ti.size) (dvs X.T cs).length=true:=by rw[Nat.ble_eq,Y7 hX.t];omega
  simp only[jv,Z1a,e,jm,b,YB,Y7 hX.t (Yf v),c,a,ju,jB,f];exact Z8Q h
theorem Z8P {t:Ty} {n:Nat}:∀{ps:List (Nat×TV S)} {a a':Nat->Val S t},Z8g X t n ps a=some a'->Z1G (tsz X.T t) (ps.map fun p=>(p.1,dv X.T p.2)) (acl X.T t n a)=some (acl X.T t n a')
 | [],a,a',h=>by cases h;rfl
 | (i,v)::ps,a,a',h=>by
  simp only[Z8g]at h;obtain⟨x,e,h⟩:=Z0 h;obtain⟨b,h⟩:=Z3 h;have b:i<n:=by simpa[Tr.blt_dec]using b
  have g:cellsOf (dv X.T v)=dcl X.T t x:=by
   rw[Z3p hX.t e];cases t<;>rfl
  have c:i*tsz X.T t+tsz X.T t<=n*tsz X.T t:=by
   have:=Nat.mul_le_mul_right (tsz X.T t) b;rw[Nat.succ_mul]at this;exact this
  have l:Yg (acl X.T t n a) (i*tsz X.T t) (dcl X.T t x)=acl X.T t n (fun j=>bif Nat.beq j i then x else a j):=by
   rw[Z10 _ _ _ (by rw[Z16 hX.t,Yh hX.t];exact c),Zer b,Z3I b,Yh hX.t]
   have f:((List.range i).flatMap fun j=>dcl X.T t (a j)).length=i*tsz X.T t:=Z16 hX.t t i a;generalize ((List.range i).flatMap fun j=>dcl X.T t (a j))=P1 at *;rw[List.take_append_of_le_length (by omega),List.take_of_length_le (by omega),List.drop_append,jd (by omega),List.nil_append,f,Nat.add_sub_cancel_left,List.drop_append,jd (by rw[Yh hX.t];exact Nat.le_refl _),Yh hX.t,Nat.sub_self,List.drop_zero,List.nil_append,jj]
  have k:Nat.beq (dcl X.T t x).length (tsz X.T t)=true:=by rw[Yh hX.t];exact Nat.beq_refl _
  have d:Nat.ble (i*tsz X.T t+tsz X.T t) (acl X.T t n a).length=true:=by rw[Nat.ble_eq,Z16 hX.t];exact c
  simp only[jv,Z1G,g,k,d,ju,jB,l];exact Z8P h
theorem Zd0 {h:Nat->Option (Zp S)} {t:Ty}:∀{k:Nat} {ps:List (Nat×TV S)} {xs:List (Val S t)},Zf3 X h t k ps=some xs->Z5J (dvh X.T h) (tsz X.T t) k (ps.map fun p=>(p.1,dv X.T p.2))=some (xs.map (dcl X.T t))
 | _,[],xs,hr=>by cases hr;rfl
 | k,(i,v)::ps,xs,hr=>by
  simp only[Zf3]at hr;obtain⟨a,hr⟩:=Z3 hr;obtain⟨c,b,hr⟩:=Z0 hr;obtain⟨x,e,hr⟩:=Z0 hr;obtain⟨r,f,hr⟩:=Z0 hr;cases hr;have d:=Z2A hX.t e;simp only[jv,Z5J,YB,Y7 hX.t,a,jB,Z8Z hX.t,b,jq,jm,d,Z2w (Z33 hX.t t x),Zd0 f]
theorem Z5K:∀(vs:List (Nat×TV S)),Zk ((vs.map fun p=>(p.1,dv X.T p.2)).map (·.2))=Yq (vs.map (·.2))
 | []=>rfl
 | v::vs=>by simp only[jv,Zk,Yq,Z6Q hX.t,Z5K vs]
theorem Zfh {cs:List (TV S)} {base n:Nat} {t:Ty} {a:Nat->Val S t} (h:Z8y X.T cs base=some ⟨t,n,a⟩):∃q,base+n*tsz X.T t<=(dvs X.T cs).length/\(dvs X.T cs).drop base=acl X.T t n a++q:=by
 unfold Z8y at h;obtain⟨q,e,h⟩:=Z0 h;split at h
 ·rename_i t' n' a' q' c;cases h;obtain⟨f,d⟩:=Z1D hX.t e;rw[<-Z2T hX.t 10 q,c,ZB]at d;refine⟨dvs X.T q',?_,d⟩;have b:=congrArg List.length d;rw[List.length_drop,List.length_append]at b;simp only[Yc]at b;rw[Z16 hX.t]at b
  by_cases h0:n*tsz X.T t=0
  ·have:wds X.T cs=base+wds X.T q:=f;rw[Y7 hX.t];omega
  ·omega
 ·cases h
theorem Z8D (t:Ty):∀(n:Nat) (a:Nat->Val S t) (q:List DV),Z20 (tsz X.T t) n (acl X.T t n a++q)=((List.range n).map a).map (dcl X.T t)
 | 0,_,_=>rfl
 | n+1,a,q=>by
  have c:acl X.T t (n+1) a=dcl X.T t (a 0)++acl X.T t n (fun j=>a (j+1)):=by
   unfold acl;rw[List.range_succ_eq_map,List.flatMap_cons,List.flatMap_map]
  have b:=Yh hX.t t (a 0);unfold Z20;rw[c,jj,<-b,List.take_left,List.drop_left,b,Z8D t n,List.range_succ_eq_map,jv,jv,List.map_map,List.map_map,List.map_map];rfl
theorem Z94 {t:Ty} {e:Val S t->Val S t->Bool} (a:Z93 X.T t=some e) (x y:Val S t):Z6A (YS X.T t x) (YS X.T t y)=some (e x y):=by
 cases t with
 | st i =>
  have b:X.T.seq i=some e:=a;have h:=hX.t.seq i e b x y;show Zl (X.T.dcells i x) (X.T.dcells i y)=some (e x y);exact h
 | bool=>cases a;rfl
 | int k=>cases a;simp[YS,Z6A]
 | str=>cases a;rfl
 | sl t=>cases a
 | arr n t=>cases a
theorem Zaj {kt et:Ty} {e:Val S kt->Val S kt->Bool} (a:Z93 X.T kt=some e) (key:Val S kt):∀m:List (Val S kt×Val S et),
  Z2V (YS X.T kt key) (m.map fun p=>(YS X.T kt p.1,YS X.T et p.2))=some ((Z99 e key m).map (YS X.T et))
 | []=>rfl
 | (k',v)::m=>by
  simp only[jv,Z2V,Z94 hX a,jm,Z99];cases e key k' with
  | true=>rfl
  | false=>simp only[jA];exact Zaj a key m
theorem ZcF {kt et:Ty} {e:Val S kt->Val S kt->Bool} (a:Z93 X.T kt=some e) (key:Val S kt) (x:Val S et):∀m:List (Val S kt×Val S et),
  Z4V (YS X.T kt key) (YS X.T et x) (m.map fun p=>(YS X.T kt p.1,YS X.T et p.2))=some ((ZhH e key x m).map fun p=>(YS X.T kt p.1,YS X.T et p.2))
 | []=>rfl
 | (k',v)::m=>by
  simp only[jv,Z4V,Z94 hX a,jm,ZhH];cases e key k' with
  | true=>simp
  | false=>simp only[jA,ZcF a key x m,jm,jv]
theorem Z7V {ki:TI} {kt:TypeId} (c:X.E.ty kt=some ki) {t:Ty} {x:Val S t} (h:Z6B X.T ki (X.zero kt) t x=true):Yp ki (YS X.T t x)=true:=by
 unfold Z6B at h;split at h
 ·rename_i k n x a;simp[YS,Yp,a]
 ·rename_i x a;simp[YS,Yp,a]
 ·rename_i x a;simp[YS,Yp,a]
 ·rename_i fs i x a;simp only[jn]at h;obtain⟨⟨e,f⟩,b⟩:=h;cases hz:X.zero kt with
  | none=>rw[hz]at b;cases b
  | some z =>
   rw[hz]at b;simp only at b;have d:=Z26 X.T b;rw[Z2m hX.t,Z2m hX.t,hX.zero kt z ki hz c]at d;simp only[dvs,jp]at d;simp[YS,Yp,a,e,f,d]
 ·cases h
omit hX in
theorem Zfq {T:TS S} {t:Ty} (h:YZ t=false) (x:Val S t):ZH (YS T t x)=true/\Zh (YS T t x)=true:=by
 cases t<;>simp[YZ]at h<;>simp[YS,ZH,Zh]
theorem ZhA {k:TK} {h:Nat->Option (Zp S)} {d v:TV S} (a:Zif k h d=some v):Z5v k (dvh X.T h) (dv X.T d)=some (dv X.T v):=by
 unfold Zif at a;split at a<;>first|(cases a;done)|skip
 ·cases a;simp[dv,Z5v]
 ·cases a;simp[dv,Z5v]
 ·obtain⟨o,b,a⟩:=Z0 a;cases o<;>simp only[reduceCtorEq]at a;cases a;simp[dv,Z5v,dvh,b,dvO]
 ·cases a;simp[dv,Z5v,Y4]
 ·cases a;simp[dv,Z5v,Y4]
 ·cases a;simp[dv,Z5v]
 ·cases a;simp[dv,Z5v,Y4]
 ·obtain⟨o,b,a⟩:=Z0 a;cases o<;>simp only[reduceCtorEq]at a;obtain⟨c,a⟩:=Z3 a;cases a;simp[dv,Z5v,dvh,b,dvO,Y4,c]
 ·cases a;simp[dv,Z5v]
theorem Z8U {f:TV S->TV S->Option (TV S)} {g:DV->DV->Option DV} (a:∀x y z,f x y=some z->g (dv X.T x) (dv X.T y)=some (dv X.T z)):∀{xs:List (TV S)} {x z:TV S},Zcf f x xs=some z->Z6u g (dv X.T x) (dvl X.T xs)=some (dv X.T z)
 | [],x,z,h=>by cases h;simp[dvl,Z6u]
 | y::ys,x,z,h=>by
  simp only[Zcf]at h;obtain⟨w,b,h⟩:=Z0 h;simp only[dvl,Z6u,a _ _ _ b,jm];exact Z8U a h
theorem ZhF (x y z:TV S) (h:ZgE x y=some z):ZcE (dv X.T x) (dv X.T y)=some (dv X.T z):=by
 unfold ZgE at h;split at h
 ·cases h;simp[dv,ZcE]
 ·cases h
theorem ZhE (x y z:TV S) (h:ZgC x y=some z):ZcD (dv X.T x) (dv X.T y)=some (dv X.T z):=by
 unfold ZgC at h;split at h
 ·cases h;simp[dv,ZcD]
 ·cases h
omit hX in
theorem Zg8 (s:ByteArray) (i:Nat) (hi:i<s.size):(s[i]?).bind (fun b=>ret (.int .u8 b.toNat))=ret (.int .u8 (s.toList.getD i 0).toNat):=by
 have a:s[i]? = some s[i]:=by simp[hi]
 rw[a];have c:s.toList.getD i 0=s[i]:=by
  rw[List.getD_eq_getElem?_getD];simp[ByteArray.toList_eq,hi];rfl
 rw[c];rfl
end Go.Ab
namespace Go.Ab
variable {S:Nat->Type} {R:Type} {X:Yk S} (hX:XOk X)
include hX
theorem Z47 {nid:Nat} {ρ:Nat->Option (TV S)} {h:Nat->Option (Zp S)} {op:Op} {k:Z2n S R} {r:R} (c:opK X nid ρ h op k=some r)
  (hop:(∃t ps,op=.build t ps)\/(∃t n ps,op=.buildSlice t n ps)\/(∃t x lo hi,op=.slice t x lo hi none)\/(∃t x i,op=.indexAddr t x i)\/(∃t x i,op=.index t x i)\/(∃t m x ok,op=.lookup t m x ok)\/(∃t m x v,op=.mapUpdate t m x v)) :
  Sim X.T (ZE X.E nid (dvr X.T ρ) (dvh X.T h) op) k r:=by
 rcases hop with⟨t,ps,rfl⟩|⟨t,n,ps,rfl⟩|⟨t,x,lo,hi,rfl⟩|⟨t,x,i,rfl⟩|⟨t,x,i,rfl⟩|⟨t,m,x,ok,rfl⟩|⟨t,m,x,v,rfl⟩
 ·simp only[opK]at c;obtain⟨ti,h1,b⟩:=Z0 c;replace c:=b;clear b;obtain⟨vs,h2,b⟩:=Z0 c;replace c:=b;clear b;obtain⟨z,h3,b⟩:=Z0 c;replace c:=b;clear b;have hz:=hX.zero t z ti h3 h1;simp only[ZE,h1,jm,Z7n hX ρ h2];split at c
  ·rename_i fs g;obtain⟨cs,y,b⟩:=Z0 c;replace c:=b;clear b;simp only[g];rw[<-hz,Z8Q hX y];exact Zx c rfl
  ·rename_i len e g;obtain⟨ei,hei,b⟩:=Z0 c;replace c:=b;clear b;obtain⟨te,y,b⟩:=Z0 c;replace c:=b;clear b;split at c
   ·rename_i te' n a;split at c
    ·rename_i q;subst q;obtain⟨a',f,b⟩:=Z0 c;replace c:=b;clear b;simp only[g];have a0:=(hX.code e te' ei y hei).1;have hz':ti.zero=acl X.T te' n a:=by rw[<-hz];simp[dvs]
     simp only[hei,jm];rw[hz',a0,Z8P hX f];refine Zx c ?_;simp[dv,dvs,ret]
    ·cases c
   ·cases c
  ·cases c
 ·simp only[opK]at c;obtain⟨ti,h1,b⟩:=Z0 c;replace c:=b;clear b;simp only[ZE,h1,jm];split at c
  ·rename_i e g;obtain⟨ei,h2,b⟩:=Z0 c;replace c:=b;clear b;obtain⟨te,h3,b⟩:=Z0 c;replace c:=b;clear b;obtain⟨vs,y,b⟩:=Z0 c;replace c:=b;clear b;obtain⟨es,f,b⟩:=Z0 c;replace c:=b;clear b;obtain⟨p,b⟩:=Z3 c;replace c:=b;clear b;have a0:=(hX.code e te ei h3 h2).1;simp only[g,h2,jm,Z7n hX ρ y];rw[a0,Zd0 hX f];simp only[jm,List.length_map];rw[a0]at p;rw[p];refine⟨_,?_,Y2 rfl (Z2v _ _),c⟩;simp only[jB,Yd,dvu,jv,jq,dvO,dv,Z6T,Z5K hX]
  ·cases c
 ·simp only[opK]at c;obtain⟨ti,h1,b⟩:=Z0 c;replace c:=b;clear b;obtain⟨d,h2,b⟩:=Z0 c;replace c:=b;clear b;obtain⟨lo',h3,b⟩:=Z0 c;replace c:=b;clear b;obtain⟨hi',y,b⟩:=Z0 c;replace c:=b;clear b;simp only[ZE,h1,jm,ZQ,h2,jq,Zik,h3,y];split at c
  ·rename_i s g;simp only[g,dv];obtain⟨hh,f,b⟩:=Z31 (T:=X.T) c;replace c:=b;clear b;obtain⟨l,p,b⟩:=Z31 (T:=X.T) c;replace c:=b;clear b;simp only[Zej,f,p,jm];exact Zx c rfl
  ·rename_i n e id off g;obtain⟨ei,f,b⟩:=Z0 c;replace c:=b;clear b;obtain⟨o,ho,b⟩:=Z0 c;replace c:=b;clear b;cases o<;>simp only[reduceCtorEq]at c;rename_i ct cs;obtain⟨A,hA,b⟩:=Z0 c;replace c:=b;clear b;obtain⟨h8,b⟩:=Z3 c;replace c:=b;clear b;obtain⟨hh,h9,b⟩:=Z31 (T:=X.T) c;replace c:=b;clear b;obtain⟨l,w,b⟩:=Z31 (T:=X.T) c;replace c:=b;clear b;obtain⟨t,m,a⟩:=A;simp only[jn]at h8;obtain⟨⟨e1,e2⟩,e3⟩:=h8;have e1:=jf e1;have e2:=jf e2;subst e1;obtain⟨q,g1,g2⟩:=Zfh hX hA;have hal:=Z16 hX.t t m a;have hdl:=congrArg List.length g2;rw[List.length_drop,List.length_append,hal]at hdl
   have c1:Nat.ble (off+m*ei.size) (dvs X.T cs).length=true:=by rw[Nat.ble_eq,<-e2];omega
   have c2:Zc (((dvs X.T cs).drop off).take (m*ei.size))=true:=by
    rw[g2,<-e2,<-hal,List.take_left];exact Z1J (Ys hX.t t m a)
   have c3:Z20 ei.size m ((dvs X.T cs).drop off)=((List.range m).map a).map (dcl X.T t):=by
    rw[g2,<-e2];exact Z8D hX t m a q
   simp only[g,dv,f,jm,dvh,ho,jq,dvO,c1,c2,e3,ju,jB,c3,Z84,List.length_map,List.length_range,h9,w];refine⟨_,?_,Y2 rfl ZY,c⟩;simp[Yd,dvu,dv,List.map_drop,List.map_take]
  ·rename_i d _ d' e g;obtain⟨ei,f,b⟩:=Z0 c;replace c:=b;clear b;obtain⟨te,p,b⟩:=Z0 c;replace c:=b;clear b;obtain⟨es,u,b⟩:=Z0 c;replace c:=b;clear b;obtain⟨h8,b⟩:=Z3 c;replace c:=b;clear b;obtain⟨hh,h9,b⟩:=Z31 (T:=X.T) c;replace c:=b;clear b;obtain⟨l,w,b⟩:=Z31 (T:=X.T) c;replace c:=b;clear b;have a0:=(hX.code e te ei p f).1;have hhid:=Zfv (T:=X.T) h d;cases hvw:ti.view&&Z6w h d with
   | true =>
    rw[hvw]at c;simp only[jB]at c;unfold Zi5 at c;split at c
    ·unfold ZT at c;have he7:=Z78 (T:=X.T) u;simp only[dv]at he7 hhid;simp only[g,f,jm,dv,he7,Z3w hX a0.symm,h8,ju,jB,hhid,hvw,Zfb,List.length_map,h9,w];refine⟨_,?_,ZY,c⟩;simp[ret,Yd,dvu,dv]
    ·cases c
   | false =>
   rw[hvw]at c;simp only[jA]at c;simp only[g,f,jm,Z78 u,Z3w hX a0.symm,h8,ju,jB,hhid,hvw,jA,Z84,List.length_map,h9,w];refine⟨_,?_,Z2v _ _,c⟩;simp only[Yd,jq,dv,List.map_drop,List.map_take,Z6T,Z6Q hX.t]
  ·cases c
 ·simp only[opK]at c;obtain⟨ti,h1,b⟩:=Z0 c;replace c:=b;clear b;obtain⟨d,h2,b⟩:=Z0 c;replace c:=b;clear b;obtain⟨i',h3,b⟩:=Z0 c;replace c:=b;clear b;simp only[ZE,h1,jm,ZQ,h2,jq,h3];split at c
  ·rename_i len e g;obtain⟨ei,y,b⟩:=Z0 c;replace c:=b;clear b;simp only[g,y,jm];cases d with
   | ptr id o =>
    simp only at c;obtain⟨j,f,p,b⟩:=Z5j (T:=X.T) c;replace c:=b;clear b;obtain⟨_,b⟩:=Z3 c;replace c:=b;clear b;simp only[f,jm,dv,Z1g];exact Zx c (by simp[dv,ret])
   | pub cs0 =>
    simp only at c;split at c
    ·rename_i t' n a cs hcs;obtain⟨f,b⟩:=Z3 c;replace c:=b;clear b;obtain⟨j,p,u,b⟩:=Z5j (T:=X.T) c;replace c:=b;clear b;simp only[jn]at f;have e1:=jf f.1;have e2:=jf f.2;subst e1;have hl:((List.range j).flatMap fun j=>dcl X.T t' (a j)).length=j*tsz X.T t':=Z16 hX.t t' j a;have hcut:(dvs X.T cs0).drop (j*ei.size)=dvs X.T (tcl X.T t' (a j)++.arr t' (n-(j+1)) (fun m=>a (j+1+m))::cs):=by
      rw[<-Z2T hX.t 10 cs0,hcs,Z21,ZB,ZB,Z2Z hX.t,<-e2];simp only[Yc];rw[Z3I u,jj,List.drop_append,hl,Nat.sub_self,jd (by omega),List.nil_append,List.drop_zero,jj]
      congr 2;unfold acl;rw[List.range'_eq_map_range,List.flatMap_map]
     simp only[p,jm,dv,Z1g,hcut];exact Zx c (by simp[dv,ret])
    ·cases c
   | _=>cases c
  ·rename_i e g;obtain⟨ei,y,b⟩:=Z0 c;replace c:=b;clear b;simp only[g,y,jm];cases d with
   | sl te xs =>
    simp only at c;obtain⟨f,b⟩:=Z3 c;replace c:=b;clear b;obtain⟨j,p,u,b⟩:=Z5j (T:=X.T) c;replace c:=b;clear b;simp only[jn]at f;have e1:=jf f.1;have hg:xs.getD j (tdf X.T te)=xs[j]:=by simp[List.getD_eq_getElem?_getD,u]
    rw[hg]at c;simp only[dv,List.length_map,p,jm,List.getElem?_map,List.getElem?_eq_getElem u,jq];have h8:Nat.beq (dcl X.T te xs[j]).length ei.size=true:=by rw[Yh hX.t,e1];exact Nat.beq_refl _
    rw[h8,f.2];exact Zx c (by simp[dv,Z2Z hX.t,ret])
   | rs id v =>
    simp only at c;obtain⟨o,ho,b⟩:=Z0 c;replace c:=b;clear b;cases o<;>simp only[reduceCtorEq]at c;obtain⟨f,b⟩:=Z3 c;replace c:=b;clear b;obtain⟨j,p,u,b⟩:=Z5j (T:=X.T) c;replace c:=b;clear b;simp only[dv,dvh,ho,jq,jm,dvO,List.length_map,p,f,jB];exact Zx c rfl
   | _=>cases c
  ·cases c
 ·simp only[opK]at c;obtain⟨ti,h1,b⟩:=Z0 c;replace c:=b;clear b;obtain⟨d,h2,b⟩:=Z0 c;replace c:=b;clear b;obtain⟨i',h3,b⟩:=Z0 c;replace c:=b;clear b;simp only[ZE,h1,jm,ZQ,h2,jq,h3];split at c
  ·rename_i len e te n a g;obtain⟨ei,y,b⟩:=Z0 c;replace c:=b;clear b;obtain⟨f,b⟩:=Z3 c;replace c:=b;clear b;obtain⟨j,p,u,b⟩:=Z5j (T:=X.T) c;replace c:=b;clear b;simp only[jn]at f;have e1:=jf f.1.1;have e2:=jf f.1.2;have e3:=eq_of_beq f.2;subst e1;simp only[g,y,jm,dv,p];have hp:YO ei (dvs X.T [.arr te n a]) (j*ei.size)=some (YS X.T te (a j)):=by
    have hl:((List.range j).flatMap fun j=>dcl X.T te (a j)).length=j*tsz X.T te:=Z16 hX.t te j a;have hd:=Yh hX.t te (a j);have hal:=Z16 hX.t te n a;have hin:j*tsz X.T te+tsz X.T te<=n*tsz X.T te:=by
     have:=Nat.mul_le_mul_right (tsz X.T te) u;rw[Nat.succ_mul]at this;exact this
    simp only[dvs,jp];unfold YO;rw[<-e2,e3];have hle:Nat.ble (j*tsz X.T te+tsz X.T te) (acl X.T te n a).length=true:=by rw[Nat.ble_eq,hal];exact hin
    have hdrop:(acl X.T te n a).drop (j*tsz X.T te)=dcl X.T te (a j)++(List.range' (j+1) (n-(j+1))).flatMap fun j=>dcl X.T te (a j):=by
     rw[Z3I u,List.drop_append,hl,Nat.sub_self,jd (by omega)];rfl
    cases hag:YZ te with
    | true =>
     simp only[jB,hle,hdrop];rw[List.take_append_of_le_length (by omega),List.take_of_length_le (by omega)]
     cases te<;>simp[YZ]at hag<;>rfl
    | false =>
     simp only[jA];have:(acl X.T te n a)[j*tsz X.T te]?=((acl X.T te n a).drop (j*tsz X.T te))[0]? := by simp
     rw[this,hdrop,Z8G _ hag];rfl
   rw[hp];exact Zx c (by rw[Z1M hX.t];rfl)
  ·rename_i s g;obtain⟨j,p,u,b⟩:=Z5j (T:=X.T) c;replace c:=b;clear b;simp only[g,dv,p,jm,Zg8 s j u];exact Zx c rfl
  ·cases c
 ·simp only[opK]at c;obtain⟨ti,h1,b⟩:=Z0 c;replace c:=b;clear b;obtain⟨mv,h2,b⟩:=Z0 c;replace c:=b;clear b;obtain⟨kv,h3,b⟩:=Z0 c;replace c:=b;clear b;simp only[ZE,h1,jm,ZQ,h2,jq,h3];split at c
  ·rename_i kt e id g;obtain⟨ei,y,b⟩:=Z0 c;replace c:=b;clear b;obtain⟨ki,f,b⟩:=Z0 c;replace c:=b;clear b;obtain⟨z,p,b⟩:=Z0 c;replace c:=b;clear b;obtain⟨o,ho,b⟩:=Z0 c;replace c:=b;clear b;cases o<;>simp only[reduceCtorEq]at c;rename_i kc ec es;obtain⟨key,h8,b⟩:=Z0 c;replace c:=b;clear b;obtain⟨u,b⟩:=Z3 c;replace c:=b;clear b;obtain⟨zv,h9,b⟩:=Z0 c;replace c:=b;clear b;obtain⟨eq,w,b⟩:=Z0 c;replace c:=b;clear b;simp only[jn,Bool.not_eq_true']at u;obtain⟨⟨⟨q1,q2⟩,q3⟩,q4⟩:=u;have hz:=hX.zero e z ei p y;have hkey:=Z3p hX.t h8
   have hzd:ei.zero=[YS X.T ec zv]:=by rw[<-hz,Z2A hX.t h9,Z8G _ q4]
   simp only[g,y,f,jm,dv,dvh,ho,jq,dvO,hkey,Z7V hX f q1,q2,q3,Bool.not_false,ju,jB,Zaj hX w,hzd];cases hm:Z99 eq key es with
   | none =>
    rw[hm]at c;cases ok
    ·exact Zx c (by simp[Z1M hX.t])
    ·exact Zx c (by simp[dv,dvl,Z1M hX.t])
   | some v =>
    rw[hm]at c;cases ok
    ·exact Zx c (by simp[Z1M hX.t])
    ·exact Zx c (by simp[dv,dvl,Z1M hX.t])
  ·cases c
 ·simp only[opK]at c;obtain⟨ti,h1,b⟩:=Z0 c;replace c:=b;clear b;obtain⟨mv,h2,b⟩:=Z0 c;replace c:=b;clear b;obtain⟨kv,h3,b⟩:=Z0 c;replace c:=b;clear b;obtain⟨vv,h3',b⟩:=Z0 c;replace c:=b;clear b;simp only[ZE,h1,jm,ZQ,h2,jq,h3,h3'];split at c
  ·rename_i kt e id g;obtain⟨ki,f,b⟩:=Z0 c;replace c:=b;clear b;obtain⟨o,ho,b⟩:=Z0 c;replace c:=b;clear b;cases o<;>simp only[reduceCtorEq]at c;rename_i kc ec es;obtain⟨key,h8,b⟩:=Z0 c;replace c:=b;clear b;obtain⟨u,b⟩:=Z3 c;replace c:=b;clear b;obtain⟨_,_,b⟩:=Z0 c;replace c:=b;clear b;obtain⟨xv,h9,b⟩:=Z0 c;replace c:=b;clear b;obtain⟨eq,w,b⟩:=Z0 c;replace c:=b;clear b;simp only[jn,Bool.not_eq_true']at u;obtain⟨q1,q4⟩:=u;have hkey:=Z3p hX.t h8;have hval:=Z3p hX.t h9;obtain⟨c1,c2⟩:=Zfq q4 xv;simp only[g,f,jm,dv,dvh,ho,jq,dvO,hkey,hval,Z7V hX f q1,c1,c2,ju,jB,ZcF hX w]
   refine⟨_,?_,Y2 rfl ZY,c⟩;rw[c1,c2];simp[Yd,dvu,dvO,dv,dvl]
  ·cases c
omit hX in
theorem Z5q {T:TS S} (nid:Nat):∀cs:List (TV S),dvs T (Z9m nid cs)=dvs T cs
 | []=>rfl
 | c::cs=>by
  cases c<;>first|(simp only[Z9m,ZB,Z5q nid cs];done)|skip
  rename_i ts n;simp only[Z9m,ZB,Z5q nid cs];congr 1;simp only[Yc,eal];have e:enD nid ts 0=.nilif:=by cases ts<;>rfl
  rw[e,List.map_const',List.length_range]
theorem ZfW {t:TypeId} {ti:TI} {z:TV S} (a:X.E.ty t=some ti) (h:zeroT X t ti=some z):Z1e ti=some (dv X.T z):=by
 unfold zeroT at h;obtain⟨zs,b,h⟩:=Z0 h;have hz:=hX.zero t zs ti b a;unfold Z1e;cases ha:ti.isAgg with
 | true =>
  rw[ha]at h;simp only[jB,jh]at h⊢;subst h;rw[<-hz];simp[dv]
 | false =>
  rw[ha]at h;simp only[jA]at h⊢;split at h
  ·rename_i c;cases hc:Y1 c with
   | true=>rw[hc]at h;cases h
   | false =>
    rw[hc]at h;cases h;rw[<-hz];have:dvs X.T [z]=[dv X.T z]:=by
     rw[ZB,Z8f,jp];cases z<;>simp[Yc,Y1]at hc⊢
    rw[this];rfl
  ·cases h
theorem Zij {nid:Nat} {ρ:Nat->Option (TV S)} {h:Nat->Option (Zp S)} {op:Op} {k:Z2n S R} {r:R} (g:opK X nid ρ h op k=some r) :
  Sim X.T (ZE X.E nid (dvr X.T ρ) (dvh X.T h) op) k r:=by
 cases op with
 | build t ps=>exact Z47 hX g (.inl ⟨_,_,rfl⟩)
 | buildSlice t n ps=>exact Z47 hX g (.inr (.inl ⟨_,_,_,rfl⟩))
 | slice t x lo hi mx =>
  cases mx with
  | none=>exact Z47 hX g (.inr (.inr (.inl ⟨_,_,_,_,rfl⟩)))
  | some _=>cases g
 | indexAddr t x i=>exact Z47 hX g (.inr (.inr (.inr (.inl ⟨_,_,_,rfl⟩))))
 | index t x i=>exact Z47 hX g (.inr (.inr (.inr (.inr (.inl ⟨_,_,_,rfl⟩)))))
 | lookup t m x ok=>exact Z47 hX g (.inr (.inr (.inr (.inr (.inr (.inl ⟨_,_,_,_,rfl⟩))))))
 | mapUpdate t m x v=>exact Z47 hX g (.inr (.inr (.inr (.inr (.inr (.inr ⟨_,_,_,_,rfl⟩))))))
 | makeInterface t x =>
  obtain⟨ti,j,g⟩:=Z0 g;obtain⟨v,p,g⟩:=Z0 g;cases ha:Y1 v with
  | true=>rw[ha]at g;cases g
  | false =>
   rw[ha]at g;simp only[jA]at g;simp only[ZE,j,jm,ZQ,p,jq];cases hk2:ti.k<;>rw[hk2]at g<;>first|exact Zx g rfl|cases g
 | typeAssert x xt t ok =>
  obtain⟨ti,j,g⟩:=Z0 g;obtain⟨v,p,g⟩:=Z0 g;simp only[ZE,j,jm,ZQ,p,jq];have hf:∀{r:R},(bif ok then(zeroT X t ti).bind fun z=>ZT (.tup [z,.bool false]) k else none)=some r->Sim X.T (bif ok then(Z1e ti).bind fun z=>ret (.tup [z,.bool false])else none) k r:=fun h=>by
   cases ok with
   | false=>cases h
   | true =>
    obtain⟨z,q,h⟩:=Z0 h;simp only[jB,ZfW hX j q,jm];exact Zx h (by simp[dv,dvl])
  cases v with
  | nilif=>cases hk2:ti.k<;>rw[hk2]at g<;>first|exact hf g|cases g
  | iface t' w =>
   have q:(bif Nat.beq t' t then ZT (bif ok then .tup [w,.bool true]else w) k else bif ok then(zeroT X t ti).bind fun z=>ZT (.tup [z,.bool false]) k else none)=some r/\ti.k≠.iface:=by
    cases hk2:ti.k<;>rw[hk2]at g<;>first|exact⟨g,by simp⟩|cases g
   obtain⟨q,hni⟩:=q;have h4:Sim X.T (bif Nat.beq t' t then ret (bif ok then .tup [dv X.T w,.bool true]else dv X.T w)else bif ok then(Z1e ti).bind fun z=>ret (.tup [z,.bool false])else none) k r:=by
    cases hq:Nat.beq t' t with
    | true =>
     rw[hq]at q;cases ok
     ·exact Zx q rfl
     ·exact Zx q (by simp[dv,dvl])
    | false=>rw[hq]at q;exact hf q
   simp only[dv];cases hk2:ti.k<;>first|exact h4|exact absurd hk2 hni
  | _=>cases hk2:ti.k<;>rw[hk2]at g<;>cases g
 | makeSlice t l c =>
  obtain⟨ti,j,g⟩:=Z0 g;obtain⟨dl,p,g⟩:=Z0 g;obtain⟨dc,q,g⟩:=Z0 g;simp only[ZE,j,jm,ZQ,p,q,jq];cases he:ti.k with
  | slice e =>
   rw[he]at g;obtain⟨k1,n,rfl⟩:∃k n,dl=.int k n:=by cases dl<;>first|exact⟨_,_,rfl⟩|cases g
   obtain⟨k2,n',rfl⟩:∃k n,dc=.int k n:=by cases dc<;>first|exact⟨_,_,rfl⟩|cases g
   simp only at g;obtain⟨ei,h4,g⟩:=Z0 g;obtain⟨te,h5,g⟩:=Z0 g;obtain⟨z,h6,g⟩:=Z0 g;obtain⟨zv,h7,g⟩:=Z0 g;obtain⟨h8,g⟩:=Z3 g;have hz:=hX.zero e z ei h6 h4;have hzd:ei.zero=dcl X.T te zv:=by rw[<-hz,Z2A hX.t h7]
   have hfree:Zc ei.zero=true:=by rw[hzd];exact Z1J (Z33 hX.t te zv)
   simp only[dv,h4,jm,h8,hfree,ju,jB];refine⟨_,?_,Y2 rfl ZY,g⟩;simp[Yd,dvu,dvO,dv,hzd,List.map_replicate]
  | _=>rw[he]at g;cases g
 | move x =>
  obtain⟨v,j,g⟩:=Z0 g;simp only[ZE,ZQ,j,jq,jm];exact Zx g rfl
 | assign x =>
  obtain⟨v,j,g⟩:=Z0 g;simp only[ZE,ZQ,j,jq,jm];exact Zx g rfl
 | pick c a b =>
  obtain⟨v,j,g⟩:=Z0 g;cases v<;>simp only[reduceCtorEq]at g;rename_i c;simp only[ZE,ZQ,j,jq,jm,dv];unfold Zi3 at g;split at g
  ·rename_i x y ha hb;rw[ha,hb];cases c<;>exact Zx g rfl
  ·cases c with
   | true =>
    simp only[jB]at g⊢;obtain⟨v,p,g⟩:=Z0 g;rw[p];exact Zx g rfl
   | false =>
    simp only[jA]at g⊢;obtain⟨v,p,g⟩:=Z0 g;rw[p];exact Zx g rfl
 | alloc t =>
  obtain⟨ti,j,g⟩:=Z0 g;obtain⟨z,p,g⟩:=Z0 g;refine⟨_,?_,Y2 rfl ZY,g⟩;simp only[ZE,j,jm,Yd,dvu,jv,List.map_nil,jq,dv,dvO,Z5o hX,Z5q,hX.zero t z ti p j]
 | box t x =>
  obtain⟨v,j,g⟩:=Z0 g;obtain⟨p,g⟩:=Z3 g;refine⟨_,?_,Y2 rfl ZY,g⟩;have q:=Z7K hX p;rw[YB]at q;simp only[ZE,ZQ,j,jq,jm,YB,q,jB,Yd,dvu,jv,List.map_nil,dv,dvO,Z5o hX,Z5q]
 | load t a =>
  obtain⟨ti,j,g⟩:=Z0 g;obtain⟨v,p,g⟩:=Z0 g;simp only[ZE,j,ZQ,p,jq,jm];exact Zcz hX g
 | store t a x =>
  obtain⟨ti,j,g⟩:=Z0 g;obtain⟨v,p,g⟩:=Z0 g;obtain⟨u,q,g⟩:=Z0 g;simp only[ZE,j,ZQ,p,q,jq,jm];exact ZfR hX g
 | nilCheck x =>
  obtain⟨v,j,g⟩:=Z0 g;simp only[ZE,ZQ,j,jq,jm];cases v<;>simp only[reduceCtorEq]at g<;>exact Zx g rfl
 | binOp op t x y u =>
  obtain⟨a,j,g⟩:=Z0 g;obtain⟨b,p,g⟩:=Z0 g;simp only[ZE,ZQ,j,p,jq,jm];split
  ·rename_i e1 e2;exfalso;cases a<;>first|(simp only[dv,reduceCtorEq]at e1;done)|(unfold Zhd at g;cases b<;>cases g)
  ·exact Zhe hX g
 | unOp op t x =>
  obtain⟨a,j,g⟩:=Z0 g;simp only[ZE,ZQ,j,jq,jm];exact Ziv g
 | convert s d x =>
  obtain⟨ts,j,g⟩:=Z0 g;obtain⟨td,p,g⟩:=Z0 g;obtain⟨v,q,g⟩:=Z0 g;simp only[ZE,j,p,ZQ,q,jq,jm];split at g
  ·rename_i he;simp only[he,dv];exact Zx g rfl
  ·rename_i he;simp only[he,dv];exact Zx g rfl
  ·cases g
 | makeFunc f a c =>
  obtain⟨as,j,g⟩:=Z0 g;obtain⟨bs,p,g⟩:=Z0 g;simp only[ZE,Z3g,j,p,jq,jm];exact Zx g (by simp[dv,ret])
 | makeMap t sz =>
  cases sz with
  | some _=>cases g
  | none =>
   obtain⟨ti,j,g⟩:=Z0 g;split at g
   ·obtain⟨kt,p,g⟩:=Z0 g;obtain⟨et,q,g⟩:=Z0 g;refine⟨_,?_,Y2 rfl ZY,g⟩;simp[ZE,Yd,dvu,dv,dvO]
   ·cases g
 | fieldAddr s x f =>
  obtain⟨ti,j,g⟩:=Z0 g;obtain⟨v,p,g⟩:=Z0 g;simp only[ZE,j,ZQ,p,jq,jm];split at g
  ·rename_i fs he;obtain⟨⟨ft,off⟩,q,g⟩:=Z0 g;obtain⟨fi,h4,g⟩:=Z0 g;obtain⟨h5,g⟩:=Z3 g;obtain⟨w,h6,g⟩:=Z0 g;simp only at h4 h6;simp only[he,q,h4,jm,h5,jB,Zg3 hX.t h6];exact Zx g rfl
  ·cases g
 | field s x f =>
  obtain⟨ti,j,g⟩:=Z0 g;obtain⟨v,p,g⟩:=Z0 g;simp only[ZE,j,ZQ,p,jq,jm];split at g
  ·rename_i fs cs he;obtain⟨⟨ft,off⟩,q,g⟩:=Z0 g;obtain⟨fi,h4,g⟩:=Z0 g;obtain⟨w,h6,g⟩:=Z0 g;simp only at h4 h6;simp only[he,dv,q,h4,jm,(Z3N hX.t h6).1];exact Zx g rfl
  ·cases g
 | range t x =>
  obtain⟨ti,j,g⟩:=Z0 g;obtain⟨v,p,g⟩:=Z0 g;simp only[ZE,j,ZQ,p,jq,jm];split at g
  ·rename_i s he;refine⟨_,?_,Y2 rfl ZY,g⟩;simp[he,Yd,dvu,dv,dvO]
  ·cases g
 | next it b =>
  cases b with
  | false=>cases g
  | true =>
   obtain⟨v,j,g⟩:=Z0 g;cases v<;>simp only[reduceCtorEq]at g;rename_i id;obtain⟨o,ho,g⟩:=Z0 g;cases o<;>simp only[reduceCtorEq]at g;rename_i s pos;simp only[ZE,ZQ,j,jq,jm,dv,dvh,ho,dvO];cases hp:decide (pos<s.size)with
   | true =>
    rw[hp]at g;refine⟨_,?_,Y2 rfl ZY,g⟩;simp[Yd,dvu,dv,dvl,dvO]
   | false =>
    rw[hp]at g;exact Zx g (by simp[dv,dvl])
 | extract t i =>
  obtain⟨v,j,g⟩:=Z0 g;cases v<;>simp only[reduceCtorEq]at g;rename_i vs;obtain⟨w,p,g⟩:=Z0 g;simp only[ZE,ZQ,j,jq,jm,dv,Z5e,List.getElem?_map,p];exact Zx g rfl
 | call c =>
  simp only[opK]at g;split at g
  ·rename_i hc;split at g
   ·rename_i x t ts hx ht;obtain⟨ti,j,g⟩:=Z0 g;obtain⟨v,p,g⟩:=Z0 g;obtain⟨w,q,g⟩:=Z0 g;simp only[ZE,hc,hx,ht,j,ZQ,p,jq,jm,ZhA hX q];exact Zx g rfl
   ·cases g
  ·rename_i hc;split at g
   ·rename_i s x t t' hx ht;obtain⟨h0,hz⟩:=Z3 g;clear g;obtain rfl:=jf h0;obtain⟨v,p,hz⟩:=Z0 hz;obtain⟨w,q,g⟩:=Z0 hz;simp only[ZE,hc,hx,ht,ZQ,p,q,jq,jm];exact Zdv hX g
   ·cases g
  ·rename_i hc;obtain⟨vs,j,g⟩:=Z0 g;simp only[ZE,hc,Z3g,j,jq,jm];split at g
   ·obtain⟨w,p,g⟩:=Z0 g;simp only[dvl,Z8U hX (ZhF hX) p,jm];exact Zx g rfl
   ·cases g
  ·rename_i hc;obtain⟨vs,j,g⟩:=Z0 g;simp only[ZE,hc,Z3g,j,jq,jm];split at g
   ·obtain⟨w,p,g⟩:=Z0 g;simp only[dvl,Z8U hX (ZhE hX) p,jm];exact Zx g rfl
   ·cases g
  ·cases g
 | _=>cases g
end Go.Ab
namespace Go.Ab
variable {S:Nat->Type} {R:Type}
theorem Z23 {α β:Type} (f:α->β):∀(t:Tr α) (a b:Nat),(t.mapv f).ents a b=(t.ents a b).map fun p=>(p.1,f p.2)
 | .leaf,_,_=>rfl
 | .node l v r,a,b=>by
  simp only[Tr.mapv,Tr.ents,Z23 f l,Z23 f r,List.map_append];cases v<;>rfl
theorem Z80:∀(a b:List DV),Z1u (a++b)=Z1u a++Z1u b
 | [],b=>by simp[Z1u]
 | c::a,b=>by simp only[List.cons_append,Z1u,Z80 a b,jj]
theorem Z68:∀{cs:List DV},cs.all plain=true->Z1u cs=[]
 | [],_=>rfl
 | c::cs,h=>by
  simp only[jt,jn]at h;simp only[Z1u,Z68 h.2,jp];cases c<;>simp[plain]at h<;>simp[rid]
theorem Z8L {pid:Nat}:∀{cs:List DV},cs.all (Z4S pid)=true->Z1u cs=[]
 | [],_=>rfl
 | c::cs,h=>by
  simp only[jt,jn]at h;simp only[Z1u,Z8L h.2,jp];cases c<;>simp[Z4S]at h<;>simp[rid]
theorem Z63 (h:Nat->Option Zd):∀{cs:List DV},cs.all plain=true->cs.map (Z5Y h)=cs
 | [],_=>rfl
 | c::cs,hp=>by
  simp only[jt,jn]at hp;rw[jv,Z63 h hp.2];cases c<;>simp[plain]at hp<;>simp[Z5Y]
theorem Z6n (h:Nat->Option Zd) {pid:Nat}:∀{cs:List DV},cs.all (Z4S pid)=true->cs.map (Z5Y h)=cs
 | [],_=>rfl
 | c::cs,hp=>by
  simp only[jt,jn]at hp;rw[jv,Z6n h hp.2];cases c<;>simp[Z4S]at hp<;>simp[Z5Y]
section
variable {T:TS S} (hT:TOk T)
include hT
mutual
theorem ZbA:∀v:TV S,rid (dv T v)=Z1X v
 | .bool _=>rfl | .int _ _=>rfl | .str _=>rfl | .nilp=>rfl | .nils=>rfl
 | .sl0=>by simp[dv,rid,Z1X] | .sl _ _=>by simp[dv,rid,Z1X]
 | .arr _ _ _=>by simp[dv,rid,Z1X]
 | .stc _ _=>by simp[dv,rid,Z1X]
 | .narr _ n=>by simp only[dv,rid,Z1X];exact Z8L (Z1c 0 n)
 | .earr ts pid n a=>by simp only[dv,rid,Z1X];exact Z8L (YC ts pid n a)
 | .ptr _ _=>by simp[dv,rid,Z1X] | .ap _ _ _ _ _=>by simp[dv,rid,Z1X] | .rptr _ _ _ _ _=>by simp[dv,rid,Z1X]
 | .pub _=>by simp[dv,rid,Z1X]
 | .rv _ _ _ _ _=>by simp[dv,rid,Z1X] | .slen _=>by simp[dv,rid,Z1X]
 | .rs _ _=>by simp[dv,rid,Z1X] | .map _=>by simp[dv,rid,Z1X] | .iter _=>by simp[dv,rid,Z1X] | .yld _=>by simp[dv,rid,Z1X]
 | .nilfn=>by simp[dv,rid,Z1X] | .nilmap=>by simp[dv,rid,Z1X] | .nilif=>by simp[dv,rid,Z1X]
 | .agg cs=>by simp only[dv,rid,Z1X];exact ZbB cs
 | .tup cs=>by simp only[dv,rid,Z1X];exact Z4p cs
 | .fn _ a c=>by simp only[dv,rid,Z1X,Z4p a,Z4p c]
 | .iface _ v=>by simp only[dv,rid,Z1X]
theorem ZbB:∀cs:List (TV S),Z1u (dvs T cs)=Z2P cs
 | []=>by simp[dvs,Z1u,Z2P]
 | c::cs=>by
  rw[ZB,Z80,Z2P,ZbB cs];have h:=ZbA c;cases c<;>simp only[Yc,Z1u,jp]<;>first|rw[h]|skip
  ·rw[Z68 (Ys hT _ _ _)];rfl
  ·rw[Z68 (hT.plain _ _)];rfl
  ·rw[Z8L (YC _ _ _ _)];rfl
  ·rw[Z8L (Z1c 0 _)];rfl
theorem Z4p:∀cs:List (TV S),Z1u (dvl T cs)=Z2P cs
 | []=>by simp[dvl,Z1u,Z2P]
 | c::cs=>by simp only[dvl,Z1u,Z2P,ZbA c,Z4p cs]
end
theorem ZhP (o:Zp S):Zin (dvO T o)=ZgT o:=by
 cases o<;>simp only[dvO,Zin,ZgT]
 ·exact ZbB hT _
 ·rw[Z23,List.flatMap_map];congr 1;funext p;exact ZbA hT p.2
theorem Z3i (h:Nat->Option (Zp S)):∀(n:Nat) (todo acc:List Nat),Z1h (dvh T h) n todo acc=Z28 h n todo acc
 | 0,_,_=>by simp[Z1h,Z28]
 | n+1,[],_=>by simp[Z1h,Z28]
 | n+1,i::todo,acc=>by
  simp only[Z1h,Z28,dvh];cases acc.any (Nat.beq i)with
  | true=>exact Z3i h n todo acc
  | false =>
   simp only[jA];cases hi:h i with
   | none=>exact Z3i h n todo acc
   | some o =>
    simp only[jq,ZhP hT];exact Z3i h n _ _
omit hT in
theorem Z9G (h:Nat->Option (Zp S)):∀(is:List Nat),Z2z (dvh T h) is=(Z7B h is).mapv (dvO T)
 | []=>rfl
 | i::is=>by
  simp only[Z2z,Z7B,Z9G h is,YE,dvh]
omit hT in
theorem Za8 (o:Tr (Zp S)) (Rs:List Nat) (nx:Nat):Z4L (o.mapv (dvO T)) Rs nx=dvu T (ZaV o Rs nx):=by
 unfold Z4L ZaV dvu;rw[Z23,List.map_map,List.map_map];have e:((fun x=>x.1)∘fun(p:Nat×Zp S)=>(p.1,dvO T p.2))=fun p=>p.1:=rfl;rw[e];congr 1;funext i;simp only[Function.comp,Yj]
theorem ZeG (h:Nat->Option (Zp S)) (v:TV S):Z5Y (dvh T h) (dv T v)=dv T (Z2O h v):=by
 cases v<;>simp only[dv,Z5Y,Z2O];rename_i id ver;simp only[dvh];cases h id with
 | none=>rfl
 | some o =>
  cases o<;>simp only[jq,dvO,dv];rename_i e t xs p u;cases Nat.beq p 1&&Nat.beq u ver<;>simp[dv]
theorem Zcl (h:Nat->Option (Zp S)):∀cs:List (TV S),(dvs T cs).map (Z5Y (dvh T h))=dvs T (cs.map (Z2O h))
 | []=>by simp[dvs]
 | c::cs=>by
  rw[ZB,List.map_append,jv,ZB,Zcl h cs];congr 1;have hc:=ZeG hT h c
  by_cases ha:Y1 c=true
  ·cases c<;>simp only[Y1,jg]at ha<;>simp only[Yc,Z2O]
   ·exact Z63 _ (Ys hT _ _ _)
   ·exact Z63 _ (hT.plain _ _)
   ·exact Z6n _ (YC _ _ _ _)
   ·exact Z6n _ (Z1c 0 _)
  ·have b:Yc T c=[dv T c]:=by cases c<;>simp[Yc,Y1]at ha⊢
   have d:Yc T (Z2O h c)=[dv T (Z2O h c)]:=by
    have a:Y1 (Z2O h c)=false:=by
     cases c<;>simp[Y1]at ha<;>simp only[Z2O]<;>first|rfl|skip
     split
     ·rename_i p u _;cases Nat.beq p 1&&Nat.beq u _<;>rfl
     ·rfl
    cases hq:Z2O h c<;>rw[hq]at a<;>simp[Y1]at a<;>simp[Yc]
   rw[b,d,jv,List.map_nil,hc]
theorem Zhs (h:Nat->Option (Zp S)) (v:TV S):Z3s (dvh T h) (dv T v)=dv T (Z5B h v):=by
 cases v with
 | agg cs=>simp only[dv,Z3s,Z5B,Zcl hT]
 | arr t n a=>simp only[dv,Z3s,Z5B,Z2O,Z5Y]
 | stc i x=>simp only[dv,Z3s,Z5B,Z2O,Z5Y]
 | earr ts pid n a =>
  simp only[dv,Z3s,Z5B,Z2O];rw[Z6n _ (YC ts pid n a)]
 | narr ts n =>
  simp only[dv,Z3s,Z5B,Z2O];rw[Z6n _ (Z1c 0 n)]
 | rs id ver=>exact ZeG hT h (.rs id ver)
 | _=>simp only[dv,Z3s,Z5B,Z2O,Z5Y]
theorem Z8V (h:Nat->Option (Zp S)):∀vs:List (TV S),(dvl T vs).map (Z3s (dvh T h))=dvl T (vs.map (Z5B h))
 | []=>by simp[dvl]
 | c::cs=>by simp only[dvl,jv,Zhs hT,Z8V h cs]
end
theorem Z3l {α:Type} (n:Nat) (k:Nat->α):sN n k=k n:=by cases n<;>rfl
mutual
theorem Zay {α:Type}:∀(v:TV S) (k:TV S->α),sV v k=k v
 | .ptr _ _,_=>by simp only[sV,Z3l]
 | .ap _ _ _ _ _,_=>by simp only[sV,Z3l]
 | .rptr _ _ _ _ _,_=>by simp only[sV,Z3l]
 | .pub cs,_=>by simp only[sV,Z3n cs]
 | .rs _ _,_=>by simp only[sV,Z3l]
 | .rv _ _ _ _ _,_=>by simp only[sV,Z3l]
 | .slen _,_=>by simp only[sV]
 | .agg cs,_=>by simp only[sV,Z3n cs]
 | .tup cs,_=>by simp only[sV,Z3n cs]
 | .fn _ a c,_=>by simp only[sV,Z3n a,Z3n c]
 | .map _,_=>by simp only[sV,Z3l]
 | .iface _ v,_=>by simp only[sV,Zay v]
 | .iter _,_=>by simp only[sV,Z3l]
 | .yld _,_=>by simp only[sV,Z3l]
 | .bool _,_=>by simp only[sV]
 | .int _ _,_=>by simp only[sV]
 | .str _,_=>by simp only[sV]
 | .nilp,_=>by simp only[sV]
 | .nils,_=>by simp only[sV]
 | .sl0,_=>by simp only[sV]
 | .sl _ _,_=>by simp only[sV]
 | .arr _ _ _,_=>by simp only[sV]
 | .stc _ _,_=>by simp only[sV]
 | .earr _ _ _ _,_=>by simp only[sV,Z3l]
 | .narr _ _,_=>by simp only[sV]
 | .nilfn,_=>by simp only[sV]
 | .nilmap,_=>by simp only[sV]
 | .nilif,_=>by simp only[sV]
theorem Z3n {α:Type}:∀(v:List (TV S)) (k:List (TV S)->α),sVs v k=k v
 | [],_=>by simp only[sVs]
 | c::cs,_=>by simp only[sVs,Zay c,Z3n cs]
end
theorem Z3m {α β:Type} {f:β->(β->α)->α} (a:∀v k,f v k=k v):∀(t:Tr β) (k:Tr β->α),sTr f t k=k t
 | .leaf,_=>rfl
 | .node l v r,k=>by
  simp only[sTr,Z3m a l,Z3m a r];cases v with
  | none=>rfl
  | some x=>simp only[a]
theorem Z9y {α:Type} (v:Zp S) (k:Zp S->α):sO v k=k v:=by
 cases v<;>simp only[sO,Z3n,Z3l,Z3m Zay]
theorem ZgX {α:Type} (s:StT S) (k:StT S->α):sSt s k=k s:=by
 unfold sSt;rw[Z3m Zay,Z3m Z9y,Z3l]
theorem Z9x {α:Type}:∀(v:List Nat) (k:List Nat->α),sNs v k=k v
 | [],_=>rfl
 | i::is,k=>by simp only[sNs,Z3l,Z9x is]
end Go.Ab
namespace Go.Ab
variable {S:Nat->Type} {R:Type}
def Evt (p:Nat->Prop):Prop:=∃N,∀n,N<=n->p n
theorem Evt.and {p q:Nat->Prop} (e:Evt p) (d:Evt q):Evt fun n=>p n/\q n:=by
 obtain⟨a,c⟩:=e;obtain⟨b,f⟩:=d;exact⟨max a b,fun n g=>⟨c n (by omega),f n (by omega)⟩⟩
theorem Evt.mono {p q:Nat->Prop} (b:Evt p) (h:∀n,p n->q n):Evt q:=by
 obtain⟨a,d⟩:=b;exact⟨a,fun n c=>h n (d n c)⟩
theorem Evt.of {p:Nat->Prop} (h:∀n,p n):Evt p:=⟨0,fun n _=>h n⟩
theorem Evt.succ {p:Nat->Prop} (b:Evt fun n=>p (n+1)):Evt p:=by
 obtain⟨a,c⟩:=b;refine⟨a+1,fun n d=>?_⟩;cases n with
 | zero=>omega
 | succ n=>exact c n (by omega)
def WfL (E:Env) (o:Option (Zp S)):Prop:=match o with
 | some (.loop fid _ ps as bo _ _ _ po)=>∃F f,E.fn fid=some F/\Code.sub F.body po=some (.rangeFunc f ps.toArray as bo)
 | _=>True
def WfO (E:Env) (o:Tr (Zp S)):Prop:=∀i,WfL E (o.get i)
theorem Z9O {E:Env} {x:Option (Zp S)} (h:ZdL x=false):WfL E x:=by
 cases x with
 | none=>trivial
 | some o=>cases o<;>first|trivial|cases h
theorem WfO.set {E:Env} {o:Tr (Zp S)} (h:WfO E o) {i:Nat} {x:Option (Zp S)} (a:WfL E x):WfO E (o.set i x):=fun j=>by
 rw[Tr.get_set];split
 ·exact a
 ·exact h j
theorem WfO.upd {E:Env}:∀{u:List (Nat×Option (Zp S))} {o:Tr (Zp S)},WfO E o->Z5P u->WfO E (Z4B o u)
 | [],_,h,_=>h
 | (i,x)::u,o,h,hu=>by
  simp only[Z4B];exact WfO.upd (h.set (Z9O (hu (i,x) (by simp)))) (fun p a=>hu p (by simp[a]))
theorem WfO.updW {E:Env}:∀{u:List (Nat×Option (Zp S))} {o:Tr (Zp S)},WfO E o->(∀p∈u,WfL E p.2)->WfO E (Z4B o u)
 | [],_,h,_=>h
 | (i,x)::u,o,h,hu=>by
  simp only[Z4B];exact WfO.updW (h.set (hu (i,x) (by simp))) (fun p a=>hu p (by simp[a]))
def ZgM (E:Env) (n:Nat):Yi:=Z9s E (fun g as=>(evX E n false g as .leaf 0).bind fun x=>frz x.2.1.get x.1) (evX E n false) (evX E n true) n
structure Z8c (X:Yk S) (cs:Z3H S R):Prop where
 fn:∀g as k r,cs.fn g as k=some r->∃d,Evt (fun n=>evF X.E n g (dvl X.T as)=some (dv X.T d))/\k d=some r
 pr:∀g as s n0 k r,cs.pr g as s n0 k=some r->WfO X.E s->∃v os n',
  Evt (fun n=>(ZgM X.E n g (dvl X.T as) (s.mapv (dvO X.T)) n0).bind (Z7P n0)=some (dv X.T v,os.mapv (dvO X.T),n'))/\WfO X.E os/\k v os n'=some r
def Z2D (X:Yk S) (b:Bool) (callH:Z2C S R):Prop:=∀path g as objs next k r,callH path g as objs next k=some r->WfO X.E objs →
 ∃v objs' next',Evt (fun n=>evX X.E n b g (dvl X.T as) (objs.mapv (dvO X.T)) next=some (dv X.T v,objs'.mapv (dvO X.T),next'))/\WfO X.E objs'/\k v objs' next'=some r
def Zc6 (T:TS S) (l:List (Nat×Option (TV S))):Loc:=l.map fun p=>(p.1,p.2.map (dv T))
def dvM (T:TS S) (m:Z2o S):Mid:=⟨m.base.mapv (dv T),Zc6 T m.loc,m.objs.mapv (dvO T),m.next⟩
def Y3 (T:TS S) (s:StT S):St:=⟨s.base.mapv (dv T),s.objs.mapv (dvO T),s.next⟩
section
variable (T:TS S)
theorem ZeD:∀(l:List (Nat×Option (TV S))) (t:Nat),Loc.find (Zc6 T l) t=(Z8S l t).map (Option.map (dv T))
 | [],t=>rfl
 | (s,v)::l,t=>by
  simp only[Zc6,jv,Loc.find,Z8S];cases Nat.beq s t with
  | true=>rfl
  | false=>exact ZeD l t
theorem ZbM (V:Nat) (b:Tr (TV S)) (l:List (Nat×Option (TV S))):ZZ V (b.mapv (dv T)) (Zc6 T l)=dvr T (Z1v V b l):=by
 funext t;unfold ZZ Z1v dvr;cases hv:Nat.testBit V t with
 | true=>simp only[hv,jB];exact Yj _ _ _
 | false =>
  simp only[hv,jA,ZeD];cases Z8S l t with
  | none=>rfl
  | some v=>rfl
theorem Z9M:∀(u:List (Nat×Option (Zp S))) (o:Tr (Zp S)),Ya (o.mapv (dvO T)) (dvu T u)=(Z4B o u).mapv (dvO T)
 | [],o=>rfl
 | (i,x)::u,o=>by
  simp only[dvu,jv,Ya,Z4B];rw[<-YE];exact Z9M u _
theorem Ze3 (V nt:Nat) (m:Z2o S) (dst:Option Tmp) (v:Option (TV S)):(dvM T m).put V nt dst (v.map (dv T))=dvM T (m.put V nt dst v):=by
 unfold Mid.put Z2o.put;cases dst with
 | none=>rfl
 | some d =>
  simp only;cases(!Nat.blt d nt)with
  | true=>rfl
  | false =>
   cases Nat.testBit V d with
   | true=>simp only[jA,jB,dvM,YE]
   | false=>simp only[jA,dvM,Zc6,jv]
theorem ZeW (V nt:Nat) (m:Z2o S) (dst:Option Tmp) (o:ZaP S):({ dvM T m with objs:=Ya (dvM T m).objs (Yd T o).upd }:Mid).put V nt dst (Yd T o).val=dvM T (({ m with objs:=Z4B m.objs o.upd }:Z2o S).put V nt dst o.val):=by
 rw[<-Ze3];simp only[dvM,Yd,Z9M]
theorem Z9a (m:Z2o S):(dvM T m).objs.get=dvh T m.objs.get:=funext fun i=>Yj _ _ _
end
theorem Z5p (V nt:Nat) (m:Z2o S) (dst:Option Tmp) (v:Option (TV S)):(m.put V nt dst v).objs=m.objs:=by
 unfold Z2o.put;cases dst with
 | none=>rfl
 | some d =>
  simp only;cases(!Nat.blt d nt)with
  | true=>rfl
  | false=>cases Nat.testBit V d<;>rfl
theorem ZfQ (V nt:Nat) (m:Z2o S) (dst:Option Tmp) (v:Option (TV S)) (t:Nat) :
  Z1v V (m.put V nt dst v).base (m.put V nt dst v).loc t=if dst=some t/\t<nt then v else Z1v V m.base m.loc t:=by
 unfold Z2o.put;cases dst with
 | none=>simp
 | some d =>
  simp only[Tr.blt_dec]
  by_cases hl:d<nt
  ·simp only[hl,decide_true,Bool.not_true,jA];cases hv:Nat.testBit V d with
   | true =>
    simp only[jB];unfold Z1v
    by_cases e:d=t
    ·subst e;simp[hv,hl,Tr.get_set]
    ·have:¬t=d:=fun h=>e h.symm;simp[e,Tr.get_set,this]
   | false =>
    simp only[jA];unfold Z1v
    by_cases e:d=t
    ·subst e;simp[hv,hl,Z8S]
    ·simp[e,Z8S,Tr.beq_dec]
  ·simp only[hl,decide_false,Bool.not_false,jB]
   by_cases e:d=t
   ·subst e;simp[hl]
   ·simp[e]
def Z9S (kn:List (Nat×Bool)) (ρ:Nat->Option (TV S)):Prop:=∀t b0 b,knF kn t=some b0->ρ t=some (.bool b)->b=b0
theorem Zbq {kn:List (Nat×Bool)} {ρ:Nat->Option (TV S)} (h:Z9S kn ρ):(fun t=>ovK kn t (ρ t))=ρ:=by
 funext t;unfold ovK;cases kn with
 | nil=>rfl
 | cons p l =>
  simp only;cases hv:ρ t with
  | none=>rfl
  | some v =>
   cases v<;>simp only;rename_i b;cases hk:knF (p::l) t with
   | none=>rfl
   | some b0=>rw[h t b0 b hk hv]
theorem Zhx (kn:List (Nat×Bool)) (d t:Nat):knF (Z4T kn (some d)) t=if t=d then none else knF kn t:=by
 unfold Z4T
 induction kn with
 | nil=>simp[knF]
 | cons p l ih =>
  simp only[List.filter_cons]
  by_cases e:p.1=d
  ·subst e;simp only[Tr.beq_dec,decide_true,Bool.not_true,jg,if_false];simp only[Tr.beq_dec]at ih;rw[ih];simp only[knF,Tr.beq_dec]
   by_cases e2:t=p.1
   ·simp[e2]
   ·have:¬p.1=t:=fun h=>e2 h.symm;simp[e2,this]
  ·simp only[Tr.beq_dec]at ih⊢;simp only[e,decide_false,Bool.not_false,if_true,knF,Tr.beq_dec]
   by_cases e2:p.1=t
   ·subst e2;simp[e]
   ·simp only[e2,decide_false,jA];exact ih
theorem Zcy {kn:List (Nat×Bool)} {ρ ρ':Nat->Option (TV S)} {dst:Option Tmp} (h:Z9S kn ρ) (hρ:∀t v,dst≠some t->ρ' t=some v->ρ t=some v):Z9S (Z4T kn dst) ρ':=fun t b0 b a hv=>by
 cases dst with
 | none=>exact h t b0 b a (hρ t _ (by simp) hv)
 | some d =>
  rw[Zhx]at a
  by_cases e:t=d
  ·rw[if_pos e]at a;cases a
  ·rw[if_neg e]at a;exact h t b0 b a (hρ t _ (fun q=>e (by cases q;rfl)) hv)
theorem Z96 {kn:List (Nat×Bool)} {V nt:Nat} {m:Z2o S} {dst:Option Tmp} {v:Option (TV S)} (h:Z9S kn (Z1v V m.base m.loc)):Z9S (Z4T kn dst) (Z1v V (m.put V nt dst v).base (m.put V nt dst v).loc) :=
 Zcy h fun t w a b=>by
  rw[ZfQ,if_neg (fun q=>a q.1)]at b;exact b
theorem Zdk (T:TS S) {ops:Array Oper} {ρ:Nat->Option (TV S)} {o:Oper} {kn:List (Nat×Bool)} (d:Z9S kn ρ) {f:Bool->List (Nat×Bool)->Option R} {r:R} (h:Zfc ops ρ o kn f=some r) :
  ∃want kn',Z1y ops (dvr T ρ) o=some want/\Z9S kn' ρ/\(∀t b,knF kn' t=some b->knF kn t=some b\/ρ t=some (.bool b))/\f want kn'=some r:=by
 unfold Zfc at h;unfold Z1y;split at h
 ·rename_i k;rw[k];exact⟨true,kn,rfl,d,fun t b a=>.inl a,h⟩
 ·rename_i j want k;rw[k];simp only;split at h
  ·rename_i t ht;rw[ht];simp only[dvr];split at h
   ·rename_i b a;rw[a];simp only[jq,dv];have i:Z9S ((t,b)::kn) ρ:=fun t' b0 b' c hv=>by
     simp only[knF,Tr.beq_dec]at c
     by_cases e:t=t'
     ·subst e;simp at c;subst c;rw[a]at hv;cases hv;rfl
     ·simp[e]at c;exact d t' b0 b' c hv
    have g:∀ t' b',knF ((t,b)::kn) t'=some b'->knF kn t'=some b'\/ρ t'=some (.bool b'):=fun t' b' c=>by
     simp only[knF,Tr.beq_dec]at c
     by_cases e:t=t'
     ·subst e;simp at c;subst c;exact .inr a
     ·simp[e]at c;exact .inl c
    cases b with
    | true=>exact⟨_,_,rfl,i,g,h⟩
    | false=>exact⟨_,_,rfl,i,g,h⟩
   ·rename_i v hv l;rw[l];simp only[jq];have:∀b,dv T v≠.bool b:=fun b a=>by
     cases v<;>simp[dv]at a;exact hv _ rfl
    refine⟨false,kn,?_,d,fun t b a=>.inl a,h⟩;split
    ·rename_i b a;injection a with a
     exact absurd a (this _)
    ·rfl
    ·rename_i m;cases m
   ·cases h
  ·cases h
theorem Zek {T:TS S} {E:Env} {ρ:Nat->Option (TV S)} {c:Call} {tgt:TV S×List (TV S)} (h:ZbO E ρ c=some tgt):target E (dvr T ρ) c=some (dv T tgt.1,dvl T tgt.2):=by
 unfold ZbO at h;unfold target;split at h
 ·rename_i f hc;rw[hc];obtain⟨v,b,h⟩:=Z0 h;simp only[ZQ,b,jq,jm];split at h
  ·obtain⟨as,a,h⟩:=Z0 h;cases h;simp only[dv,Z3g,a,jq,jm,Z5U,dvl]
  ·obtain⟨as,a,h⟩:=Z0 h;cases h;simp only[dv,Z3g,a,jq,jm]
  ·cases h
 ·rename_i rv m hc;rw[hc];obtain⟨v,b,h⟩:=Z0 h;simp only[ZQ,b,jq,jm];split at h
  ·obtain⟨ti,a,h⟩:=Z0 h;obtain⟨g,d,h⟩:=Z0 h;obtain⟨as,e,h⟩:=Z0 h;cases h;simp only[dv,a,d,Z3g,e,jq,jm,dvl]
  ·cases h
 ·cases h
theorem Ze1 (T:TS S) (E:Env) (tgt:TV S×List (TV S)):Ze0 E (dv T tgt.1,dvl T tgt.2)=ZeU E tgt:=by
 obtain⟨v,as⟩:=tgt;cases v<;>simp only[dv,Ze0,ZeU];rename_i f a c;cases f<;>rfl
section
variable {X:Yk S} (hX:XOk X) {cs:Z3H S R} (hcs:Z8c X cs)
include hX hcs
theorem Zdc {nid:Nat} {ρ:Nat->Option (TV S)} {h:Nat->Option (Zp S)} {op:Op} {k:Z2n S R} {ki:TV S×List (TV S)->Option R} {r:R} (a:ZaE X cs nid ρ h op k ki=some r) :
  (∃o:ZaP S,Evt (fun n=>Z42 X.E (evF X.E n) nid (dvr X.T ρ) (dvh X.T h) op=some (some (Yd X.T o)))/\Z5P o.upd/\k o=some r) ∨
  (∃c tgt,Z3b op=some c/\(∀call,Z42 X.E call nid (dvr X.T ρ) (dvh X.T h) op=some none)/\target X.E (dvr X.T ρ) c=some (dv X.T tgt.1,dvl X.T tgt.2)/\ki tgt=some r):=by
 unfold ZaE at a;split at a
 ·rename_i hc;obtain⟨o,f,b,e⟩:=Zij hX a;refine .inl ⟨o,Evt.of fun n=>?_,b,e⟩;unfold Z42;rw[hc,f];rfl
 ·rename_i c hc;obtain⟨tgt,f,a⟩:=Z0 a;have b:=Zek (T:=X.T) f;cases hp:ZeU X.E tgt with
  | false =>
   rw[hp]at a;refine .inr ⟨c,tgt,hc,fun call=>?_,b,a⟩;unfold Z42;rw[hc];simp only[b,jm,Ze1,hp,jA]
  | true =>
   rw[hp]at a;simp only[jB]at a;unfold ZhY at a;split at a
   ·rename_i g x y as;obtain⟨fs,e,a⟩:=Z0 a;obtain⟨d,j,a⟩:=hcs.fn _ _ _ _ a;cases hrv:as.any ZeI with
    | true =>
     rw[hrv]at a;simp only[jB]at a;obtain⟨d',l,a⟩:=Z0 a;unfold ZT at a;refine .inl ⟨_,j.mono fun n i=>?_,ZY,a⟩;unfold Z42;rw[hc];simp only[b,jm];rw[show Ze0 X.E (dv X.T (TV.fn (Fn.func g) x y,as).1,dvl X.T (TV.fn (Fn.func g) x y,as).2)=true from(Ze1 X.T X.E _).trans hp];simp only[jB];unfold Z4M;rw[b];simp only[jm,dv,Z7c hX.t,e,jq,i,Z8v,hrv,jB,Zfe l];simp[ret,Yd,dvu]
    | false =>
    rw[hrv]at a;simp only[jA]at a;refine .inl ⟨_,j.mono fun n i=>?_,Z2v _ _,a⟩;unfold Z42;rw[hc];simp only[b,jm];rw[show Ze0 X.E (dv X.T (TV.fn (Fn.func g) x y,as).1,dvl X.T (TV.fn (Fn.func g) x y,as).2)=true from(Ze1 X.T X.E _).trans hp];simp only[jB];unfold Z4M;rw[b];simp only[jm,dv,Z7c hX.t,e,jq,i,Z8v,hrv,jA];simp[Yd,Z6T,Z3Z hX.t]
   ·cases a
omit hcs in
theorem Zey {callH callY:Z2C S R} (o:Z2D X false callH) (q:Z2D X true callY) {path:List Nat} {h:Nat->Option (Zp S)} {nx:Nat} {tgt:TV S×List (TV S)} {k:ZaP S->List Nat->Nat->Option R} {r:R}
  (a:Z6j callH callY path h nx tgt k=some r) (p:∀i,WfL X.E (h i)) :
  ∃x Ts n,Evt (fun m=>YY (evX X.E m false) (evX X.E m true) (dvh X.T h) nx (dv X.T tgt.1,dvl X.T tgt.2)=some (Yd X.T x,Ts,n))/\(∀u∈x.upd,WfL X.E u.2)/\k x Ts n=some r:=by
 have b:∀Rs:List Nat,WfO X.E (Z7B h Rs):=fun Rs=>by
  induction Rs with
  | nil=>intro i;exact trivial
  | cons j Rs ih =>
   simp only[Z7B];exact ih.set (p j)
 unfold Z6j at a;split at a
 ·rename_i g x y as;rw[Z3n]at a;unfold Zhj at a;rw[Z9x,Z3m (fun v k=>Z9y v k)]at a;obtain⟨v,o',n',c,d,a⟩:=o _ _ _ _ _ _ _ a (b _);obtain⟨f,a⟩:=Z3 a;refine⟨_,_,_,c.mono fun m e=>?_,fun u l=>?_,a⟩
  ·simp only[dv,YY,Z3z];rw[Z8V hX.t,Z4p hX.t,Z3i hX.t,Z9G,e];simp only[jm,f,jB,Za8,Z3Z hX.t,Yd,jq]
  ·obtain⟨j,_,rfl⟩:=List.mem_map.1 l;exact d j
 ·rename_i id as;rw[Z3n]at a;unfold Zhj at a;rw[Z9x,Z3m (fun v k=>Z9y v k)]at a;obtain⟨v,o',n',c,d,a⟩:=q _ _ _ _ _ _ _ a (b _);obtain⟨f,a⟩:=Z3 a;refine⟨_,_,_,c.mono fun m e=>?_,fun u l=>?_,a⟩
  ·simp only[dv,YY,Z3z];rw[Z8V hX.t,Z4p hX.t,Z3i hX.t,Z9G,e];simp only[jm,f,jB,Za8,Z3Z hX.t,Yd,jq]
  ·obtain⟨j,_,rfl⟩:=List.mem_map.1 l;exact d j
 ·cases a
omit hX hcs in
theorem ZbN {nid:Nat} {ρ:Nat->Option (TV S)} {h:Nat->Option (Zp S)} {op:Op} {k:Z2n S R} {ki:TV S×List (TV S)->Option R} {r:R} (a:ZaE X cs nid ρ h op k ki=some r) (df:Bool) (ρ':Nat->Option DV):Z5k X.E df ρ' op=false:=by
 cases op with
 | defer c=>simp[ZaE,Z3b,opK]at a
 | _=>rfl
theorem Z8o {df:Bool} {callH callY:Z2C S R} (j:Z2D X false callH) (i:Z2D X true callY) {path:List Nat} {V nt:Nat} {ops:Array Oper} {b:Nat} :
  ∀(os:List Oper) (k:Nat) (kn:List (Nat×Bool)) (m:Z2o S) (kk:Z2o S->Option R) (r:R),ZfN X cs callH callY path V nt ops b k os kn m kk=some r->Z9S kn (Z1v V m.base m.loc)->WfO X.E m.objs →
   ∃m',Evt (fun n=>Z2N X.E df (evF X.E n) (evX X.E n false) (evX X.E n true) V nt ops b k os (dvM X.T m)=some (dvM X.T m'))/\WfO X.E m'.objs/\kk m'=some r
 | [],k,kn,m,kk,r,h,_,hw=>⟨m,Evt.of fun _=>rfl,hw,h⟩
 | o::os,k,kn,m,kk,r,h,hkn,hw=>by
  simp only[ZfN]at h;rw[Zbq hkn]at h;obtain⟨want,kn',u,a,_,h⟩:=Zdk X.T hkn h;cases want with
  | false =>
   simp only[jA]at h;obtain⟨m',f,g,s⟩:=Z8o j i os (k+1) _ _ kk r h (Z96 a) (by rw[Z5p];exact hw)
   refine⟨m',f.mono fun n d=>?_,g,s⟩;simp only[Z2N];have e1:ZZ V (dvM X.T m).base (dvM X.T m).loc=dvr X.T (Z1v V m.base m.loc):=ZbM X.T V m.base m.loc;rw[e1,u];simp only[jm,jA];have e2:=Ze3 X.T V nt m o.dst (some (.tup []));simp only[jq,dv,dvl]at e2;rw[e2];exact d
  | true =>
   simp only[jB]at h;rw[Zbq a]at h;have e1:ZZ V (dvM X.T m).base (dvM X.T m).loc=dvr X.T (Z1v V m.base m.loc):=ZbM X.T V m.base m.loc;have e:=ZbN h df;rcases Zdc hX hcs h with⟨q,f,g,h⟩|⟨c,tgt,f,g,s,h⟩
   ·obtain⟨m',p,t,l⟩:=Z8o j i os (k+1) _ _ kk r h (Z96 (m:={ m with objs:=Z4B m.objs q.upd }) a) (by rw[Z5p];exact hw.upd g)
    refine⟨m',(f.and p).mono fun n d=>?_,t,l⟩;simp only[Z2N];rw[e1,u];simp only[jm,jB,Z9a,e,jA];rw[d.1];simp only[jm];rw[ZeW];exact d.2
   ·obtain⟨x,Ts,nn,p,t,h⟩:=Zey hX j i h hw;obtain⟨m',l,w,v⟩:=Z8o j i os (k+1) _ _ kk r h (Z96 (m:={ m with objs:=Z4B m.objs x.upd,next:=nn }) a) (by rw[Z5p];exact hw.updW t)
    refine⟨m',(p.and l).mono fun n d=>?_,w,v⟩;simp only[Z2N];rw[e1,u];simp only[jm,jB,Z9a,e,jA,g,f,s];have e5:YY (evX X.E n false) (evX X.E n true) (dvh X.T m.objs.get) (dvM X.T m).next (dv X.T tgt.1,dvl X.T tgt.2)=some (Yd X.T x,Ts,nn):=d.1;rw[e5];simp only[jm];have e2:=Ze3 X.T V nt { m with objs:=Z4B m.objs x.upd,next:=nn } o.dst x.val
    have e4:({ dvM X.T m with objs:=Ya (dvM X.T m).objs (Yd X.T x).upd,next:=nn }:Mid)=dvM X.T { m with objs:=Z4B m.objs x.upd,next:=nn }:=by
     simp only[dvM,Yd,Z9M]
    rw[e4];have e6:(Yd X.T x).val=x.val.map (dv X.T):=rfl;rw[e6,e2];exact d.2
end
end Go.Ab
namespace Go.Ab
variable {S:Nat->Type} {R:Type}
def dvD (T:TS S) (d:Z1n S):YJ:=⟨d.dst,d.anc,d.touch,Yd T d.out,d.new⟩
def Z12 (T:TS S) (ds:List (Nat×Z1n S)):List (Nat×YJ):=ds.map fun p=>(p.1,dvD T p.2)
section
variable {T:TS S} (hT:TOk T)
include hT
theorem Zh4 (ρ:Nat->Option (TV S)) (op:Op):touch (dvr T ρ) op=Z9I ρ op:=by
 unfold touch Z9I;congr 1;funext x;rw[ZQ];cases ZX ρ x with
 | none=>rfl
 | some v=>exact Zb8 hT v
omit hT in
theorem Zf6 (anc:Nat) (ρ:Nat->Option (TV S)):∀(ds:List (Nat×Z1n S)) (t:Nat),Z6e anc (dvr T ρ) (Z12 T ds) t=(Z3y anc ρ ds t).map (dv T)
 | [],t=>rfl
 | (j,d)::ds,t=>by
  have ih:=Zf6 anc ρ ds t;show Z6e anc (dvr T ρ) ((j,dvD T d)::Z12 T ds) t=_;simp only[Z6e,Z3y,dvD];rw[ih];cases d.dst with
  | none=>rfl
  | some s =>
   simp only;cases Nat.beq s t with
   | true =>
    simp only[jB];cases Nat.testBit anc j<;>rfl
   | false=>rfl
omit hT in
theorem Z8p (id:Nat):∀(u:List (Nat×Option (Zp S))),Zw id (dvu T u)=(Z3r id u).map (Option.map (dvO T))
 | []=>rfl
 | (i,x)::u=>by
  have ih:=Z8p id u;unfold dvu at ih;simp only[dvu,jv,Zw,Z3r,ih];cases Z3r id u with
  | some y=>rfl
  | none =>
   simp only[Option.map_none];cases Nat.beq i id<;>rfl
omit hT in
theorem Zd5 (anc:Nat) (h:Nat->Option (Zp S)):∀(ds:List (Nat×Z1n S)),Z5L anc (dvh T h) (Z12 T ds)=dvh T (Z4s anc h ds)
 | []=>rfl
 | (j,d)::ds=>by
  funext id;have ih:=congrFun (Zd5 anc h ds) id;unfold Z12 at ih;simp only[Z12,jv,Z5L,dvD,Yd,Z8p];show _=(Z4s anc h ((j,d)::ds) id).map (dvO T);simp only[Z4s];cases Z3r id d.out.upd with
  | none=>exact ih
  | some x =>
   simp only[jq];cases Nat.testBit anc j<;>rfl
omit hT in
theorem Z4H (ops:Array Oper) (ds:List (Nat×Z1n S)) (o:Oper) (k:Nat):Z1O ops (Z12 T ds) o k=Z4G ops ds o k:=by
 unfold Z1O Z4G;congr 1;funext m e;have:((Z12 T ds).find? (fun d=>Nat.beq d.1 e.on)).map (·.2.anc)=(ds.find? (fun d=>Nat.beq d.1 e.on)).map (·.2.anc):=by
  unfold Z12;rw[List.find?_map,Option.map_map];rfl
 rw[this]
omit hT in
theorem Zap (V nt:Nat):∀(ds:List (Nat×Z1n S)) (m:Z2o S),YV V nt (Z12 T ds) (dvM T m)=dvM T (Z4l V nt ds m)
 | [],m=>rfl
 | (j,d)::ds,m=>by
  have ih:=Zap V nt ds m;unfold Z12 at ih;simp only[Z12,jv,YV,Z4l,ih];exact ZeW T V nt (Z4l V nt ds m) d.dst d.out
end
def Zi8 (E:Env) (ds:List (Nat×Z1n S)):Prop:=∀p∈ds,∀u∈p.2.out.upd,WfL E u.2
theorem Zaq {E:Env} {V nt:Nat}:∀{ds:List (Nat×Z1n S)} {m:Z2o S},Zi8 E ds->WfO E m.objs->WfO E (Z4l V nt ds m).objs
 | [],_,_,h=>h
 | (j,d)::ds,m,hd,h=>by
  simp only[Z4l];rw[Z5p];exact(Zaq (fun p a=>hd p (by simp[a])) h).updW (hd (j,d) (by simp))
theorem Z6f {ρ:Nat->Option (TV S)} {a a':Nat} {v v':TV S}:∀{ds:List (Nat×Z1n S)} {t:Nat},Z3y a ρ ds t=some v->Z3y a' ρ ds t=some v'->v=v'
 | [],t,h,h'=>by simp only[Z3y]at h h';rw[h]at h';cases h';rfl
 | (j,d)::ds,t,h,h'=>by
  simp only[Z3y]at h h';cases hd:d.dst with
  | none =>
   rw[hd]at h h';exact Z6f h h'
  | some s =>
   rw[hd]at h h';simp only at h h';cases hm:Nat.beq s t with
   | true =>
    rw[hm]at h h';simp only[jB]at h h';cases h1:Nat.testBit a j with
    | false=>rw[h1]at h;cases h
    | true=>cases h2:Nat.testBit a' j with
     | false=>rw[h2]at h';cases h'
     | true=>rw[h1]at h;rw[h2]at h';simp only[jB]at h h';rw[h]at h';cases h';rfl
   | false =>
    rw[hm]at h h';exact Z6f h h'
def KnD (kn:List (Nat×Bool)) (ρ:Nat->Option (TV S)) (ds:List (Nat×Z1n S)):Prop:=∀anc,Z9S kn (Z3y anc ρ ds)
theorem Z95 {kn:List (Nat×Bool)} {ρ:Nat->Option (TV S)} {ds:List (Nat×Z1n S)} {j:Nat} {d:Z1n S} (h:KnD kn ρ ds):KnD (Z4T kn d.dst) ρ ((j,d)::ds):=fun anc =>
 Zcy (h anc) fun t v a hv=>by
  simp only[Z3y]at hv;cases hd:d.dst with
  | none=>rw[hd]at hv;exact hv
  | some s =>
   rw[hd]at hv;have b:Nat.beq s t=false:=by
    simp only[Tr.beq_dec,decide_eq_false_iff_not];intro e;subst e;exact a hd
   simp only[b,jA]at hv;exact hv
theorem Z3K {α:Type} {c:Bool} {x y:α} (h:c=true):(bif c then x else y)=x:=by rw[h];rfl
theorem ZaU {T:TS S} {ops:Array Oper} {ds:List (Nat×Z1n S)} {o:Oper} {k nt:Nat}
  (hc:(o.after.all (fun e => !Region.binds .any e||Nat.blt e.on k)&&(match o.dst with|none=>true|some t=>Nat.blt t nt)&&ds.all (fun d=>Nat.testBit (Z4G ops ds o k) d.1||(match o.dst with
    | none=>true
    | some t => !((ops.getD d.1 o).looksAt ops).contains t && !(match d.2.dst with|some s=>Nat.beq s t|none=>false))))=true) :
  (o.after.all (fun e => !Region.binds .any e||Nat.blt e.on k)&&(match o.dst with|none=>true|some t=>Nat.blt t nt)&&(Z12 T ds).all (fun d=>Nat.testBit (Z1O ops (Z12 T ds) o k) d.1||(match o.dst with
    | none=>true
    | some t => !((ops.getD d.1 o).looksAt ops).contains t && !(match d.2.dst with|some s=>Nat.beq s t|none=>false))))=true:=by
 refine Eq.trans ?_ hc;rw[Z4H];congr 1;have:∀f:Nat×YJ->Bool,(Z12 T ds).all f=ds.all fun p=>f (p.1,dvD T p.2):=fun f=>by
  unfold Z12;rw[List.all_map];rfl
 rw[this];rfl
section
variable {X:Yk S} (hX:XOk X) {cs:Z3H S R} (hcs:Z8c X cs)
include hX hcs
omit hX hcs in
theorem Zd6 {anc:Nat} {h:Nat->Option (Zp S)} (b:∀i,WfL X.E (h i)):∀{ds:List (Nat×Z1n S)},Zi8 X.E ds->∀i,WfL X.E (Z4s anc h ds i)
 | [],_,i=>b i
 | (j,d)::ds,hd,i=>by
  simp only[Z4s];have ih:=Zd6 (anc:=anc) b (ds:=ds) (fun p e=>hd p (by simp[e])) i
  cases hq:Z3r i d.out.upd with
  | none=>exact ih
  | some x =>
   simp only;cases Nat.testBit anc j with
   | false=>trivial
   | true =>
    obtain⟨u,a,rfl⟩:∃u∈d.out.upd,u.2=x:=by
     have key:∀(us:List (Nat×Option (Zp S))),Z3r i us=some x->∃u∈us,u.2=x:=by
      intro us
      induction us with
      | nil=>intro h;cases h
      | cons u us ihu =>
       obtain⟨i',y⟩:=u;intro h;simp only[Z3r]at h;cases hu:Z3r i us with
       | some z =>
        rw[hu]at h;cases h;obtain⟨v,a,c⟩:=ihu hu;exact⟨v,by simp[a],c⟩
       | none =>
        rw[hu]at h;simp only at h;cases hb:Nat.beq i' i with
        | false=>rw[hb]at h;cases h
        | true=>rw[hb]at h;cases h;exact⟨(i',x),by simp,rfl⟩
     exact key _ hq
    exact hd (j,d) (by simp) u a
theorem Z6l {callH callY:Z2C S R} (w:Z2D X false callH) (v:Z2D X true callY) {path:List Nat} {V nt:Nat} {ops:Array Oper} {b:Nat} :
  ∀(os:List Oper) (k:Nat) (kn:List (Nat×Bool)) (m:Z2o S) (ds:List (Nat×Z1n S)) (kk:Z2o S->Option R) (r:R),Z8H X cs callH callY path V nt ops b k os kn m ds kk=some r->KnD kn (Z1v V m.base m.loc) ds->Zi8 X.E ds->WfO X.E m.objs →
   ∃m',Evt (fun n=>Z19 X.E (evF X.E n) (evX X.E n false) (evX X.E n true) V nt ops b k os (dvM X.T m) (Z12 X.T ds)=some (dvM X.T m'))/\WfO X.E m'.objs/\kk m'=some r
 | [],k,kn,m,ds,kk,r,h,_,hd,hw=>by
  simp only[Z8H]at h;exact⟨_,Evt.of fun _=>by simp only[Z19,Zap],Zaq hd hw,h⟩
 | o::os,k,kn,m,ds,kk,r,h,hkn,hd,hw=>by
  simp only[Z8H]at h;obtain⟨hc,h⟩:=Z3 h;rw[Zbq (hkn _)]at h;obtain⟨want,kn',h1,hkn1,l,h⟩:=Zdk X.T (hkn _) h;have a:KnD kn' (Z1v V m.base m.loc) ds:=fun anc t b0 b' hk hv=>by
   rcases l t b0 hk with j|j
   ·exact hkn anc t b0 b' j hv
   ·have:=Z6f j hv;cases this;rfl
  have e1:ZZ V (dvM X.T m).base (dvM X.T m).loc=dvr X.T (Z1v V m.base m.loc):=ZbM X.T V m.base m.loc;have e2:Z6e (Z1O ops (Z12 X.T ds) o k) (ZZ V (dvM X.T m).base (dvM X.T m).loc) (Z12 X.T ds)=dvr X.T (Z3y (Z4G ops ds o k) (Z1v V m.base m.loc) ds):=by
   rw[e1,Z4H];exact funext fun t=>Zf6 _ _ ds t
  have e3:Z5L (Z1O ops (Z12 X.T ds) o k) (dvM X.T m).objs.get (Z12 X.T ds)=dvh X.T (Z4s (Z4G ops ds o k) m.objs.get ds):=by
   rw[Z9a,Z4H];exact Zd5 _ _ ds
  cases want with
  | false =>
   simp only[jA]at h;obtain⟨m',j,s,h4⟩:=Z6l w v os (k+1) _ m _ kk r h (Z95 (d:=⟨o.dst,Z4G ops ds o k,[],⟨some (.tup []),[]⟩,none⟩) a)
    (fun p c=>by
     rcases jr.1 c with e|c
     ·subst e;intro u hu;cases hu
     ·exact hd p c) hw
   refine⟨m',j.mono fun n i=>?_,s,h4⟩;simp only[Z19];refine(Z3K (ZaU hc)).trans ?_;simp only[e2,h1,jm,jA];have e4:Z12 X.T ((k,⟨o.dst,Z4G ops ds o k,[],⟨some (.tup []),[]⟩,none⟩)::ds)=(k,⟨o.dst,Z1O ops (Z12 X.T ds) o k,[],⟨some (.tup []),[]⟩,none⟩)::Z12 X.T ds:=by
    rw[Z4H];simp[Z12,dvD,Yd,dv,dvl,dvu]
   rw[e4]at i;exact i
  | true =>
   simp only[jB]at h;rw[Zbq (a _)]at h;have e9:∀(up:List (Nat×Option (Zp S))) (f:Z1n S->Bool) (g:YJ->Bool),(∀d,g (dvD X.T d)=f d) →
     (Z12 X.T ds).all (fun d=>Nat.testBit (Z1O ops (Z12 X.T ds) o k) d.1||g d.2&&(dvu X.T up).all (fun u => !d.2.touch.contains u.1&&(Zw u.1 d.2.out.upd).isNone)) =
     ds.all (fun d=>Nat.testBit (Z4G ops ds o k) d.1||f d.2&&up.all (fun u => !d.2.touch.contains u.1&&(Z3r u.1 d.2.out.upd).isNone)):=fun up f g hfg=>by
    rw[Z4H];simp only[Z12,List.all_map];congr 1;funext d;simp only[Function.comp,dvD,dvu,List.all_map];have:=hfg d.2;simp only[dvD]at this;rw[this];congr 2;congr 1;funext u;simp only[Function.comp,Yd,Z8p];cases Z3r u.1 d.2.out.upd<;>rfl
   rcases Zdc hX hcs h with⟨q,j,s,h⟩|⟨cl,tgt,j,s,h4,h⟩
   ·obtain⟨h5,h⟩:=Z3 h;obtain⟨m',h6,y,h8⟩:=Z6l w v os (k+1) _ m _ kk r h (Z95 (d:=⟨o.dst,Z4G ops ds o k,Z9I (Z3y (Z4G ops ds o k) (Z1v V m.base m.loc) ds) o.op,q,none⟩) a)
     (fun p c=>by
      rcases jr.1 c with e|c
      ·subst e;exact fun u hu=>Z9O (s u hu)
      ·exact hd p c) hw
    refine⟨m',(j.and h6).mono fun n i=>?_,y,h8⟩;simp only[Z19];refine(Z3K (ZaU hc)).trans ?_;simp only[e2,e3,h1,jm,jB];rw[i.1];simp only[jm];have h9:(Yd X.T q).upd.all (fun u=>(Z12 X.T ds).all (fun d=>Nat.testBit (Z1O ops (Z12 X.T ds) o k) d.1 || !d.2.touch.contains u.1&&(Zw u.1 d.2.out.upd).isNone))=true:=by
     rw[<-h5,Z4H];simp only[Yd,dvu,Z12,List.all_map];congr 1;funext u;simp only[Function.comp];congr 1;funext d;simp only[Function.comp,dvD,Yd,Z8p];cases Z3r u.1 d.2.out.upd<;>rfl
    rw[h9];simp only[jB];have e4:Z12 X.T ((k,⟨o.dst,Z4G ops ds o k,Z9I (Z3y (Z4G ops ds o k) (Z1v V m.base m.loc) ds) o.op,q,none⟩)::ds)=(k,⟨o.dst,Z1O ops (Z12 X.T ds) o k,touch (dvr X.T (Z3y (Z4G ops ds o k) (Z1v V m.base m.loc) ds)) o.op,Yd X.T q,none⟩)::Z12 X.T ds:=by
     rw[Z4H,Zh4 hX.t];simp[Z12,dvD]
    rw[<-e4];exact i.2
   ·obtain⟨x,Ts,nn,h5,h6,h⟩:=Zey hX w v h (Zd6 hw hd);obtain⟨y,h⟩:=Z3 h;obtain⟨m',h8,h9,h10⟩:=Z6l w v os (k+1) _ { m with next:=nn } _ kk r h (Z95 (d:=⟨o.dst,Z4G ops ds o k,Ts,x,some (m.next,nn)⟩) a)
     (fun p c=>by
      rcases jr.1 c with e|c
      ·subst e;exact h6
      ·exact hd p c) hw
    refine⟨m',(h5.and h8).mono fun n i=>?_,h9,h10⟩;simp only[Z19];refine(Z3K (ZaU hc)).trans ?_;simp only[e2,e3,h1,jm,jB,s,j,h4];have e5:YY (evX X.E n false) (evX X.E n true) (dvh X.T (Z4s (Z4G ops ds o k) m.objs.get ds)) (dvM X.T m).next (dv X.T tgt.1,dvl X.T tgt.2)=some (Yd X.T x,Ts,nn):=i.1;rw[e5];simp only[jm];have z:=e9 x.upd (fun d=>d.new.isNone) (fun d=>d.new.isNone) (fun d=>rfl);refine(Z3K (z.trans y)).trans ?_;have e4:Z12 X.T ((k,⟨o.dst,Z4G ops ds o k,Ts,x,some (m.next,nn)⟩)::ds)=(k,⟨o.dst,Z1O ops (Z12 X.T ds) o k,Ts,Yd X.T x,some ((dvM X.T m).next,nn)⟩)::Z12 X.T ds:=by
     rw[Z4H];simp[Z12,dvD,dvM]
    rw[e4]at i;exact i.2
theorem Ze5 {df:Bool} {callH callY:Z2C S R} (g:Z2D X false callH) (j:Z2D X true callY) {path:List Nat} {V nt:Nat} {ops:Array Oper} {draw:Bool} {s:StT S} {kk:StT S->Option R} {r:R}
  (h:Zbu X cs callH callY path V nt ops draw s kk=some r) (i:WfO X.E s.objs) :
  ∃s',Evt (fun n=>Z2r X.E df (evF X.E n) (evX X.E n false) (evX X.E n true) V nt ops draw (Y3 X.T s)=some (Y3 X.T s'))/\WfO X.E s'.objs/\kk s'=some r:=by
 unfold Zbu at h;cases draw with
 | true =>
  simp only[jB]at h;obtain⟨m',b,d,a⟩:=Z6l hX hcs g j _ 0 [] ⟨s.base,[],s.objs,s.next+ops.size⟩ [] _ r h (fun _ _ _ _ f _=>by cases f) (fun _ k=>by cases k) i
  rw[ZgX]at a;refine⟨⟨m'.base,m'.objs,m'.next⟩,b.mono fun n c=>?_,d,a⟩;unfold Z2r;simp only[jB];have e:Z19 X.E (evF X.E n) (evX X.E n false) (evX X.E n true) V nt ops (Y3 X.T s).next 0 ops.toList ⟨(Y3 X.T s).base,[],(Y3 X.T s).objs,(Y3 X.T s).next+ops.size⟩ []=some (dvM X.T m'):=c;rw[e];rfl
 | false =>
  simp only[jA]at h;obtain⟨m',b,d,a⟩:=Z8o hX hcs (df:=df) g j _ 0 [] ⟨s.base,[],s.objs,s.next+ops.size⟩ _ r h (fun _ _ _ f _=>by cases f) i
  rw[ZgX]at a;refine⟨⟨m'.base,m'.objs,m'.next⟩,b.mono fun n c=>?_,d,a⟩;unfold Z2r;simp only[jA];have e:Z2N X.E df (evF X.E n) (evX X.E n false) (evX X.E n true) V nt ops (Y3 X.T s).next 0 ops.toList ⟨(Y3 X.T s).base,[],(Y3 X.T s).objs,(Y3 X.T s).next+ops.size⟩=some (dvM X.T m'):=c;rw[e];rfl
end
end Go.Ab
namespace Go.Ab
variable {S:Nat->Type} {R:Type}
section
variable (T:TS S)
theorem Z8B (hT:TOk T) {cs:List (TV S)} {off:Nat} {o:Option (TV S)} (h:ZaT T cs off=some o):(o=none/\(dvs T cs)[off]? = none)\/(∃c d,o=some c/\(dvs T cs)[off]? = some d/\((Y1 c=false/\d=dv T c)\/(c=.bool false/\plain d=true))):=by
 unfold ZaT at h;obtain⟨r,f,h⟩:=Z0 h;obtain⟨j,i⟩:=Z1D hT f;have e:(dvs T cs)[off]?=(dvs T r)[0]? := by rw[<-i];simp
 cases r with
 | nil=>cases h;exact .inl ⟨rfl,by rw[e,Z8f];rfl⟩
 | cons c r =>
  simp only at h;cases ha:Y1 c with
  | true =>
   rw[ha]at h;obtain⟨a,h⟩:=Z3 h;cases h;rw[jn]at a;obtain⟨b,a⟩:=a;have a:0<wd T c:=by simpa[Tr.blt_dec]using a
   rw[<-Z32 hT c]at a;refine .inr ⟨_,(Yc T c)[0],rfl,?_,.inr ⟨rfl,?_⟩⟩
   ·rw[e,ZB,List.getElem?_append_left a,List.getElem?_eq_getElem a]
   ·have g:(Yc T c).all plain=true:=by
     cases c<;>simp only[ZiC,jg]at b
     ·exact Ys hT _ _ _
     ·exact hT.plain _ _
    exact List.all_eq_true.1 g _ (jo a)
  | false =>
   rw[ha]at h;cases h;refine .inr ⟨c,dv T c,rfl,?_,.inl ⟨ha,rfl⟩⟩;rw[e,ZB];cases c<;>simp[Yc,Y1]at ha⊢
theorem Zha (hT:TOk T) {o:Tr (Zp S)} {b:Tr (TV S)} {a:Acc} {x:Option (Nat×Nat)} (h:Zh9 T o b a=some x):Z5R (o.mapv (dvO T)) (b.mapv (dv T)) a=x:=by
 cases a with
 | slot t e =>
  simp only[Zh9]at h;simp only[Z5R,Yj];cases hb:b.get t with
  | none=>rw[hb]at h;cases h;rfl
  | some v =>
   rw[hb]at h;cases v<;>simp only[jh]at h<;>subst h<;>simp[dv]
 | cell t off e =>
  simp only[Zh9]at h;simp only[Z5R,Yj];cases hb:b.get t with
  | none=>rw[hb]at h;cases h;rfl
  | some v =>
   rw[hb]at h;cases v with
   | ptr q p =>
    cases p with
    | zero =>
     simp only[jq,dv];simp only at h;cases ho:o.get q with
     | none=>rw[ho]at h;cases h;rfl
     | some ob =>
      rw[ho]at h;cases ob with
      | cells ct cs =>
       simp only at h;simp only[jq,dvO];obtain⟨oc,i,h⟩:=Z0 h;rcases Z8B T hT i with⟨rfl,f⟩|⟨c,d,rfl,f,g⟩
       ·rw[f];cases h;rfl
       ·rw[f];rcases g with⟨_,rfl⟩|⟨rfl,g⟩
        ·cases c<;>simp only[jh]at h<;>subst h<;>simp[dv]
        ·cases h;cases d<;>simp[plain]at g<;>rfl
      | _=>simp only[jh]at h;subst h;simp[dvO]
    | succ p=>simp only[jh]at h;subst h;simp[dv]
   | ap=>cases h
   | _=>simp only[jh]at h;subst h;simp[dv]
theorem ZbT (hT:TOk T) {o:Tr (Zp S)} {b:Tr (TV S)}:∀{as:List Acc} {L:List (Option (Nat×Nat))},Zeq T o b as=some L->as.map (Z5R (o.mapv (dvO T)) (b.mapv (dv T)))=L
 | [],L,h=>by cases h;rfl
 | a::as,L,h=>by
  simp only[Zeq]at h;obtain⟨x,c,h⟩:=Z0 h;obtain⟨xs,d,h⟩:=Z0 h;cases h;rw[jv,Zha T hT c,ZbT hT d]
end
theorem Z9E:∀(cs:List DV) (off:Nat) (v:DV),off<cs.length->Yg cs off [v]=cs.set off v
 | [],off,v,h=>by simp at h
 | c::cs,0,v,h=>by cases cs<;>simp[Yg]
 | c::cs,n+1,v,h=>by
  simp only[Yg,List.set_cons_succ];rw[Z9E cs n v (by simpa using h)]
theorem Z5H:∀(a b:List DV),YP (a++b)=YP a++YP b
 | [],b=>by simp[YP]
 | c::a,b=>by simp only[List.cons_append,YP,Z5H a b,jj]
theorem Z50:∀{cs:List DV},cs.all plain=true->YP cs=[]
 | [],_=>rfl
 | c::cs,h=>by
  simp only[jt,jn]at h;simp only[YP,Z50 h.2,jp];cases c<;>simp[plain,YG]at h⊢
theorem Z6o {pid:Nat}:∀{l:List DV},l.all (Z4S pid)=true->YP l=[]
 | [],_=>rfl
 | d::l,h=>by
  simp only[jt,jn]at h;rcases Z1z h.1 with rfl|⟨t,rfl⟩<;>simp[YP,YG,Z6o h.2]
section
variable {T:TS S} (hT:TOk T)
include hT
mutual
theorem Z6I:∀v:TV S,YG (dv T v)=YR v
 | .rs _ _=>by simp[dv,YG,YR]
 | .rv _ _ _ _ _=>by simp[dv,YG,YR] | .slen _=>by simp[dv,YG,YR]
 | .agg cs=>by simp only[dv,YG,YR];exact Z9l cs
 | .tup cs=>by simp only[dv,YG,YR];exact Z6J cs
 | .fn _ a c=>by simp only[dv,YG,YR,Z6J a,Z6J c]
 | .iface _ v=>by simp only[dv,YG,YR];exact Z6I v
 | .bool _=>rfl | .int _ _=>rfl | .str _=>rfl | .nilp=>rfl | .nils=>rfl
 | .sl0=>by simp[dv,YG,YR] | .sl _ _=>by simp[dv,YG,YR]
 | .arr _ _ _=>by simp[dv,YG,YR] | .stc _ _=>by simp[dv,YG,YR]
 | .earr _ _ _ _=>by simp only[dv,YG,YR];exact Z6o (YC _ _ _ _)
 | .narr _ _=>by simp only[dv,YG,YR];exact Z6o (Z1c 0 _)
 | .ptr _ _=>by simp[dv,YG,YR] | .ap _ _ _ _ _=>by simp[dv,YG,YR] | .rptr _ _ _ _ _=>by simp[dv,YG,YR]
 | .pub _=>by simp[dv,YG,YR] | .map _=>by simp[dv,YG,YR] | .iter _=>by simp[dv,YG,YR] | .yld _=>by simp[dv,YG,YR]
 | .nilfn=>by simp[dv,YG,YR] | .nilmap=>by simp[dv,YG,YR] | .nilif=>by simp[dv,YG,YR]
theorem Z9l:∀cs:List (TV S),YP (dvs T cs)=Z2J cs
 | []=>by simp[dvs,YP,Z2J]
 | c::cs=>by
  rw[ZB,Z5H,Z2J,Z9l cs];have h:=Z6I c;cases c<;>simp only[Yc,YP,jp]<;>first|rw[h]|skip
  ·rw[Z50 (Ys hT _ _ _)];rfl
  ·rw[Z50 (hT.plain _ _)];rfl
  ·rw[Z6o (YC _ _ _ _)];rfl
  ·rw[Z6o (Z1c 0 _)];rfl
theorem Z6J:∀cs:List (TV S),YP (dvl T cs)=Z2J cs
 | []=>by simp[dvl,YP,Z2J]
 | c::cs=>by simp only[dvl,YP,Z2J,Z6I c,Z6J cs]
end
theorem ZgO (o:Zp S):ZgN (dvO T o)=Ze4 o:=by
 cases o<;>simp only[dvO,ZgN,Ze4]
 ·exact Z9l hT _
 ·rw[Z23,List.flatMap_map];congr 1;funext p;exact Z6I hT p.2
theorem Zgn (o:Tr (Zp S)) (b:Tr (TV S)) (n0 keep:Nat) (A:List (Option (Nat×Nat))):Zb3 (o.mapv (dvO T)) (b.mapv (dv T)) n0 keep A=Zb4 o b n0 keep A:=by
 unfold Zb3 Zb4;have e1:Ze9 (o.mapv (dvO T)).get=ZbF o.get:=by
  funext p;unfold Ze9 ZbF;rw[Yj];cases o.get p.1 with
  | none=>rfl
  | some x=>cases x<;>rfl
 rw[e1,Z23,Z23,List.flatMap_map,List.flatMap_map];congr 2
 ·congr 1;funext p;simp only[ZgO hT]
 ·congr 1;funext p;simp only[Z6I hT]
end
theorem ZiP {E:Env} {g:Nat->Zp S->Option (Option (Zp S))} {t t':Tr (Zp S)} (h:t.tm g 1 0=some t') (c:WfO E t) (d:∀k x y,g k x=some y->WfL E (some x)->WfL E y):WfO E t':=fun i=>by
 rcases Tr.tm_get1 h i with⟨_,a⟩|⟨x,y,b,a,e⟩
 ·rw[a];trivial
 ·rw[e];have:=c i;rw[b]at this;exact d i x y a this
section
variable {X:Yk S} (hX:XOk X)
include hX
theorem ZgP {n0:Nat} {L:List (Option (Nat×Nat))} {x y:Zp S} (h:Zau n0 L x=some y):Z3E n0 L (dvO X.T x)=some (dvO X.T y):=by
 cases x with
 | cells t cs =>
  simp only[Zau]at h;obtain⟨cs',a,h⟩:=Z0 h;cases h;simp only[dvO,Z3E,Z9n hX.t _ _ _ _ a,jm]
 | loop fid b ps as bo bid ex pa po =>
  simp only[Zau]at h;obtain⟨b',a,h⟩:=Z0 h;cases h;simp only[dvO,Z3E];have:=Z6C (dv X.T) (fun _ d=>(Z3j n0 L d).bind fun d=>some (some d)) (fun _ d=>(ren n0 L d).bind fun d=>some (some d)) (fun k x y c=>by
   obtain⟨z,e,f⟩:=Z0 c;cases f;simp only[Zbw hX.t _ _ _ _ e,jm,jq]) b 1 0 b' a
  rw[this];rfl
 | row=>cases h;rfl
 | map=>cases h;rfl
 | siter=>cases h;rfl
theorem Z4F {o:Tr (Zp S)} {n0:Nat}:∀{L:List (Option (Nat×Nat))} {j:Nat} {no r:Tr (Zp S)},Z3J o n0 j L no=some r->WfO X.E no->Z2c (o.mapv (dvO X.T)) n0 j L (no.mapv (dvO X.T))=some (r.mapv (dvO X.T))/\WfO X.E r
 | [],j,no,r,h,hw=>by cases h;exact⟨rfl,hw⟩
 | none::L,j,no,r,h,hw=>by simp only[Z3J]at h;simp only[Z2c];exact Z4F h hw
 | some (id,v)::L,j,no,r,h,hw=>by
  simp only[Z3J]at h;simp only[Z2c,Yj];cases ho:o.get id with
  | none=>rw[ho]at h;cases h
  | some ob =>
   rw[ho]at h;cases ob<;>simp only[reduceCtorEq]at h;rename_i e t es p u;obtain⟨b,h⟩:=Z3 h;obtain⟨a,c⟩:=Z4F h (hw.set (x:=some (.row e t es p 0)) trivial);simp only[jq,dvO,b,jB];rw[YE]at a;exact⟨a,c⟩
theorem Yl {n0:Nat}:∀{as:List Acc} {j:Nat} {b:Tr (TV S)} {no:Tr (Zp S)} {r:Tr (TV S)×Tr (Zp S)},Z13 X n0 j as (b,no)=some r->WfO X.E no →
  Ym X.E n0 j as (b.mapv (dv X.T),no.mapv (dvO X.T))=some (r.1.mapv (dv X.T),r.2.mapv (dvO X.T))/\WfO X.E r.2
 | [],j,b,no,r,h,hw=>by cases h;exact⟨rfl,hw⟩
 | .slot t e::as,j,b,no,r,h,hw=>by
  simp only[Z13]at h;simp only[Ym,Yj];cases hb:b.get t with
  | none=>rw[hb]at h;exact Yl h hw
  | some v =>
   rw[hb]at h;cases v with
   | nils =>
    simp only at h;obtain⟨ei,o,h⟩:=Z0 h;obtain⟨te,g,h⟩:=Z0 h;obtain⟨a,h⟩:=Z3 h;obtain⟨m,l⟩:=Yl h (hw.set (x:=some (.row e te [] 0 0)) trivial);simp only[jq,dv,o,jm];have n:(Nat.blt 0 ei.size&&(Option.map (dvO X.T) (no.get (n0+j))).isNone)=true:=by
     rw[<-a];cases no.get (n0+j)<;>rfl
    rw[n];simp only[jB];rw[YE,YE]at m;exact⟨m,l⟩
   | _=>simp only[jq,dv];exact Yl h hw
 | .cell t off e::as,j,b,no,r,h,hw=>by
  simp only[Z13]at h;simp only[Ym,Yj];cases hb:b.get t with
  | none=>rw[hb]at h;exact Yl h hw
  | some v =>
   rw[hb]at h;cases v with
   | ptr q p =>
    cases p with
    | zero =>
     simp only[jq,dv];simp only at h;cases ho:no.get q with
     | none=>rw[ho]at h;exact Yl h hw
     | some ob =>
      rw[ho]at h;cases ob with
      | cells ct cs =>
       simp only at h;simp only[jq,dvO];obtain⟨oc,hc,h⟩:=Z0 h;have other:(∀d,(dvs X.T cs)[off]? = some d->d≠.nils)->Z13 X n0 (j+1) as (b,no)=some r->(match(dvs X.T cs)[off]? with
         | some .nils=>(X.E.ty e).bind fun ei=>bif Nat.blt 0 ei.size&&(Option.map (dvO X.T) (no.get (n0+j))).isNone then Ym X.E n0 (j+1) as (b.mapv (dv X.T),((no.mapv (dvO X.T)).set q (some (.cells ct ((dvs X.T cs).set off (.rs (n0+j) 0))))).set (n0+j) (some (.row e [] 0 0)))else none
         | _=>Ym X.E n0 (j+1) as (b.mapv (dv X.T),no.mapv (dvO X.T)))=some (r.1.mapv (dv X.T),r.2.mapv (dvO X.T))/\WfO X.E r.2:=fun z hh=>by
        obtain⟨g1,g2⟩:=Yl hh hw;refine⟨?_,g2⟩;split
        ·rename_i w;exact absurd rfl (z _ w)
        ·exact g1
       rcases Z8B X.T hX.t hc with⟨rfl,g⟩|⟨c,d,rfl,g,a⟩
       ·exact other (fun d u=>by rw[g]at u;cases u) h
       ·by_cases hcn:c=.nils
        ·subst hcn;rcases a with⟨_,rfl⟩|⟨a,_⟩
         ·simp only at h;obtain⟨ei,o,h⟩:=Z0 h;obtain⟨te,m,h⟩:=Z0 h;obtain⟨cs',l,h⟩:=Z0 h;obtain⟨n,h⟩:=Z3 h;obtain⟨h7,h8⟩:=Z1d hX.t l;have y:dvs X.T cs'=(dvs X.T cs).set off (.rs (n0+j) 0):=by
           rw[<-h8,<-Z9E _ _ _ (jc.1 g).1];simp[dvs,dv]
          obtain⟨f,k⟩:=Yl h ((hw.set (x:=some (.cells ct cs')) trivial).set (x:=some (.row e te [] 0 0)) trivial);rw[g];simp only[dv,o,jm];have s:(Nat.blt 0 ei.size&&(Option.map (dvO X.T) (no.get (n0+j))).isNone)=true:=by
           rw[<-n];cases no.get (n0+j)<;>rfl
          rw[s];simp only[jB];rw[YE,YE]at f;simp only[jq,dvO,y]at f;exact⟨f,k⟩
         ·cases a
        ·refine other (fun d' i=>?_) ?_
         ·rw[g]at i;cases i;rcases a with⟨_,rfl⟩|⟨_,a⟩
          ·cases c<;>simp[dv]at hcn⊢
          ·intro e;subst e;simp[plain]at a
         ·cases c<;>first|exact h|exact absurd rfl hcn
      | _=>simp only[jq,dvO];exact Yl h hw
    | succ p=>simp only[jq,dv];exact Yl h hw
   | ap=>cases h
   | _=>simp only[jq,dv];exact Yl h hw
theorem ZfD {c:Z3G} {n0:Nat} {s s':StT S} (h:ZdT X c n0 s=some s') (q:WfO X.E s.objs):ZcH X.E c n0 (Y3 X.T s)=some (Y3 X.T s')/\WfO X.E s'.objs:=by
 unfold ZdT at h;obtain⟨A,p,h⟩:=Z0 h;have g:=Zgn hX.t s.objs s.base n0 c.keep A;generalize Zb4 s.objs s.base n0 c.keep A=XL at h g;simp only at h;generalize hLd:XL.map some++A=L at h;obtain⟨u,h⟩:=Z3 h;obtain⟨b,v,h⟩:=Z0 h;obtain⟨o,l,h⟩:=Z0 h;obtain⟨o2,m,h⟩:=Z0 h;obtain⟨r,n,h⟩:=Z0 h;cases h;have e1:=ZbT X.T hX.t p;have e2:=Z6C (dv X.T) _ (fun t d=>bif Nat.testBit c.keep t then(ren n0 L d).bind fun d=>some (some d)else some none) (fun k x y a=>by
  cases hk:Nat.testBit c.keep k with
  | true =>
   rw[hk]at a;obtain⟨z,e,f⟩:=Z0 a;cases f;simp only[jB,Zbw hX.t _ _ _ _ e,jm,jq]
  | false=>rw[hk]at a;cases a;rfl) s.base 1 0 b v
 have e3:=Z6C (dvO X.T) _ (fun i x=>bif Nat.blt i n0 && !Z3f i L then(Z3E n0 L x).bind fun x=>some (some x)else some none) (fun k x y a=>by
  cases hk:(Nat.blt k n0 && !Z3f k L)with
  | true =>
   rw[hk]at a;obtain⟨z,e,f⟩:=Z0 a;cases f;simp only[jB,ZgP hX e,jq,jm]
  | false=>rw[hk]at a;cases a;rfl) s.objs 1 0 o l
 have w1:WfO X.E o:=ZiP l q fun k x y a g=>by
  cases hk:(Nat.blt k n0 && !Z3f k L)with
  | true =>
   rw[hk]at a;obtain⟨z,e,f⟩:=Z0 a;cases f;cases x with
   | loop fid bb ps as bo bid ex pa po =>
    simp only[Zau]at e;obtain⟨b',_,j⟩:=Z0 e;cases j;exact g
   | cells t cs =>
    simp only[Zau]at e;obtain⟨b',_,j⟩:=Z0 e;cases j;trivial
   | row=>cases e;trivial
   | map=>cases e;trivial
   | siter=>cases e;trivial
  | false=>rw[hk]at a;cases a;trivial
 obtain⟨e4,w2⟩:=Z4F hX m w1;obtain⟨e5,w3⟩:=Yl hX n w2;refine⟨?_,w3⟩;unfold ZcH;simp only[Y3];rw[e1,g,hLd,u];simp only[jB];rw[e2];simp only[jm];rw[e3];simp only[jm];rw[e4];simp only[jm];rw[e5];rfl
omit hX in
theorem ZhB (T:TS S) (x:Zp S):dvO T (Zgx x)=Z4U (dvO T x):=by cases x<;>rfl
omit hX in
theorem Z5m {α β γ:Type} (f:α->β) (g:β->γ):∀(t:Tr α),(t.mapv f).mapv g=t.mapv fun x=>g (f x)
 | .leaf=>rfl
 | .node l v r=>by simp only[Tr.mapv,Z5m f g l,Z5m f g r,Option.map_map];rfl
omit hX in
theorem ZhC {E:Env} {o:Tr (Zp S)} (a:WfO E o):WfO E (o.mapv Zgx):=fun i=>by
 rw[Yj];have:=a i;cases hq:o.get i with
 | none=>trivial
 | some x=>rw[hq]at this;cases x<;>exact this
theorem ZcJ {a:Z3G} {n0:Nat} {s s':StT S} (h:ZeR X a n0 s=some s') (c:WfO X.E s.objs):ZcG X.E a n0 (Y3 X.T s)=some (Y3 X.T s')/\WfO X.E s'.objs:=by
 unfold ZeR at h;obtain⟨s1,b,h⟩:=Z0 h;cases h;obtain⟨k1,k2⟩:=ZfD hX b c;unfold ZcG;rw[k1];cases a.raw with
 | true=>exact⟨rfl,k2⟩
 | false =>
  refine⟨?_,ZhC k2⟩;simp only[jm,jA,Y3];congr 2;rw[Z5m,Z5m];congr 1;funext x;exact(ZhB X.T x).symm
end
end Go.Ab
namespace Go.Ab
variable {S:Nat->Type} {R:Type}
theorem Z72 {α β:Type} {f:α->β} {p:α->Bool} {q:β->Bool} (a:∀x,p x=true->q (f x)=true):∀{t:Tr α},t.allV p=true->(t.mapv f).allV q=true
 | .leaf,_=>rfl
 | .node l v r,h=>by
  simp only[Tr.allV,jn]at h;simp only[Tr.mapv,Tr.allV,jn];refine⟨Z72 a h.1,?_,Z72 a h.2.2⟩;cases v with
  | none=>rfl
  | some x=>exact a x h.2.1
theorem Z9p (f:Nat->Nat):∀(a b:List DV),rns f (a++b)=rns f a++rns f b
 | [],b=>by simp[rns]
 | c::a,b=>by simp only[List.cons_append,rns,Z9p f a b]
theorem Z7W (p:Nat->Bool):∀(a b:List DV),Z1l p (a++b)=(Z1l p a&&Z1l p b)
 | [],b=>by simp[Z1l]
 | c::a,b=>by simp only[List.cons_append,Z1l,Z7W p a b,Bool.and_assoc]
theorem Z7p (f:Nat->Nat):∀{cs:List DV},cs.all plain=true->rns f cs=cs
 | [],_=>rfl
 | c::cs,h=>by
  simp only[jt,jn]at h;simp only[rns,Z7p f h.2];cases c<;>simp[plain]at h<;>simp[rn]
theorem Z7o (p:Nat->Bool):∀{cs:List DV},cs.all plain=true->Z1l p cs=true
 | [],_=>rfl
 | c::cs,h=>by
  simp only[jt,jn]at h;simp only[Z1l,Z7o p h.2,Bool.and_true];cases c<;>simp[plain]at h<;>simp[okD]
theorem Zgh (f:Nat->Nat) (pid:Nat):∀(ts:List TypeId) (m:Nat),rn f (enD pid ts m)=enD (f pid) ts m
 | ts,0=>by cases ts<;>simp[enD,rn]
 | [],m+1=>by simp[enD,rn]
 | t::ts,1=>by simp[enD,rn,rns]
 | t::ts,m+2=>by simp only[enD];exact Zgh f pid ts (m+1)
theorem Zgg (f:Nat->Nat) (ts:List TypeId) (pid n:Nat) (a:Nat->Nat):rns f (eal ts pid n a)=eal ts (f pid) n a:=by
 unfold eal;generalize List.range n=l
 induction l with
 | nil=>rfl
 | cons x l ih=>simp only[jv,rns,ih,Zgh]
theorem ZdS (f:Nat->Nat):∀n:Nat,rns f (List.replicate n .nilif)=List.replicate n .nilif
 | 0=>rfl
 | n+1=>by simp only[List.replicate_succ,rns,ZdS f n,rn]
theorem Zi1 {p:Nat->Bool} {pid:Nat} (a:p pid=true):∀{cs:List DV},cs.all (Z4S pid)=true->Z1l p cs=true
 | [],_=>rfl
 | c::cs,h=>by
  simp only[jt,jn]at h;simp only[Z1l,Zi1 a h.2,Bool.and_true];rcases Z1z h.1 with e|⟨t,e⟩<;>subst e<;>simp[okD,Z1l,a]
theorem ZgG (p:Nat->Bool):∀n:Nat,Z1l p (List.replicate n .nilif)=true
 | 0=>rfl
 | n+1=>by simp only[List.replicate_succ,Z1l,ZgG p n,okD,ju]
section
variable {T:TS S} (hT:TOk T)
include hT
mutual
theorem Zaw (f:Nat->Nat):∀v:TV S,rn f (dv T v)=dv T (rnT f v)
 | .bool _=>by simp[dv,rn,rnT] | .int _ _=>by simp[dv,rn,rnT] | .str _=>by simp[dv,rn,rnT] | .nilp=>by simp[dv,rn,rnT] | .nils=>by simp[dv,rn,rnT]
 | .sl0=>by simp[dv,rn,rnT] | .sl _ _=>by simp[dv,rn,rnT]
 | .arr _ _ _=>by simp[dv,rn,rnT]
 | .stc _ _=>by simp[dv,rn,rnT]
 | .narr _ n=>by simp only[dv,rn,rnT,ZdS]
 | .earr ts pid n a=>by simp only[dv,rn,rnT,Zgg]
 | .ptr _ _=>by simp[dv,rn,rnT] | .ap _ _ _ _ _=>by simp[dv,rn,rnT] | .rptr _ _ _ _ _=>by simp[dv,rn,rnT]
 | .pub _=>by simp[dv,rn,rnT]
 | .rv _ _ _ _ _=>by simp[dv,rn,rnT] | .slen _=>by simp[dv,rn,rnT]
 | .rs _ _=>by simp[dv,rn,rnT] | .map _=>by simp[dv,rn,rnT] | .iter _=>by simp[dv,rn,rnT] | .yld _=>by simp[dv,rn,rnT]
 | .nilfn=>by simp[dv,rn,rnT] | .nilmap=>by simp[dv,rn,rnT] | .nilif=>by simp[dv,rn,rnT]
 | .agg cs=>by simp only[dv,rn,rnT,ZbE f cs]
 | .tup cs=>by simp only[dv,rn,rnT,Z6O f cs]
 | .fn _ a c=>by simp only[dv,rn,rnT,Z6O f a,Z6O f c]
 | .iface _ v=>by simp only[dv,rn,rnT,Zaw f v]
theorem ZbE (f:Nat->Nat):∀cs:List (TV S),rns f (dvs T cs)=dvs T (Z6N f cs)
 | []=>by simp[dvs,rns,Z6N]
 | c::cs=>by
  rw[ZB,Z9p,Z6N,ZB,ZbE f cs];have h:=Zaw f c;congr 1;cases c<;>simp only[Yc,rnT,rns]<;>first|(rw[h];simp only[rnT];done)|skip
  ·exact Z7p f (Ys hT _ _ _)
  ·exact Z7p f (hT.plain _ _)
  ·exact Zgg f _ _ _ _
  ·exact ZdS f _
theorem Z6O (f:Nat->Nat):∀cs:List (TV S),rns f (dvl T cs)=dvl T (Z6N f cs)
 | []=>by simp[dvl,rns,Z6N]
 | c::cs=>by simp only[dvl,rns,Z6N,Zaw f c,Z6O f cs]
end
mutual
theorem Z9b (p:Nat->Bool):∀v:TV S,Zbm p v=true->okD p (dv T v)=true
 | .bool _,_=>by simp[dv,okD] | .int _ _,_=>by simp[dv,okD] | .str _,_=>by simp[dv,okD] | .nilp,_=>by simp[dv,okD] | .nils,_=>by simp[dv,okD]
 | .sl0,_=>by simp[dv,okD] | .sl _ _,_=>by simp[dv,okD]
 | .arr _ _ _,_=>by simp[dv,okD]
 | .stc _ _,_=>by simp[dv,okD]
 | .narr _ _,_=>by simp only[dv,okD];exact ZgG p _
 | .earr _ _ _ _,h=>by simp only[dv,okD];exact Zi1 h (YC _ _ _ _)
 | .ptr _ _,h=>h | .ap _ _ _ _ _,h=>h | .rptr _ _ _ _ _,h=>h
 | .rv _ _ _ _ _,h=>h | .slen _,_=>by simp[dv,okD]
 | .rs _ _,h=>h | .map _,h=>h | .iter _,h=>h | .yld _,h=>h
 | .nilfn,_=>by simp[dv,okD] | .nilmap,_=>by simp[dv,okD] | .nilif,_=>by simp[dv,okD]
 | .pub cs,_=>by simp only[dv,okD]
 | .agg cs,h=>by simp only[dv,okD,Zbm]at h⊢;exact Z9c p cs h
 | .tup cs,h=>by simp only[dv,okD,Zbm]at h⊢;exact Z4X p cs h
 | .fn _ a c,h=>by
  simp only[dv,okD,Zbm,jn]at h⊢;exact⟨Z4X p a h.1,Z4X p c h.2⟩
 | .iface _ v,h=>by simp only[dv,okD,Zbm]at h⊢;exact Z9b p v h
theorem Z9c (p:Nat->Bool):∀cs:List (TV S),Z4W p cs=true->Z1l p (dvs T cs)=true
 | [],_=>by simp[dvs,Z1l]
 | c::cs,h=>by
  simp only[Z4W,jn]at h;rw[ZB,Z7W,Z9c p cs h.2,Bool.and_true];have hc:=Z9b p c h.1;cases c<;>simp only[Yc,Z1l,Bool.and_true]<;>first|exact hc|skip
  ·exact Z7o p (Ys hT _ _ _)
  ·exact Z7o p (hT.plain _ _)
theorem Z4X (p:Nat->Bool):∀cs:List (TV S),Z4W p cs=true->Z1l p (dvl T cs)=true
 | [],_=>by simp[dvl,Z1l]
 | c::cs,h=>by
  simp only[Z4W,jn]at h;simp only[dvl,Z1l,Z9b p c h.1,Z4X p cs h.2,ju]
end
omit hT in
theorem Z4f {α β γ:Type} (f:α->β) (g:β->γ):∀t:Tr α,(t.mapv f).mapv g=t.mapv fun x=>g (f x)
 | .leaf=>rfl
 | .node l v r=>by
  simp only[Tr.mapv,Z4f f g l,Z4f f g r];cases v<;>rfl
theorem ZgU (f:Nat->Nat) (o:Zp S):rnO f (dvO T o)=dvO T (Ze8 f o):=by
 cases o<;>simp only[dvO,rnO,Ze8]
 ·rw[ZbE hT]
 ·rw[Z4f,Z4f];congr 1;congr 1;funext d;exact Zaw hT f d
theorem Zii {p:Nat->Bool}:∀{o:Zp S},ZiK p o=true->okO p (dvO T o)=true
 | .cells _ cs,h=>Z9c hT p cs h
 | .row _ _ _ _ _,_=>rfl
 | .map _ _ _,_=>rfl
 | .siter _ _,_=>rfl
 | .loop _ b _ _ _ _ _ _ _,h=>Z72 (fun d a=>Z9b hT p d a) h
theorem ZdW {p:Nat->Bool} {h:Nat->Option (Zp S)}:∀{is:List Nat},ZgI p h is=true->okH p (dvh T h) is=true
 | [],_=>rfl
 | i::is,hb=>by
  simp only[ZgI,jn]at hb;simp only[okH,jn];refine⟨?_,ZdW hb.2⟩;simp only[dvh];cases hi:h i with
  | none=>rfl
  | some o =>
   rw[hi]at hb;exact Zii hT hb.1
theorem ZbD (f:Nat->Nat) (h:Nat->Option (Zp S)):∀(is:List Nat),Z3k f (dvh T h) is=(Z5I f h is).mapv (dvO T)
 | []=>rfl
 | i::is=>by
  simp only[Z3k,Z5I,ZbD f h is,YE,dvh];congr 1;cases h i with
  | none=>rfl
  | some o=>simp only[jq,ZgU hT]
theorem ZcX (f:Nat->Nat) (h:Nat->Option (Zp S)):∀(is:List Nat),Z3Y f (dvh T h) is=dvu T (Z7u f h is)
 | []=>rfl
 | i::is=>by
  simp only[Z3Y,Z7u,ZcX f h is,dvu,jv,dvh];congr 2;cases h i with
  | none=>rfl
  | some o=>simp only[jq,ZgU hT]
theorem Zgm {k:Nat} {v:TV S} {o:Tr (Zp S)} {n:Nat} {kk:TV S->Tr (Zp S)->Nat->Option R} {r:R} (h:ZeB k v o kk=some r) :
  ∃v' o' n',Z7P k (dv T v,o.mapv (dvO T),n)=some (dv T v',o'.mapv (dvO T),n')/\(∀i y,o'.get i=some y->∃j x,o.get j=some x/\y=Ze8 (Z2s k (geN k (Z28 o.get 4096 (Z1X v++upN 0 k) []))) x)/\kk v' o' n'=some r:=by
 unfold ZeB at h;rw[Z9x]at h;obtain⟨a,h⟩:=Z3 h;rw[Zay,Z3m (fun v k=>Z9y v k),Z3l]at h;refine⟨_,_,_,?_,fun i y hy=>?_,h⟩
 ·simp only[jn]at a;have e0:(o.mapv (dvO T)).get=dvh T o.get:=funext fun i=>Yj _ _ _;unfold Z7P;simp only[e0,ZbA hT,Z3i hT,a.1,Bool.true_and];rw[Z9b hT _ v a.2.1,ZdW hT a.2.2];simp only[ju,jB,Zaw hT,ZbD hT]
 ·have:∀(f:Nat->Nat) (is:List Nat),(Z5I f o.get is).get i=some y->∃j x,o.get j=some x/\y=Ze8 f x:=fun f is=>by
   induction is with
   | nil=>intro h;cases h
   | cons j is ih =>
    intro h;simp only[Z5I,Tr.get_set]at h
    by_cases e:i=f j
    ·rw[if_pos e]at h;cases hj:o.get j with
     | none=>rw[hj]at h;cases h
     | some x=>rw[hj]at h;cases h;exact⟨j,x,hj,rfl⟩
    ·rw[if_neg e]at h;exact ih h
  exact this _ _ hy
end
theorem Zeo {E:Env} {f:Nat->Nat} {x:Zp S} (h:WfL E (some x)):WfL E (some (Ze8 f x)):=by
 cases x<;>first|exact h|trivial
theorem Zdm {E:Env} {f:Nat->Nat} {h:Nat->Option (Zp S)} (a:∀i,WfL E (h i)):∀(is:List Nat),WfO E (Z5I f h is)
 | []=>fun i=>trivial
 | i::is=>by
  simp only[Z5I];refine(Zdm a is).set ?_;have:=a i;cases hi:h i with
  | none=>trivial
  | some x=>rw[hi]at this;exact Zeo this
theorem Zdn {E:Env} {f:Nat->Nat} {h:Nat->Option (Zp S)} (b:∀i,WfL E (h i)):∀(is:List Nat),∀p∈Z7u f h is,WfL E p.2
 | [],p,a=>by cases a
 | i::is,p,a=>by
  simp only[Z7u]at a;rcases jr.1 a with e|e
  ·subst e;have:=b i;cases hi:h i with
   | none=>trivial
   | some x=>rw[hi]at this;exact Zeo this
  ·exact Zdn b is p e
end Go.Ab
