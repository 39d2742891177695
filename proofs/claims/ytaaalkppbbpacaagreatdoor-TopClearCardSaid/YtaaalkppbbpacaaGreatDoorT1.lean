/- The same on typed values. -/
import Derived.Test.YtaaalkppbbpacaaGreatDoorA1
import Derived.Test.YtaaalkppbbpacaaGreatDoorA2
set_option linter.unusedSectionVars false
set_option linter.unusedVariables false
set_option linter.unusedSimpArgs false
namespace Go.Ab
inductive Ty where
  | bool
  | int (k:IntKind)
  | str
  | sl (t:Ty)
  | arr (n:Nat) (t:Ty)
  | st (i:Nat)
  deriving DecidableEq,Inhabited
def Val (S:Nat→Type):Ty→Type
  | .bool=>Bool
  | .int _=>Int
  | .str=>ByteArray
  | .sl t=>List (Val S t)
  | .arr _ t=>Nat→Val S t
  | .st i=>S i
inductive TV (S:Nat→Type) where
  | bool (b:Bool)
  | int (k:IntKind) (n:Int)
  | str (s:ByteArray)
  | nilp
  | ptr (id off:Nat)
  | ap (id base i esz off:Nat)
  | rptr (id ver i esz off:Nat)
  | pub (cs:List (TV S))
  | nils
  | sl0
  | sl (t:Ty) (xs:List (Val S t))
  | rv (id ver i n e:Nat)
  | slen (n:Nat)
  | rs (id ver:Nat)
  | arr (t:Ty) (n:Nat) (a:Nat→Val S t)
  | stc (i:Nat) (x:S i)
  | earr (ts:List TypeId) (pid n:Nat) (a:Nat→Nat)
  | narr (ts:List TypeId) (n:Nat)
  | agg (cs:List (TV S))
  | tup (vs:List (TV S))
  | fn (f:Fn) (first caps:List (TV S))
  | nilfn
  | map (id:Nat)
  | nilmap
  | iface (t:TypeId) (v:TV S)
  | nilif
  | iter (id:Nat)
  | yld (id:Nat)
inductive Zq (S:Nat→Type) where
  | cells (t:TypeId) (cs:List (TV S))
  | row (e:TypeId) (t:Ty) (xs:List (Val S t)) (pubd ver:Nat)
  | map (kt et:Ty) (m:List (Val S kt×Val S et))
  | siter (s:ByteArray) (pos:Nat)
  | loop (fid:Nat) (base:Tr (TV S)) (params:List Nat) (assign body:Code) (bid:Nat) (done:Ex) (path at_:List Nat)
structure TS (S:Nat→Type) where
  size:Nat→Nat
  cells:∀i,S i→List (TV S)
  dcells:∀i,S i→List DV
  rd:∀i,List (TV S)→Option (S i×List (TV S))
  dflt:∀i,S i
  seq:∀i,Option (S i→S i→Bool)
section
variable {S:Nat→Type}
def tsz (T:TS S):Ty→Nat
  | .arr n t=>n*tsz T t
  | .st i=>T.size i
  | _=>1
def tdf (T:TS S):(t:Ty)→Val S t
  | .bool=>false
  | .int _=>(0:Int)
  | .str=>ByteArray.empty
  | .sl _=>[]
  | .arr _ t=>fun _=>tdf T t
  | .st i=>T.dflt i
def Z10:Ty→Bool
  | .arr _ _ | .st _=>true
  | _=>false
def tcl (T:TS S):(t:Ty)→Val S t→List (TV S)
  | .bool,b=>[.bool b]
  | .int k,n=>[.int k n]
  | .str,s=>[.str s]
  | .sl t,xs=>[.sl t xs]
  | .arr n t,a=>[.arr t n a]
  | .st i,x=>[.stc i x]
def dcl (T:TS S):(t:Ty)→Val S t→List DV
  | .bool,b=>[.bool b]
  | .int k,n=>[.int k n]
  | .str,s=>[.str s]
  | .sl t,xs=>[.sl (xs.map (dcl T t))]
  | .arr n t,a=>(List.range n).flatMap fun j=>dcl T t (a j)
  | .st i,x=>T.dcells i x
def acl (T:TS S) (t:Ty) (n:Nat) (a:Nat→Val S t):List DV:=(List.range n).flatMap fun j=>dcl T t (a j)
def Z7A (T:TS S):(t:Ty)→Val S t→TV S
  | .bool,b=>.bool b
  | .int k,n=>.int k n
  | .str,s=>.str s
  | .sl t,xs=>.sl t xs
  | .arr n t,a=>.agg [.arr t n a]
  | .st i,x=>.agg [.stc i x]
def YT (T:TS S):(t:Ty)→Val S t→DV
  | .bool,b=>.bool b
  | .int k,n=>.int k n
  | .str,s=>.str s
  | .sl t,xs=>.sl (xs.map (dcl T t))
  | .arr n t,a=>.agg (acl T t n a)
  | .st i,x=>.agg (T.dcells i x)
def enD (pid:Nat):List TypeId→Nat→DV
  | _,0=>.nilif
  | [],_+1=>.nilif
  | t::_,1=>.iface t (.agg [.ptr pid 0])
  | _::ts,m+2=>enD pid ts (m+1)
def eal (ts:List TypeId) (pid n:Nat) (a:Nat→Nat):List DV:=(List.range n).map fun j=>enD pid ts (a j)
mutual
def dv (T:TS S):TV S→DV
  | .bool b=>.bool b
  | .int k n=>.int k n
  | .str s=>.str s
  | .nilp=>.nilp
  | .ptr id off=>.ptr id off
  | .ap id base i esz off=>.ptr id (base+i*esz+off)
  | .rptr id v i esz off=>.rptr id v i esz off
  | .pub cs=>.pub (dvs T cs)
  | .nils=>.nils
  | .sl0=>.sl []
  | .sl t xs=>.sl (xs.map (dcl T t))
  | .rs id v=>.rs id v
  | .rv id v i n e=>.rv id v i n e
  | .slen n=>.slen n
  | .arr _ _ _=>.nilp
  | .stc _ _=>.nilp
  | .earr ts pid n a=>.agg (eal ts pid n a)
  | .narr _ n=>.agg (List.replicate n .nilif)
  | .agg cs=>.agg (dvs T cs)
  | .tup vs=>.tup (dvl T vs)
  | .fn f a c=>.fn f (dvl T a) (dvl T c)
  | .nilfn=>.nilfn
  | .map id=>.map id
  | .nilmap=>.nilmap
  | .iface t v=>.iface t (dv T v)
  | .nilif=>.nilif
  | .iter id=>.iter id
  | .yld id=>.yld id
def dvs (T:TS S):List (TV S)→List DV
  | []=>[]
  | .arr t n a::cs=>acl T t n a++dvs T cs
  | .stc i x::cs=>T.dcells i x++dvs T cs
  | .earr ts pid n a::cs=>eal ts pid n a++dvs T cs
  | .narr _ n::cs=>List.replicate n .nilif++dvs T cs
  | c::cs=>dv T c::dvs T cs
def dvl (T:TS S):List (TV S)→List DV
  | []=>[]
  | c::cs=>dv T c::dvl T cs
end
def ZiG (t:Ty):TV S→Option (List (Val S t))
  | .sl0=>some []
  | .sl t' xs=>if h:t'=t then some (h▸xs)else none
  | _=>none
def Z65:List (TV S)→Option (Bool×List (TV S))
  | .bool b::r=>some (b,r)
  | _=>none
def Yx (k:IntKind):List (TV S)→Option (Int×List (TV S))
  | .int k' n::r=>bif k==k' then some (n,r)else none
  | _=>none
def Z5B:List (TV S)→Option (ByteArray×List (TV S))
  | .str s::r=>some (s,r)
  | _=>none
def Z88 (t:Ty):List (TV S)→Option (List (Val S t)×List (TV S))
  | c::r=>(ZiG t c).bind fun xs=>some (xs,r)
  | _=>none
def Z9a (n:Nat) (t:Ty):List (TV S)→Option ((Nat→Val S t)×List (TV S))
  | .arr t' n' a::r=>if h:t'=t then(bif Nat.beq n' n then some (h▸a,r)else none)else none
  | _=>none
def rdW (i:Nat) (f:List (TV S)→Option (S i×List (TV S))):List (TV S)→Option (S i×List (TV S))
  | .stc i' x::r=>if h:i'=i then some (h▸x,r)else none
  | cs=>f cs
def YU (T:TS S) (i:Nat):Nat→List (TV S)→List (TV S)
  | n+1,.stc i' x::r=>bif Nat.beq i' i then .stc i' x::r else YU T i n (T.cells i' x++r)
  | _,cs=>cs
def trd (T:TS S):(t:Ty)→List (TV S)→Option (Val S t×List (TV S))
  | .bool=>Z65
  | .int k=>Yx k
  | .str=>Z5B
  | .sl t=>Z88 t
  | .arr n t=>Z9a n t
  | .st i=>fun cs=>rdW i (T.rd i) (YU T i 6 cs)
def Z6T (T:TS S) (t:Ty) (cs:List (TV S)):Option (Val S t):=(trd T t cs).bind fun x=>match x.2 with
  | []=>some x.1
  | _=>none
def Yf:TV S→List (TV S)
  | .agg cs=>cs
  | .arr _ _ _=>[.nilp]
  | .stc _ _=>[.nilp]
  | v=>[v]
def Z8i:TV S→Bool
  | .agg _ | .tup _=>false
  | _=>true
def Y2:TV S→Bool
  | .arr _ _ _=>true
  | .stc _ _=>true
  | .earr _ _ _ _=>true
  | .narr _ _=>true
  | _=>false
def Z5I (T:TS S) (t:Ty) (v:TV S):Option (Val S t):=match v with
  | .agg cs=>bif Z10 t then Z6T T t cs else none
  | v=>bif Z10 t then none else Z6T T t [v]
def wd (T:TS S):TV S→Nat
  | .arr t n _=>n*tsz T t
  | .stc i _=>T.size i
  | .earr _ _ n _=>n
  | .narr _ n=>n
  | _=>1
def wds (T:TS S):List (TV S)→Nat
  | []=>0
  | c::cs=>wd T c+wds T cs
def Z9Y (T:TS S):Nat→List (TV S)→Nat→Option (List (TV S))
  | 0,_,_=>none
  | _+1,[],n=>bif Nat.beq n 0 then some []else none
  | f+1,c::cs,n=>bif Nat.beq n 0 then some (c::cs)else bif Nat.ble (wd T c) n then Z9Y T f cs (n-wd T c)else match c with
    | .stc i x=>Z9Y T f (T.cells i x++cs) n
    | _=>none
def Z8E (T:TS S) (cs:List (TV S)) (n:Nat):Option (List (TV S)):=Z9Y T 400 cs n
def Zat (T:TS S):Nat→List (TV S)→Nat→Option (List (TV S))
  | 0,_,_=>none
  | _+1,[],n=>bif Nat.beq n 0 then some []else none
  | f+1,c::cs,n=>bif Nat.beq n 0 then some []else bif Nat.ble (wd T c) n then(Zat T f cs (n-wd T c)).bind fun r=>some (c::r)else match c with
    | .stc i x=>Zat T f (T.cells i x++cs) n
    | _=>none
def Zhe (T:TS S) (cs:List (TV S)) (n:Nat):Option (List (TV S)):=Zat T 400 cs n
def hdF (T:TS S):Nat→List (TV S)→List (TV S)
  | n+1,.stc i x::r=>hdF T n (T.cells i x++r)
  | _,cs=>cs
def xpF (T:TS S):Nat→List (TV S)→List (TV S)
  | n+1,.stc i x::r=>xpF T n (T.cells i x++r)
  | n+1,c::r=>c::xpF T n r
  | _,cs=>cs
def Z2Y (T:TS S) (cs:List (TV S)) (off:Nat) (vs:List (TV S)):Option (List (TV S)) :=
  (Zhe T cs off).bind fun a=>(Z8E T cs (off+wds T vs)).bind fun b=>some (a++vs++b)
def Z96 (T:TS S) (ti:TI) (cs:List (TV S)) (off:Nat):Option (TV S) :=
  (Z8E T cs off).bind fun r=>bif ti.isAgg then(Zhe T r ti.size).bind fun p=>some (.agg p)else match hdF T 10 r with
    | c::_=>bif Y2 c then none else some c
    | []=>none
structure Yp (S:Nat→Type) where
  E:Env
  T:TS S
  code:Nat→Option Ty
  zero:Nat→Option (List (TV S))
def Zab (X:Yp S) (t:TypeId) (cs:List (TV S)):List (TV S):=match X.code t with
  | some c=>(match Z6T X.T c cs with
    | some x=>tcl X.T c x
    | none=>cs)
  | none=>cs
def Z9e (nid:Nat):List (TV S)→List (TV S)
  | []=>[]
  | .narr ts n::cs=>.earr ts nid n (fun _=>0)::Z9e nid cs
  | c::cs=>c::Z9e nid cs
structure ZaB (S:Nat→Type) where
  val:Option (TV S)
  upd:List (Nat×Option (Zq S))
def ZdF:Value→Option (TV S)
  | .bool b=>some (.bool b)
  | .int k n=>some (.int k n)
  | .string s=>some (.str s)
  | .pointer none=>some .nilp
  | .slice none 0 0=>some .nils
  | .map none=>some .nilmap
  | .nilFunc=>some .nilfn
  | .nilIface=>some .nilif
  | _=>none
def ZY (ρ:Nat→Option (TV S)):Operand→Option (TV S)
  | .tmp t=>ρ t
  | .const v=>ZdF v
  | .func f=>some (.fn (.func f) [] [])
  | .global _=>none
def Z2G (ρ:Nat→Option (TV S)):List Operand→Option (List (TV S))
  | []=>some []
  | x::xs=>(ZY ρ x).bind fun v=>(Z2G ρ xs).bind fun vs=>some (v::vs)
mutual
def Zv:TV S→Bool
  | .bool _ | .int _ _ | .str _ | .nilp | .nils | .sl0 | .sl _ _ | .nilfn | .nilmap | .nilif=>true
  | .arr _ _ _ | .stc _ _=>true
  | .earr ts i n a=>Zc (eal ts i n a)
  | .narr _ _=>true
  | .agg cs=>YL cs
  | .tup cs=>YL cs
  | .fn _ a b=>YL a&&YL b
  | .iface _ v=>Zv v
  | _=>false
def YL:List (TV S)→Bool
  | []=>true
  | c::cs=>Zv c&&YL cs
end
mutual
def Z9H (n:Nat):TV S→Bool
  | .ptr i _ | .ap i _ _ _ _ | .rptr i _ _ _ _ | .rs i _ | .rv i _ _ _ _ | .map i | .iter i | .yld i=>Nat.blt i n
  | .agg cs=>Z5t n cs
  | .tup cs=>Z5t n cs
  | .fn _ a b=>Z5t n a&&Z5t n b
  | .iface _ v=>Z9H n v
  | .pub cs=>Z5t n cs
  | .earr _ i _ _=>Nat.blt i n
  | _=>true
def Z5t (n:Nat):List (TV S)→Bool
  | []=>true
  | c::cs=>Z9H n c&&Z5t n cs
end
mutual
def YI (h:Nat→Option (Zq S)):TV S→Option (TV S)
  | .rs id v=>(h id).bind fun | .row _ t xs _ u=>bif Nat.beq u v then some (.sl t xs)else none|_=>none
  | .agg cs=>(Z1X h cs).bind fun cs=>some (.agg cs)
  | .tup cs=>(Z1X h cs).bind fun cs=>some (.tup cs)
  | .iface t v=>(YI h v).bind fun v=>some (.iface t v)
  | .nils=>some .sl0
  | d=>bif Zv d then some d else none
def Z1X (h:Nat→Option (Zq S)):List (TV S)→Option (List (TV S))
  | []=>some []
  | c::cs=>(YI h c).bind fun c=>(Z1X h cs).bind fun cs=>some (c::cs)
end
mutual
def Y6:TV S→List Nat
  | .rs id _=>[id]
  | .rv id _ _ _ _=>[id]
  | .agg cs=>Yr cs
  | .tup cs=>Yr cs
  | .iface _ v=>Y6 v
  | _=>[]
def Yr:List (TV S)→List Nat
  | []=>[]
  | c::cs=>Y6 c++Yr cs
end
def Z5G (h:Nat→Option (Zq S)):List Nat→List (Nat×Option (Zq S))
  | []=>[]
  | i::is=>(match h i with|some (.row e t xs p u)=>bif Nat.beq p 1 then []else [(i,some (.row e t xs 1 u))]|_=>[])++Z5G h is
def ZgH:Zq S→Zq S
  | .row e t xs _ u=>.row e t xs 1 u
  | o=>o
mutual
def Z24:TV S→List Nat
  | .ptr i _ | .ap i _ _ _ _ | .rptr i _ _ _ _ | .rs i _ | .rv i _ _ _ _ | .map i | .iter i | .yld i=>[i]
  | .agg cs=>Z4K cs
  | .tup cs=>Z4K cs
  | .fn _ a b=>Z4K a++Z4K b
  | .iface _ v=>Z24 v
  | .earr ts i n a=>ZJ (eal ts i n a)
  | _=>[]
def Z4K:List (TV S)→List Nat
  | []=>[]
  | c::cs=>Z24 c++Z4K cs
end
section ops
variable {R:Type}
abbrev Z2l (S:Nat→Type) (R:Type):=ZaB S→Option R
def ZU (v:TV S) (k:Z2l S R):Option R:=k ⟨some v,[]⟩
def Z3D:(t:Ty)→Option (Val S t→Val S t→Bool)
  | .bool=>some fun(a b:Bool)=>a==b
  | .int _=>some fun(a b:Int)=>a==b
  | .str=>some fun(a b:ByteArray)=>a==b
  | _=>none
def Z8X (T:TS S):(t:Ty)→Option (Val S t→Val S t→Bool)
  | .st i=>T.seq i
  | t=>Z3D t
def Z18:List (TV S)→List (TV S)→Option Bool
  | [],[]=>some true
  | .int k a::xs,.int k' b::ys=>bif k==k' then(Z18 xs ys).bind fun r=>some (a==b&&r)else none
  | .bool a::xs,.bool b::ys=>(Z18 xs ys).bind fun r=>some (a==b&&r)
  | .str a::xs,.str b::ys=>(Z18 xs ys).bind fun r=>some (a==b&&r)
  | .arr t n a::xs,.arr t' n' b::ys=>if h:t'=t then(bif Nat.beq n' n then(Z3D t).bind fun e=>(Z18 xs ys).bind fun r=>some (((List.range n).all fun j=>e (a j) ((h▸b:Nat→Val S t) j))&&r)else none)else none
  | _,_=>none
def Z3c:List (TV S)→List (TV S)→Bool
  | [],[]=>true
  | .int k _::zs,.int k' _::xs=>k==k'&&Z3c zs xs
  | .bool _::zs,.bool _::xs=>Z3c zs xs
  | .str _::zs,.str _::xs=>Z3c zs xs
  | .arr t n _::zs,.arr t' n' _::xs=>decide (t'=t)&&Nat.beq n' n&&(Z3D (S:=S) t).isSome&&Z3c zs xs
  | _,_=>false
def Zhq (X:Yp S) (op:BinOp) (t:TypeId) (x y:TV S) (k:Z2l S R):Option R :=
  match x,y with
  | .int kd a,.int kd' b =>
    match op with
    | .shl=>bif decide (b<0)then none else ZU (.int kd (kd.wrap (a*2 ^ (min b.toNat kd.bits)))) k
    | .shr=>bif decide (b<0)then none else ZU (.int kd (a.fdiv (2 ^ (min b.toNat kd.bits)))) k
    | .quo=>bif kd==kd' then(bif b==0 then none else ZU (.int kd (kd.wrap (a.tdiv b))) k)else none
    | .rem=>bif kd==kd' then(bif b==0 then none else ZU (.int kd (a.tmod b)) k)else none
    | .add=>bif kd==kd' then ZU (.int kd (kd.wrap (a+b))) k else none
    | .sub=>bif kd==kd' then ZU (.int kd (kd.wrap (a-b))) k else none
    | .mul=>bif kd==kd' then ZU (.int kd (kd.wrap (a*b))) k else none
    | .and=>bif kd==kd' then ZU (.int kd (kd.wrap (BitVec.ofInt kd.bits a &&& BitVec.ofInt kd.bits b).toNat)) k else none
    | .or=>bif kd==kd' then ZU (.int kd (kd.wrap (BitVec.ofInt kd.bits a ||| BitVec.ofInt kd.bits b).toNat)) k else none
    | .xor=>bif kd==kd' then ZU (.int kd (kd.wrap (BitVec.ofInt kd.bits a ^^^ BitVec.ofInt kd.bits b).toNat)) k else none
    | .eql=>bif kd==kd' then ZU (.bool (a==b)) k else none
    | .neq=>bif kd==kd' then ZU (.bool (a != b)) k else none
    | .lss=>bif kd==kd' then ZU (.bool (decide (a<b))) k else none
    | .leq=>bif kd==kd' then ZU (.bool (decide (a≤b))) k else none
    | .gtr=>bif kd==kd' then ZU (.bool (decide (a>b))) k else none
    | .geq=>bif kd==kd' then ZU (.bool (decide (a≥b))) k else none
    | _=>none
  | .str a,.str b =>
    match op with
    | .add=>bif Nat.ble (a.size+b.size) 1099511627776 then ZU (.str (a++b)) k else none
    | .eql=>ZU (.bool (a.toList==b.toList)) k
    | .neq=>ZU (.bool (!(a.toList==b.toList))) k
    | .lss=>ZU (.bool (Op.bytesLess a.toList b.toList)) k
    | .leq=>ZU (.bool (Op.bytesLess a.toList b.toList||(a.toList==b.toList))) k
    | .gtr=>ZU (.bool (!(Op.bytesLess a.toList b.toList||(a.toList==b.toList)))) k
    | .geq=>ZU (.bool (!(Op.bytesLess a.toList b.toList))) k
    | _=>none
  | .bool a,.bool b=>(X.E.ty t).bind fun ti=>match ti.k,op with
    | .bool,.eql=>ZU (.bool (a==b)) k
    | .bool,.neq=>ZU (.bool (!(a==b))) k
    | _,_=>none
  | .agg a,.agg b=>(X.E.ty t).bind fun ti=>(X.zero t).bind fun z=>let z:=xpF X.T 200 z;let a:=xpF X.T 200 a;let b:=xpF X.T 200 b;bif ti.eqOk&&Z3c z a&&Z3c z b then(match op with
    | .eql=>(Z18 a b).bind fun r=>ZU (.bool r) k
    | .neq=>(Z18 a b).bind fun r=>ZU (.bool (!r)) k
    | _=>none)else none
  | .sl _ xs,.nils=>(X.E.ty t).bind fun ti=>match ti.k,op with
    | .slice _,.eql=>bif xs.isEmpty then none else ZU (.bool false) k
    | .slice _,.neq=>bif xs.isEmpty then none else ZU (.bool true) k
    | _,_=>none
  | _,_=>none
def unK (op:UnOp) (x:TV S) (k:Z2l S R):Option R:=match x with
  | .int kd n=>match op with | .neg=>ZU (.int kd (kd.wrap (0-n))) k|_=>none
  | .bool b=>match op with | .not=>ZU (.bool (!b)) k|_=>none
  | _=>none
def Zca (n:Nat) (x:TV S) (k:Nat→Option R):Option R:=match x with
  | .int _ i=>bif decide (0≤i)&&decide (i<n)then k i.toNat else none
  | _=>none
def Ziz (c:Bool) (a b:Option (TV S)) (k:Z2l S R):Option R:=match a,b with
  | some (.bool x),some (.bool y)=>ZU (.bool (bif c then x else y)) k
  | a,b=>bif c then a.bind fun v=>ZU v k else b.bind fun v=>ZU v k
def ZaL (t:Ty) (h:Nat→Option (Zq S)):TV S→Option (List (Val S t))
  | .nils=>some []
  | .sl0=>some []
  | .sl t' xs=>if e:t'=t then some (e▸xs)else none
  | .rs id v=>(h id).bind fun | .row _ t' xs _ u=>bif Nat.beq u v then(if e:t'=t then some (e▸xs)else none)else none|_=>none
  | _=>none
def Z8f (X:Yp S) (fs:List (Nat×Nat)):List (Nat×TV S)→List (TV S)→Option (List (TV S))
  | [],cs=>some cs
  | (i,v)::ps,cs=>(fs[i]?).bind fun f=>(X.E.ty f.1).bind fun ti =>
      bif Nat.beq (wds X.T (Yf v)) ti.size then(Z2Y X.T cs f.2 (Yf v)).bind fun cs=>Z8f X fs ps cs else none
def Z8e (X:Yp S) (t:Ty) (n:Nat):List (Nat×TV S)→(Nat→Val S t)→Option (Nat→Val S t)
  | [],a=>some a
  | (i,v)::ps,a=>(Z5I X.T t v).bind fun x=>bif Nat.blt i n then Z8e X t n ps (fun j=>bif Nat.beq j i then x else a j)else none
def Z98 (ρ:Nat→Option (TV S)):List (Nat×Operand)→Option (List (Nat×TV S))
  | []=>some []
  | (i,x)::ps=>(ZY ρ x).bind fun v=>(Z98 ρ ps).bind fun vs=>some ((i,v)::vs)
def Zf7 (X:Yp S) (h:Nat→Option (Zq S)) (t:Ty):Nat→List (Nat×TV S)→Option (List (Val S t))
  | _,[]=>some []
  | k,(i,v)::ps=>bif Nat.beq i k&&Nat.beq (wds X.T (Yf v)) (tsz X.T t)then(Z1X h (Yf v)).bind fun c=>(Z6T X.T t c).bind fun x=>(Zf7 X h t (k+1) ps).bind fun r=>some (x::r)else none
def Zg6 (T:TS S):TV S→Nat→Option (TV S)
  | .ptr id off,n=>some (.ptr id (off+n))
  | .ap id b i e off,n=>some (.ap id b i e (off+n))
  | .rptr id v i e off,n=>some (.rptr id v i e (off+n))
  | .pub cs,n=>(Z8E T cs n).bind fun r=>some (.pub r)
  | _,_=>none
def Z8u (T:TS S) (cs:List (TV S)) (base:Nat):Option ((t:Ty)×Nat×(Nat→Val S t)):=(Z8E T cs base).bind fun r=>match hdF T 10 r with
  | .arr t n a::_=>some ⟨t,n,a⟩
  | _=>none
def ZaK (T:TS S) (cs:List (TV S)) (base:Nat):Option (List TypeId×Nat×Nat×(Nat→Nat)):=(Z8E T cs base).bind fun r=>match hdF T 10 r with
  | .earr ts pid n a::_=>some (ts,pid,n,a)
  | _=>none
def ZhA (pid m:Nat):List TypeId→Nat→Z2l S R→Option R
  | [],_,_=>none
  | t::ts,j,k=>bif Nat.beq m j then ZU (.iface t (.agg [.ptr pid 0])) k else ZhA pid m ts (j+1) k
def enK (ts:List TypeId) (pid m:Nat) (k:Z2l S R):Option R:=bif Nat.beq m 0 then ZU .nilif k else ZhA pid m ts 1 k
def ZhI (t:TypeId):List TypeId→Nat→Option Nat
  | [],_=>none
  | u::ts,j=>bif Nat.beq u t then some j else ZhI t ts (j+1)
def ZiH (ts:List TypeId) (pid:Nat):TV S→Option Nat
  | .nilif=>some 0
  | .iface t (.agg [.ptr p 0])=>bif Nat.beq p pid then ZhI t ts 1 else none
  | _=>none
def ZeQ (X:Yp S) (ti:TI) (h:Nat→Option (Zq S)) (a:TV S) (k:Z2l S R):Option R:=match a with
  | .ptr id off=>(h id).bind fun | .cells _ cs=>(Z96 X.T ti cs off).bind fun v=>ZU v k|_=>none
  | .ap id base i e off=>(h id).bind fun
    | .cells _ cs=>(match ZaK X.T cs base with
      | some (ts,pid,n,a)=>bif Nat.beq e 1&&Nat.beq off 0 && !ti.isAgg then(bif Nat.blt i n then enK ts pid (a i) k else none)else none
      | none=>(Z8u X.T cs base).bind fun A=>bif Nat.beq e (tsz X.T A.1)then(bif Nat.blt i A.2.1 then(Z96 X.T ti (tcl X.T A.1 (A.2.2 i)) off).bind fun v=>ZU v k else none)else none)
    | _=>none
  | .rptr id v i e off=>(h id).bind fun
    | .row _ t xs _ u=>bif Nat.beq u v&&Nat.beq (tsz X.T t) e then(bif Nat.blt i xs.length then(Z96 X.T ti (tcl X.T t (xs.getD i (tdf X.T t))) off).bind fun v=>ZU v k else none)else none
    | _=>none
  | .pub cs=>(Z96 X.T ti cs 0).bind fun v=>ZU v k
  | _=>none
def Ze0 (X:Yp S) (ti:TI) (h:Nat→Option (Zq S)) (a v:TV S) (k:Z2l S R):Option R :=
  bif Nat.beq (wds X.T (Yf v)) ti.size&&(Yf v).all Z8i then
    match a with
    | .ptr id off=>(h id).bind fun
      | .cells t cs=>(Z2Y X.T cs off (Yf v)).bind fun cs=>k ⟨some (.tup []),[(id,some (.cells t (Zab X t cs)))]⟩
      | _=>none
    | .ap id base i e off=>(h id).bind fun
      | .cells t cs=>(match ZaK X.T cs base with
       | some (ts,pid,n,a)=>bif Nat.beq e 1&&Nat.beq off 0 then(bif Nat.blt i n then(ZiH ts pid v).bind fun m =>
          (Z2Y X.T cs base [.earr ts pid n (fun j=>bif Nat.beq j i then m else a j)]).bind fun cs=>k ⟨some (.tup []),[(id,some (.cells t cs))]⟩else none)else none
       | none=>(Z8u X.T cs base).bind fun A=>bif Nat.beq e (tsz X.T A.1)then(bif Nat.blt i A.2.1 then
          (Z2Y X.T (tcl X.T A.1 (A.2.2 i)) off (Yf v)).bind fun c=>(Z6T X.T A.1 c).bind fun x =>
          (Z2Y X.T cs base [.arr A.1 A.2.1 (fun j=>bif Nat.beq j i then x else A.2.2 j)]).bind fun cs=>k ⟨some (.tup []),[(id,some (.cells t (Zab X t cs)))]⟩else none)else none)
      | _=>none
    | .rptr id ver i e off=>(h id).bind fun
      | .row et t xs p u=>bif Nat.beq u ver&&Nat.beq (tsz X.T t) e&&Nat.beq p 0&&YL (Yf v)then(bif Nat.blt i xs.length then
          (Z2Y X.T (tcl X.T t (xs.getD i (tdf X.T t))) off (Yf v)).bind fun c=>(Z6T X.T t c).bind fun x =>
            k ⟨some (.tup []),[(id,some (.row et t (xs.set i x) p u))]⟩else none)else none
      | _=>none
    | _=>none
  else none
def ZgP:TV S→TV S→Option (TV S)
  | .int k x,.int _ y=>some (.int k (bif decide (y<x)then y else x))
  | _,_=>none
def ZgN:TV S→TV S→Option (TV S)
  | .int k x,.int _ y=>some (.int k (bif decide (y>x)then y else x))
  | _,_=>none
def ZbY (f:TV S→TV S→Option (TV S)):TV S→List (TV S)→Option (TV S)
  | x,[]=>some x
  | x,y::ys=>(f x y).bind fun z=>ZbY f z ys
def ZiR (k:TK) (h:Nat→Option (Zq S)) (d:TV S):Option (TV S) :=
  match k,d with
  | .string,.str s=>some (.int .i64 (s.size:Nat))
  | .map _ _,.nilmap=>some (.int .i64 0)
  | .map _ _,.map id=>(h id).bind fun | .map _ _ m=>some (.int .i64 (m.length:Nat))|_=>none
  | .slice _,.nils=>some (.int .i64 0)
  | .slice _,.sl0=>some (.int .i64 0)
  | .slice _,.slen n=>some (.int .i64 (n:Nat))
  | .slice _,.sl _ xs=>some (.int .i64 (xs.length:Nat))
  | .slice _,.rs id v=>(h id).bind fun | .row _ _ xs _ u=>bif Nat.beq u v then some (.int .i64 (xs.length:Nat))else none|_=>none
  | .array n _,_=>some (.int .i64 (n:Nat))
  | _,_=>none
def ZaC (X:Yp S) (nid:Nat) (h:Nat→Option (Zq S)) (t:TypeId) (s x:TV S) (k:Z2l S R):Option R :=
  (X.E.ty t).bind fun ti=>match ti.k with
  | .slice e=>(X.E.ty e).bind fun ei=>(X.code e).bind fun te=>(ZaL te h x).bind fun xs=>bif Nat.blt 0 ei.size&&Nat.ble ei.bytes 100000000000 then(match s with
    | .nils=>(match xs with
      | []=>ZU .nils k
      | y::ys=>bif Nat.ble ((y::ys).length*(ei.bytes+1)) 200000000000000 then k ⟨some (.rs nid 0),[(nid,some (.row e te (y::ys) 0 0))]⟩else none)
    | .rs id v=>(h id).bind fun
      | .row e' te' es p u=>bif Nat.beq u v&&Nat.beq e' e then(if q:te'=te then(bif Nat.ble ((es.length+xs.length)*(ei.bytes+1)) 200000000000000 then
          k ⟨some (.rs id (v+1)),[(id,some (.row e te ((q▸es:List (Val S te))++xs) p (v+1)))]⟩else none)else none)else none
      | _=>none
    | _=>none)else none
  | _=>none
def Z93 {α β:Type} (e:α→α→Bool) (k:α):List (α×β)→Option β
  | []=>none
  | (k',v)::m=>bif e k k' then some v else Z93 e k m
def Zid {α β:Type} (e:α→α→Bool) (k:α) (v:β):List (α×β)→List (α×β)
  | []=>[(k,v)]
  | (k',v')::m=>bif e k k' then(k,v)::m else(k',v')::Zid e k v m
def Z4D (d:Option (TV S)) (dflt y:Nat) (k:Nat→Option R):Option R:=match d with
  | none=>k dflt
  | some (.int _ i)=>bif decide (0≤i)&&decide (i≤y)then k i.toNat else none
  | _=>none
def zeroT (X:Yp S) (t:TypeId) (ti:TI):Option (TV S):=(X.zero t).bind fun z=>bif ti.isAgg then some (.agg z)else match z with
  | [c]=>bif Y2 c then none else some c
  | _=>none
def Zig (ρ:Nat→Option (TV S)):Option Operand→Option (Option (TV S))
  | none=>some none
  | some x=>(ZY ρ x).bind fun v=>some (some v)
def Z6y (T:TS S) (ki:TI) (z:Option (List (TV S))):(t:Ty)→Val S t→Bool:=fun t x=>match ki.k,t,x with
  | .int _,.int _,_ | .string,.str,_ | .bool,.bool,_=>true
  | .struct _,.st i,x=>ki.eqOk&&ki.keyOk&&(match z with|some z=>Z3c (xpF T 200 z) (xpF T 200 [.stc i x])|none=>false)
  | _,_,_=>false
def Z6t (h:Nat→Option (Zq S)):TV S→Bool
  | .rs id _=>(match h id with|some (.row _ _ _ p _)=>Nat.beq p 0|_=>false)
  | _=>false
def ZiB (e:Nat) (d:TV S) (l hh:Nat) (k:Z2l S R):Option R:=match d with
  | .rs id v=>ZU (.rv id v l (hh-l) e) k
  | _=>none
def Zer:TV S→Bool
  | .rv _ _ _ _ _=>true
  | _=>false
mutual
def Zfh:TV S→Option (TV S)
  | .bool b=>some (.bool b)
  | .int k n=>some (.int k n)
  | .str s=>some (.str s)
  | .sl0=>some (.slen 0)
  | .sl _ xs=>some (.slen xs.length)
  | .tup vs=>(Zby vs).bind fun vs=>some (.tup vs)
  | _=>none
def Zby:List (TV S)→Option (List (TV S))
  | []=>some []
  | d::ds=>(Zfh d).bind fun d=>(Zby ds).bind fun ds=>some (d::ds)
end
def opK (X:Yp S) (nid:Nat) (ρ:Nat→Option (TV S)) (h:Nat→Option (Zq S)) (op:Op) (k:Z2l S R):Option R :=
  match op with
  | .move x=>(ZY ρ x).bind fun v=>ZU v k
  | .assign x=>(ZY ρ x).bind fun v=>ZU v k
  | .pick c a b=>(ZY ρ c).bind fun
    | .bool c=>Ziz c (ZY ρ a) (ZY ρ b) k
    | _=>none
  | .alloc t=>(X.E.ty t).bind fun _=>(X.zero t).bind fun z=>k ⟨some (.ptr nid 0),[(nid,some (.cells t (Zab X t (Z9e nid z))))]⟩
  | .box t x=>(ZY ρ x).bind fun v=>bif(Yf v).all Z8i then k ⟨some (.ptr nid 0),[(nid,some (.cells t (Zab X t (Z9e nid (Yf v)))))]⟩else none
  | .build t ps=>(X.E.ty t).bind fun ti=>(Z98 ρ ps.toList).bind fun vs=>(X.zero t).bind fun z=>match ti.k with
    | .struct fs=>(Z8f X fs vs z).bind fun cs=>ZU (.agg cs) k
    | .array _ e=>(X.E.ty e).bind fun _=>(X.code e).bind fun te=>(match z with
      | [.arr te' n a]=>if q:te'=te then(Z8e X te n vs (q▸a)).bind fun a=>ZU (.agg [.arr te n a]) k else none
      | _=>none)
    | _=>none
  | .buildSlice t n ps=>(X.E.ty t).bind fun ti=>match ti.k with
    | .slice e=>(X.E.ty e).bind fun ei=>(X.code e).bind fun te=>(Z98 ρ ps.toList).bind fun vs=>(Zf7 X h te 0 vs).bind fun es =>
        bif Nat.beq es.length n&&Nat.ble (n*ei.size) 1048576&&Nat.blt 0 ei.size then k ⟨some (.rs nid 0),(nid,some (.row e te es 0 0))::Z5G h (Yr (vs.map (·.2)))⟩else none
    | _=>none
  | .load t a=>(X.E.ty t).bind fun ti=>(ZY ρ a).bind fun a=>ZeQ X ti h a k
  | .store t a x=>(X.E.ty t).bind fun ti=>(ZY ρ a).bind fun a=>(ZY ρ x).bind fun v=>Ze0 X ti h a v k
  | .nilCheck x=>(ZY ρ x).bind fun
    | .ptr i o=>ZU (.ptr i o) k
    | .ap i b j e o=>ZU (.ap i b j e o) k
    | .rptr i v j e o=>ZU (.rptr i v j e o) k
    | .pub cs=>ZU (.pub cs) k
    | _=>none
  | .binOp op t x y _=>(ZY ρ x).bind fun x=>(ZY ρ y).bind fun y=>Zhq X op t x y k
  | .unOp op _ x=>(ZY ρ x).bind fun x=>unK op x k
  | .convert s d x=>(X.E.ty s).bind fun _=>(X.E.ty d).bind fun ti=>(ZY ρ x).bind fun x=>match ti.k,x with
    | .int kd,.int _ n=>ZU (.int kd (kd.wrap n)) k
    | .string,.str s=>ZU (.str s) k
    | _,_=>none
  | .makeFunc f a c=>(Z2G ρ a.toList).bind fun a=>(Z2G ρ c.toList).bind fun c=>ZU (.fn f a c) k
  | .makeMap t none=>(X.E.ty t).bind fun ti=>match ti.k with
    | .map kt e=>(X.code kt).bind fun kt=>(X.code e).bind fun et=>k ⟨some (.map nid),[(nid,some (.map kt et []))]⟩
    | _=>none
  | .slice t x lo hi none=>(X.E.ty t).bind fun ti=>(ZY ρ x).bind fun x=>(Zig ρ lo).bind fun lo=>(Zig ρ hi).bind fun hi=>match ti.k,x with
    | .string,.str s=>Z4D hi s.size s.size fun h=>Z4D lo 0 h fun l=>ZU (.str (s.extract l h)) k
    | .array n e,.ptr id off=>(X.E.ty e).bind fun ei=>(h id).bind fun
      | .cells _ cs=>(Z8u X.T cs off).bind fun A=>bif Nat.beq A.2.1 n&&Nat.beq (tsz X.T A.1) ei.size&&Nat.blt 0 ei.size then
          Z4D hi n n fun hh=>Z4D lo 0 hh fun l=>k ⟨some (.sl A.1 ((((List.range n).map A.2.2).take hh).drop l)),[(id,none)]⟩else none
      | _=>none
    | .slice e,d=>(X.E.ty e).bind fun ei=>(X.code e).bind fun te=>(ZaL te h d).bind fun es=>bif Nat.blt 0 ei.size then
        Z4D hi es.length es.length fun hh=>Z4D lo 0 hh fun l=>bif ti.view&&Z6t h d then ZiB ei.size d l hh k else k ⟨some (.sl te ((es.take hh).drop l)),Z5G h (Y6 d)⟩else none
    | _,_=>none
  | .fieldAddr s x f=>(X.E.ty s).bind fun ti=>(ZY ρ x).bind fun x=>match ti.k with
    | .struct fs=>(fs[f]?).bind fun f=>(X.E.ty f.1).bind fun fi=>bif Nat.blt 0 fi.size then(Zg6 X.T x f.2).bind fun v=>ZU v k else none
    | _=>none
  | .field s x f=>(X.E.ty s).bind fun ti=>(ZY ρ x).bind fun x=>match ti.k,x with
    | .struct fs,.agg cs=>(fs[f]?).bind fun f=>(X.E.ty f.1).bind fun fi=>(Z96 X.T fi cs f.2).bind fun v=>ZU v k
    | _,_=>none
  | .indexAddr t x i=>(X.E.ty t).bind fun ti=>(ZY ρ x).bind fun x=>(ZY ρ i).bind fun i=>match ti.k with
    | .array len e=>(X.E.ty e).bind fun ei=>(match x with
      | .ptr id o=>Zca len i fun i=>bif Nat.blt 0 len then ZU (.ap id o i ei.size 0) k else none
      | .pub cs=>(match hdF X.T 10 cs with
       | .arr t n a::cs=>bif Nat.beq n len&&Nat.beq (tsz X.T t) ei.size then Zca len i fun i=>ZU (.pub (tcl X.T t (a i)++.arr t (n-(i+1)) (fun m=>a (i+1+m))::cs)) k else none
       | _=>none)
      | _=>none)
    | .slice e=>(X.E.ty e).bind fun ei=>(match x with
      | .sl te xs=>bif Nat.beq (tsz X.T te) ei.size&&Nat.blt 0 ei.size then Zca xs.length i fun i=>ZU (.pub (tcl X.T te (xs.getD i (tdf X.T te)))) k else none
      | .rs id v=>(h id).bind fun
        | .row _ _ xs _ u=>bif Nat.beq u v&&Nat.blt 0 ei.size then Zca xs.length i fun i=>ZU (.rptr id v i ei.size 0) k else none
        | _=>none
      | _=>none)
    | _=>none
  | .index t x i=>(X.E.ty t).bind fun ti=>(ZY ρ x).bind fun x=>(ZY ρ i).bind fun i=>match ti.k,x with
    | .array len e,.agg [.arr te n a]=>(X.E.ty e).bind fun ei=>bif Nat.beq n len&&Nat.beq (tsz X.T te) ei.size&&(ei.isAgg==Z10 te)then Zca len i fun i=>ZU (Z7A X.T te (a i)) k else none
    | .string,.str s=>Zca s.size i fun i=>ZU (.int .u8 (s.toList.getD i 0).toNat) k
    | _,_=>none
  | .lookup t m kx ok=>(X.E.ty t).bind fun ti=>(ZY ρ m).bind fun m=>(ZY ρ kx).bind fun kv=>match ti.k,m with
    | .map kt e,.map id=>(X.E.ty e).bind fun ei=>(X.E.ty kt).bind fun ki=>(X.zero e).bind fun z=>(h id).bind fun
      | .map kc ec es=>(Z5I X.T kc kv).bind fun key=>bif Z6y X.T ki (X.zero kt) kc key&&Nat.beq ei.size 1 && !ei.isAgg && !Z10 ec then(Z6T X.T ec z).bind fun zv=>(Z8X X.T kc).bind fun eq =>
          ZU (bif ok then .tup [Z7A X.T ec ((Z93 eq key es).getD zv),.bool (Z93 eq key es).isSome]else Z7A X.T ec ((Z93 eq key es).getD zv)) k else none
      | _=>none
    | _,_=>none
  | .mapUpdate t m kx v=>(X.E.ty t).bind fun ti=>(ZY ρ m).bind fun m=>(ZY ρ kx).bind fun kv=>(ZY ρ v).bind fun v=>match ti.k,m with
    | .map kt _,.map id=>(X.E.ty kt).bind fun ki=>(h id).bind fun
      | .map kc ec es=>(Z5I X.T kc kv).bind fun key=>bif Z6y X.T ki (X.zero kt) kc key && !Z10 ec then(Z3D (S:=S) ec).bind fun _=>(Z5I X.T ec v).bind fun x=>(Z8X X.T kc).bind fun eq =>
          k ⟨some (.tup []),[(id,some (.map kc ec (Zid eq key x es)))]⟩else none
      | _=>none
    | _,_=>none
  | .makeInterface t x=>(X.E.ty t).bind fun ti=>(ZY ρ x).bind fun v=>bif Y2 v then none else match ti.k with
    | .iface=>none
    | _=>ZU (.iface t v) k
  | .typeAssert x _ t ok=>(X.E.ty t).bind fun ti=>(ZY ρ x).bind fun x=>match ti.k,x with
    | .iface,_=>none
    | _,.nilif=>bif ok then(zeroT X t ti).bind fun z=>ZU (.tup [z,.bool false]) k else none
    | _,.iface t' v=>bif Nat.beq t' t then ZU (bif ok then .tup [v,.bool true]else v) k else bif ok then(zeroT X t ti).bind fun z=>ZU (.tup [z,.bool false]) k else none
    | _,_=>none
  | .makeSlice t l c=>(X.E.ty t).bind fun ti=>(ZY ρ l).bind fun l=>(ZY ρ c).bind fun c=>match ti.k,l,c with
    | .slice e,.int _ n,.int _ n'=>(X.E.ty e).bind fun ei=>(X.code e).bind fun te=>(X.zero e).bind fun z=>(Z6T X.T te z).bind fun zv=>bif n==n'&&decide (0≤n)&&Nat.ble (n.toNat*(ei.bytes+1)) 200000000000000&&Nat.blt 0 ei.size then
        k ⟨some (.rs nid 0),[(nid,some (.row e te (List.replicate n.toNat zv) 0 0))]⟩else none
    | _,_,_=>none
  | .range t x=>(X.E.ty t).bind fun ti=>(ZY ρ x).bind fun x=>match ti.k,x with
    | .string,.str s=>k ⟨some (.iter nid),[(nid,some (.siter s 0))]⟩
    | _,_=>none
  | .next it true=>(ZY ρ it).bind fun
    | .iter id=>(h id).bind fun
      | .siter s pos=>bif decide (pos<s.size)then
          k ⟨some (.tup [.bool true,.int .i64 (pos:Nat),.int .i32 (Utf8.decode s pos).1]),[(id,some (.siter s (pos+(Utf8.decode s pos).2)))]⟩
        else ZU (.tup [.bool false]) k
      | _=>none
    | _=>none
  | .extract t i=>(ZY ρ t).bind fun
    | .tup vs=>(vs[i]?).bind fun v=>ZU v k
    | _=>none
  | .call c=>match c.callee with
    | .builtin .len=>(match c.args.toList,c.argTypes.toList with
      | [x],t::_=>(X.E.ty t).bind fun ti=>(ZY ρ x).bind fun x=>(ZiR ti.k h x).bind fun v=>ZU v k
      | _,_=>none)
    | .builtin .append=>(match c.args.toList,c.argTypes.toList with
      | [s,x],[t,t']=>bif Nat.beq t t' then(ZY ρ s).bind fun s=>(ZY ρ x).bind fun x=>ZaC X nid h t s x k else none
      | _,_=>none)
    | .builtin .min=>(Z2G ρ c.args.toList).bind fun vs=>(match vs with|x::xs=>(ZbY ZgP x xs).bind fun v=>ZU v k|[]=>none)
    | .builtin .max=>(Z2G ρ c.args.toList).bind fun vs=>(match vs with|x::xs=>(ZbY ZgN x xs).bind fun v=>ZU v k|[]=>none)
    | _=>none
  | _=>none
def Zbw (E:Env) (ρ:Nat→Option (TV S)) (c:Call):Option (TV S×List (TV S)) :=
  match c.callee with
  | .value f=>(ZY ρ f).bind fun
    | .fn (.func g) first caps=>(Z2G ρ c.args.toList).bind fun as=>some (.fn (.func g) [] [],first++as++caps)
    | .yld id=>(Z2G ρ c.args.toList).bind fun as=>some (.yld id,as)
    | _=>none
  | .invoke r m=>(ZY ρ r).bind fun
    | .iface t v=>(E.ty t).bind fun ti=>(Z7g m ti.meths).bind fun g=>(Z2G ρ c.args.toList).bind fun as=>some (.fn (.func g) [] [],v::as)
    | _=>none
  | _=>none
def ZeX (E:Env):TV S×List (TV S)→Bool
  | (.fn (.func g) _ _,_)=>match E.fn g with
    | some F=>F.pur
    | none=>false
  | _=>false
structure Z3F (S:Nat→Type) (R:Type) where
  fn:Nat→List (TV S)→(TV S→Option R)→Option R
  /-- calls on the heap whose numbers begin just above those that they can see -/
  pr:Nat→List (TV S)→Tr (Zq S)→Nat→(TV S→Tr (Zq S)→Nat→Option R)→Option R
def Zc5 (E:Env) (h:Nat→Option (Zq S)):TV S→Option (TV S)
  | .rv id v i n e=>(h id).bind fun
    | .row t te xs _ u=>bif Nat.beq u v&&Nat.beq (match E.ty t with|some ti=>ti.size|none=>0) e then some (.sl te ((xs.drop i).take n))else none
    | _=>none
  | d=>YI h d
def Z77 (E:Env) (h:Nat→Option (Zq S)):List (TV S)→Option (List (TV S))
  | []=>some []
  | d::ds=>(Zc5 E h d).bind fun c=>(Z77 E h ds).bind fun cs=>some (c::cs)
def Ziu (E:Env) (cs:Z3F S R) (h:Nat→Option (Zq S)) (tgt:TV S×List (TV S)) (k:Z2l S R):Option R:=match tgt with
  | (.fn (.func g) _ _,as)=>(Z77 E h as).bind fun fs=>cs.fn g fs fun r=>bif as.any Zer then(Zfh r).bind fun r=>ZU r k else k ⟨some r,Z5G h (Yr as)⟩
  | _=>none
def Zaq (X:Yp S) (cs:Z3F S R) (nid:Nat) (ρ:Nat→Option (TV S)) (h:Nat→Option (Zq S)) (op:Op) (k:Z2l S R) (ki:TV S×List (TV S)→Option R):Option R :=
  match Z3b op with
  | none=>opK X nid ρ h op k
  | some c=>(Zbw X.E ρ c).bind fun tgt=>bif ZeX X.E tgt then Ziu X.E cs h tgt k else ki tgt
structure StT (S:Nat→Type) where
  base:Tr (TV S)
  objs:Tr (Zq S)
  next:Nat
structure Z2m (S:Nat→Type) where
  base:Tr (TV S)
  loc:List (Nat×Option (TV S))
  objs:Tr (Zq S)
  next:Nat
def Z8N (l:List (Nat×Option (TV S))) (t:Nat):Option (Option (TV S)):=match l with
  | []=>none
  | (s,v)::l=>bif Nat.beq s t then some v else Z8N l t
def Z1v (V:Nat) (base:Tr (TV S)) (loc:List (Nat×Option (TV S))) (t:Nat):Option (TV S) :=
  bif Nat.testBit V t then base.get t else(match Z8N loc t with|some v=>v|none=>none)
def Z4w (o:Tr (Zq S)):List (Nat×Option (Zq S))→Tr (Zq S)
  | []=>o
  | (i,x)::us=>Z4w (o.set i x) us
def Z2m.put (V nt:Nat) (m:Z2m S) (dst:Option Tmp) (v:Option (TV S)):Z2m S :=
  match dst with
  | none=>m
  | some d=>bif !Nat.blt d nt then m else bif Nat.testBit V d then { m with base:=m.base.set d v }else { m with loc:=(d,v)::m.loc }
def knF (kn:List (Nat×Bool)) (t:Nat):Option Bool:=match kn with
  | []=>none
  | (s,b)::l=>bif Nat.beq s t then some b else knF l t
def Z4N (kn:List (Nat×Bool)) (dst:Option Tmp):List (Nat×Bool):=match dst with
  | none=>kn
  | some d=>kn.filter fun p => !Nat.beq p.1 d
def ovK (kn:List (Nat×Bool)) (t:Nat) (v:Option (TV S)):Option (TV S):=match kn with
  | []=>v
  | _=>match v with
    | some (.bool b)=>(match knF kn t with|some b0=>some (.bool b0)|none=>some (.bool b))
    | v=>v
def Zfg (ops:Array Oper) (ρ:Nat→Option (TV S)) (o:Oper) (kn:List (Nat×Bool)) (f:Bool→List (Nat×Bool)→Option R):Option R :=
  match o.guard with
  | none=>f true kn
  | some (j,want)=>match(ops[j]?).bind (·.dst)with
    | some t=>(match ρ t with
      | some (.bool b)=>bif b then f (true==want) ((t,true)::kn)else f (false==want) ((t,false)::kn)
      | some _=>f false kn
      | none=>none)
    | none=>none
abbrev Z2A (S:Nat→Type) (R:Type):=List Nat→Nat→List (TV S)→Tr (Zq S)→Nat→(TV S→Tr (Zq S)→Nat→Option R)→Option R
section strict
variable {α β:Type}
def sN (n:Nat) (k:Nat→α):α:=match n with
  | 0=>k 0
  | m+1=>k (m+1)
mutual
def sV:TV S→(TV S→α)→α
  | .ptr i o,k=>sN i fun i=>sN o fun o=>k (.ptr i o)
  | .ap i b j e o,k=>sN i fun i=>sN b fun b=>sN e fun e=>sN o fun o=>k (.ap i b j e o)
  | .rptr i v j e o,k=>sN i fun i=>sN v fun v=>sN e fun e=>sN o fun o=>k (.rptr i v j e o)
  | .pub cs,k=>sVs cs fun cs=>k (.pub cs)
  | .rs i v,k=>sN i fun i=>sN v fun v=>k (.rs i v)
  | .rv i v j n e,k=>sN i fun i=>sN v fun v=>k (.rv i v j n e)
  | .slen n,k=>k (.slen n)
  | .agg cs,k=>sVs cs fun cs=>k (.agg cs)
  | .tup cs,k=>sVs cs fun cs=>k (.tup cs)
  | .fn f a c,k=>sVs a fun a=>sVs c fun c=>k (.fn f a c)
  | .map i,k=>sN i fun i=>k (.map i)
  | .iface t v,k=>sV v fun v=>k (.iface t v)
  | .iter i,k=>sN i fun i=>k (.iter i)
  | .yld i,k=>sN i fun i=>k (.yld i)
  | .bool b,k=>k (.bool b)
  | .int d n,k=>k (.int d n)
  | .str b,k=>k (.str b)
  | .nilp,k=>k .nilp
  | .nils,k=>k .nils
  | .sl0,k=>k .sl0
  | .sl t xs,k=>k (.sl t xs)
  | .arr t n a,k=>k (.arr t n a)
  | .stc i x,k=>k (.stc i x)
  | .earr ts p n a,k=>sN p fun p=>k (.earr ts p n a)
  | .narr ts n,k=>k (.narr ts n)
  | .nilfn,k=>k .nilfn
  | .nilmap,k=>k .nilmap
  | .nilif,k=>k .nilif
def sVs:List (TV S)→(List (TV S)→α)→α
  | [],k=>k []
  | c::cs,k=>sV c fun c=>sVs cs fun cs=>k (c::cs)
end
def sNs:List Nat→(List Nat→α)→α
  | [],k=>k []
  | i::is,k=>sN i fun i=>sNs is fun is=>k (i::is)
def sTr (f:β→(β→α)→α):Tr β→(Tr β→α)→α
  | .leaf,k=>k .leaf
  | .node l v r,k=>sTr f l fun l=>(match v with
    | none=>sTr f r fun r=>k (.node l none r)
    | some x=>f x fun x=>sTr f r fun r=>k (.node l (some x) r))
def sO:Zq S→(Zq S→α)→α
  | .cells t cs,k=>sVs cs fun cs=>k (.cells t cs)
  | .row e t xs p v,k=>sN v fun v=>k (.row e t xs p v)
  | .map a b m,k=>k (.map a b m)
  | .siter s p,k=>k (.siter s p)
  | .loop f b ps as bo bid ex pa po,k=>sTr sV b fun b=>k (.loop f b ps as bo bid ex pa po)
def sSt (s:StT S) (k:StT S→α):α:=sTr sV s.base fun b=>sTr sO s.objs fun o=>sN s.next fun n=>k ⟨b,o,n⟩
end strict
mutual
def Z27:TV S→List Nat
  | .ptr i _ | .ap i _ _ _ _ | .rptr i _ _ _ _ | .rs i _ | .rv i _ _ _ _ | .map i | .iter i | .yld i=>[i]
  | .agg cs=>Z2O cs
  | .tup cs=>Z2O cs
  | .fn _ a b=>Z2O a++Z2O b
  | _=>[]
def Z2O:List (TV S)→List Nat
  | []=>[]
  | c::cs=>Z27 c++Z2O cs
end
def Zh4:Zq S→List Nat
  | .cells _ cs=>Z2O cs
  | .loop _ b _ _ _ _ _ _ _=>(b.ents 1 0).flatMap fun p=>Z27 p.2
  | _=>[]
def Z2H (h:Nat→Option (Zq S)):Nat→List Nat→List Nat→List Nat
  | 0,_,acc=>acc
  | _+1,[],acc=>acc
  | n+1,i::todo,acc=>bif acc.any (Nat.beq i)then Z2H h n todo acc else match h i with
    | some o=>Z2H h n (Zh4 o++todo) (i::acc)
    | none=>Z2H h n todo acc
def Z7x (h:Nat→Option (Zq S)):List Nat→Tr (Zq S)
  | []=>.leaf
  | i::is=>(Z7x h is).set i (h i)
def ZaH (o:Tr (Zq S)) (R:List Nat) (nx:Nat):List (Nat×Option (Zq S)):=(R++((o.ents 1 0).map (·.1)).filter (Nat.ble nx)).map fun i=>(i,o.get i)
def Z2N (h:Nat→Option (Zq S)):TV S→TV S
  | .rs id v=>(match h id with
    | some (.row _ t xs p u)=>bif Nat.beq p 1&&Nat.beq u v then .sl t xs else .rs id v
    | _=>.rs id v)
  | d=>d
def Z5w (h:Nat→Option (Zq S)):TV S→TV S
  | .agg cs=>.agg (cs.map (Z2N h))
  | d=>Z2N h d
def Zhw (run:Tr (Zq S)→(TV S→Tr (Zq S)→Nat→Option R)→Option R) (h:Nat→Option (Zq S)) (nx:Nat) (is Rs:List Nat) (k:ZaB S→List Nat→Nat→Option R):Option R :=
  sNs Rs fun Rs=>sTr sO (Z7x h Rs) fun o=>run o fun v o n=>bif Nat.ble nx n then k ⟨some v,ZaH o Rs nx⟩ (is++Rs) n else none
def Z6g (callH callY:Z2A S R) (path:List Nat) (h:Nat→Option (Zq S)) (nx:Nat) (tgt:TV S×List (TV S)) (k:ZaB S→List Nat→Nat→Option R):Option R:=match tgt with
  | (.fn (.func g) _ _,as)=>sVs (as.map (Z5w h)) fun fs=>Zhw (fun o k=>callH path g fs o nx k) h nx (Yr as) (Z2H h 4096 (Z2O fs) []) k
  | (.yld id,as)=>sVs (as.map (Z5w h)) fun fs=>Zhw (fun o k=>callY path id fs o nx k) h nx (Yr as) (Z2H h 4096 (id::Z2O fs) []) k
  | _=>none
def ZfR (X:Yp S) (cs:Z3F S R) (callH callY:Z2A S R) (path:List Nat) (V nt:Nat) (ops:Array Oper) (b:Nat):Nat→List Oper→List (Nat×Bool)→Z2m S→(Z2m S→Option R)→Option R
  | _,[],_,m,kk=>kk m
  | k,o::os,kn,m,kk =>
    Zfg ops (fun t=>ovK kn t (Z1v V m.base m.loc t)) o kn fun want kn=>bif want then
      Zaq X cs (b+k) (fun t=>ovK kn t (Z1v V m.base m.loc t)) m.objs.get o.op
        (fun r=>ZfR X cs callH callY path V nt ops b (k+1) os (Z4N kn o.dst) ({ m with objs:=Z4w m.objs r.upd }.put V nt o.dst r.val) kk)
        (fun tgt=>Z6g callH callY (k::path) m.objs.get m.next tgt fun x _ n=>ZfR X cs callH callY path V nt ops b (k+1) os (Z4N kn o.dst) ({ m with objs:=Z4w m.objs x.upd,next:=n }.put V nt o.dst x.val) kk)
    else ZfR X cs callH callY path V nt ops b (k+1) os (Z4N kn o.dst) (m.put V nt o.dst (some (.tup []))) kk
structure Z1o (S:Nat→Type) where
  dst:Option Tmp
  anc:Nat
  touch:List Nat
  out:ZaB S
  new:Option (Nat×Nat)
def Z9x (ρ:Nat→Option (TV S)) (op:Op):List Nat:=op.operands.toList.flatMap fun x=>match ZY ρ x with|some d=>Z24 d|none=>[]
def Z3v (anc:Nat) (ρ:Nat→Option (TV S)):List (Nat×Z1o S)→Nat→Option (TV S)
  | [],t=>ρ t
  | (j,d)::ds,t=>bif(match d.dst with|some s=>Nat.beq s t|none=>false)then(bif Nat.testBit anc j then d.out.val else none)else Z3v anc ρ ds t
def Z3n (id:Nat):List (Nat×Option (Zq S))→Option (Option (Zq S))
  | []=>none
  | (i,x)::us=>match Z3n id us with
    | some y=>some y
    | none=>bif Nat.beq i id then some x else none
def Z4o (anc:Nat) (h:Nat→Option (Zq S)):List (Nat×Z1o S)→Nat→Option (Zq S)
  | [],id=>h id
  | (j,d)::ds,id=>match Z3n id d.out.upd with
    | some x=>bif Nat.testBit anc j then x else none
    | none=>Z4o anc h ds id
def Z4A (ops:Array Oper) (ds:List (Nat×Z1o S)) (o:Oper) (k:Nat):Nat :=
  o.after.toList.foldl (fun m e=>bif Region.binds .any e&&Nat.blt e.on k then m ||| (1 <<< e.on) ||| ((ds.find? (fun d=>Nat.beq d.1 e.on)).map (·.2.anc)).getD 0 else m) 0
def Z4i (V nt:Nat):List (Nat×Z1o S)→Z2m S→Z2m S
  | [],m=>m
  | (_,d)::ds,m=>let m:=Z4i V nt ds m;{ m with objs:=Z4w m.objs d.out.upd }.put V nt d.dst d.out.val
def Z8D (X:Yp S) (cs:Z3F S R) (callH callY:Z2A S R) (path:List Nat) (V nt:Nat) (ops:Array Oper) (b:Nat):Nat→List Oper→List (Nat×Bool)→Z2m S→List (Nat×Z1o S)→(Z2m S→Option R)→Option R
  | _,[],_,m,ds,kk=>kk (Z4i V nt ds m)
  | k,o::os,kn,m,ds,kk =>
    let anc:=Z4A ops ds o k
    let ρ0:=Z3v anc (Z1v V m.base m.loc) ds
    let h:=Z4o anc m.objs.get ds
    bif o.after.all (fun e => !Region.binds .any e||Nat.blt e.on k)&&(match o.dst with|none=>true|some t=>Nat.blt t nt)&&ds.all (fun d=>Nat.testBit anc d.1||(match o.dst with
        | none=>true
        | some t => !((ops.getD d.1 o).looksAt ops).contains t && !(match d.2.dst with|some s=>Nat.beq s t|none=>false)))then
      Zfg ops (fun t=>ovK kn t (ρ0 t)) o kn fun want kn =>
        let ρ:=fun t=>ovK kn t (ρ0 t)
        bif want then
          Zaq X cs (b+k) ρ h o.op
            (fun r=>bif r.upd.all (fun u=>ds.all (fun d=>Nat.testBit anc d.1 || !d.2.touch.contains u.1&&(Z3n u.1 d.2.out.upd).isNone))then
              Z8D X cs callH callY path V nt ops b (k+1) os (Z4N kn o.dst) m ((k,⟨o.dst,anc,Z9x ρ o.op,r,none⟩)::ds) kk
            else none)
            (fun tgt=>Z6g callH callY (k::path) h m.next tgt fun x T n =>
              bif ds.all (fun d=>Nat.testBit anc d.1||d.2.new.isNone&&x.upd.all (fun u => !d.2.touch.contains u.1&&(Z3n u.1 d.2.out.upd).isNone))then
                Z8D X cs callH callY path V nt ops b (k+1) os (Z4N kn o.dst) { m with next:=n } ((k,⟨o.dst,anc,T,x,some (m.next,n)⟩)::ds) kk
              else none)
        else Z8D X cs callH callY path V nt ops b (k+1) os (Z4N kn o.dst) m ((k,⟨o.dst,anc,[],⟨some (.tup []),[]⟩,none⟩)::ds) kk
    else none
def Zbd (X:Yp S) (cs:Z3F S R) (callH callY:Z2A S R) (path:List Nat) (V nt:Nat) (ops:Array Oper) (draw:Bool) (s:StT S) (kk:StT S→Option R):Option R :=
  bif draw then Z8D X cs callH callY path V nt ops s.next 0 ops.toList [] ⟨s.base,[],s.objs,s.next+ops.size⟩ [] fun m=>sSt ⟨m.base,m.objs,m.next⟩ kk
  else ZfR X cs callH callY path V nt ops s.next 0 ops.toList [] ⟨s.base,[],s.objs,s.next+ops.size⟩ fun m=>sSt ⟨m.base,m.objs,m.next⟩ kk
def Zje:TV S→Bool
  | .arr _ _ _ | .stc _ _=>true
  | _=>false
def ZaF (T:TS S) (cs:List (TV S)) (off:Nat):Option (Option (TV S)):=(Z8E T cs off).bind fun
  | []=>some none
  | c::_=>bif Y2 c then(bif Zje c&&Nat.blt 0 (wd T c)then some (some (.bool false))else none)else some (some c)
def Zhm (T:TS S) (o:Tr (Zq S)) (b0:Tr (TV S)):Acc→Option (Option (Nat×Nat))
  | .slot t _=>(match b0.get t with
    | some (.rs id v)=>some (some (id,v))
    | _=>some none)
  | .cell t off _=>(match b0.get t with
    | some (.ptr q 0)=>(match o.get q with
      | some (.cells _ cs)=>(ZaF T cs off).bind fun
        | some (.rs id v)=>some (some (id,v))
        | _=>some none
      | _=>some none)
    | some (.ap _ _ _ _ _)=>none
    | _=>some none)
def Zea (T:TS S) (o:Tr (Zq S)) (b0:Tr (TV S)):List Acc→Option (List (Option (Nat×Nat)))
  | []=>some []
  | a::as=>(Zhm T o b0 a).bind fun x=>(Zea T o b0 as).bind fun xs=>some (x::xs)
mutual
def Z3i (n0:Nat) (L:List (Option (Nat×Nat))):TV S→Option (TV S)
  | .rs id v=>match Z5v id v 0 L with
    | some j=>some (.rs (n0+j) 0)
    | none=>bif Nat.blt id n0 && !Z3f id L then some (.rs id v)else none
  | .agg cs=>(Z7T n0 L cs).bind fun cs=>some (.agg cs)
  | .tup cs=>(Z7T n0 L cs).bind fun cs=>some (.tup cs)
  | d=>bif Z9H n0 d then some d else none
def Z7T (n0:Nat) (L:List (Option (Nat×Nat))):List (TV S)→Option (List (TV S))
  | []=>some []
  | c::cs=>(Z3i n0 L c).bind fun c=>(Z7T n0 L cs).bind fun cs=>some (c::cs)
end
def Zah (n0:Nat) (L:List (Option (Nat×Nat))):Zq S→Option (Zq S)
  | .cells t cs=>(Z7T n0 L cs).bind fun cs=>some (.cells t cs)
  | .loop fid b ps as bo bid ex pa po=>(b.tm (fun _ d=>(Z3i n0 L d).bind fun d=>some (some d)) 1 0).bind fun b=>some (.loop fid b ps as bo bid ex pa po)
  | o=>some o
def Z3H (o:Tr (Zq S)) (n0:Nat):Nat→List (Option (Nat×Nat))→Tr (Zq S)→Option (Tr (Zq S))
  | _,[],no=>some no
  | j,none::l,no=>Z3H o n0 (j+1) l no
  | j,some (id,v)::l,no=>(match o.get id with
    | some (.row e t es p u)=>bif Nat.beq u v then Z3H o n0 (j+1) l (no.set (n0+j) (some (.row e t es p 0)))else none
    | _=>none)
def Z13 (X:Yp S) (n0:Nat):Nat→List Acc→Tr (TV S)×Tr (Zq S)→Option (Tr (TV S)×Tr (Zq S))
  | _,[],r=>some r
  | j,.slot t e::as,(b,no)=>(match b.get t with
    | some .nils=>(X.E.ty e).bind fun ei=>(X.code e).bind fun te=>bif Nat.blt 0 ei.size&&(no.get (n0+j)).isNone then Z13 X n0 (j+1) as (b.set t (some (.rs (n0+j) 0)),no.set (n0+j) (some (.row e te [] 0 0)))else none
    | _=>Z13 X n0 (j+1) as (b,no))
  | j,.cell t off e::as,(b,no)=>(match b.get t with
    | some (.ptr q 0)=>(match no.get q with
      | some (.cells ct cs)=>(ZaF X.T cs off).bind fun
        | some .nils=>(X.E.ty e).bind fun ei=>(X.code e).bind fun te=>(Z2Y X.T cs off [.rs (n0+j) 0]).bind fun cs=>bif Nat.blt 0 ei.size&&(no.get (n0+j)).isNone then Z13 X n0 (j+1) as (b,(no.set q (some (.cells ct cs))).set (n0+j) (some (.row e te [] 0 0)))else none
        | _=>Z13 X n0 (j+1) as (b,no)
      | _=>Z13 X n0 (j+1) as (b,no))
    | some (.ap _ _ _ _ _)=>none
    | _=>Z13 X n0 (j+1) as (b,no))
mutual
def YS:TV S→List (Nat×Nat)
  | .rs id v=>[(id,v)]
  | .agg cs=>Z2I cs
  | .tup cs=>Z2I cs
  | .fn _ a b=>Z2I a++Z2I b
  | .iface _ v=>YS v
  | _=>[]
def Z2I:List (TV S)→List (Nat×Nat)
  | []=>[]
  | c::cs=>YS c++Z2I cs
end
def ZdO:Zq S→List (Nat×Nat)
  | .cells _ cs=>Z2I cs
  | .loop _ b _ _ _ _ _ _ _=>(b.ents 1 0).flatMap fun p=>YS p.2
  | _=>[]
def Zbn (o:Nat→Option (Zq S)) (p:Nat×Nat):Bool:=match o p.1 with
  | some (.row _ _ _ _ u)=>Nat.beq u p.2
  | _=>false
def ZaQ (o:Tr (Zq S)) (b:Tr (TV S)) (n0 keep:Nat) (A:List (Option (Nat×Nat))):List (Nat×Nat) :=
  Z8a (Zbn o.get) A (((o.ents 1 0).flatMap fun p=>bif Nat.blt p.1 n0 then ZdO p.2 else [])++((b.ents 1 0).flatMap fun p=>bif Nat.testBit keep p.1 then YS p.2 else [])) []
def ZdD (X:Yp S) (hint:Z3E) (n0:Nat) (s:StT S):Option (StT S) :=
  (Zea X.T s.objs s.base hint.accs).bind fun A =>
  let XL:=ZaQ s.objs s.base n0 hint.keep A
  let L:=XL.map some++A
  bif Zd4 L then
    (s.base.tm (fun t d=>bif Nat.testBit hint.keep t then(Z3i n0 L d).bind fun d=>some (some d)else some none) 1 0).bind fun b =>
    (s.objs.tm (fun i x=>bif Nat.blt i n0 && !Z3f i L then(Zah n0 L x).bind fun x=>some (some x)else some none) 1 0).bind fun o =>
    (Z3H s.objs n0 0 L o).bind fun o=>(Z13 X n0 XL.length hint.accs (b,o)).bind fun r=>some ⟨r.1,r.2,n0+XL.length+hint.accs.length⟩
  else none
def ZeS (X:Yp S) (hint:Z3E) (n0:Nat) (s:StT S):Option (StT S) :=
  (ZdD X hint n0 s).bind fun s=>some (bif hint.raw then s else { s with objs:=s.objs.mapv ZgH })
def Zcc (rnd:Option Nat) (h:Nat→Option (Zq S)):Bool:=match rnd with
  | none=>true
  | some l=>(match h l with|some (.loop ..)=>true|_=>false)
def StT.keep (m:Nat) (s:StT S):StT S:={ s with base:=s.base.filt m 1 0 }
def StT.keepX (F:FI) (id:Nat) (s:StT S):StT S:=match F.xm.find? fun p=>Nat.beq p.1 id with
  | some p=>s.keep p.2
  | none=>s
def Code.kid:Code→Nat→Option Code
  | .seq x _,0=>some x
  | .seq _ y,1=>some y
  | .cond _ x _,0=>some x
  | .cond _ _ y,1=>some y
  | .block _ c,0=>some c
  | .loop c,0=>some c
  | .scope c,0=>some c
  | .rangeFunc _ _ a _,0=>some a
  | .rangeFunc _ _ _ b,1=>some b
  | _,_=>none
def Code.sub (c:Code):List Nat→Option Code
  | []=>some c
  | i::p=>(Code.sub c p).bind fun d=>Code.kid d i
structure Key where
  path:List Nat
  fid:Nat
  rnd:Option Nat
  pos:List Nat
  bid:Nat
  n0:Nat
abbrev Z36 (S:Nat→Type) (R:Type):=Key→StT S→(Ex→StT S→Option R)→Option R
def Z1q (X:Yp S) (cs:Z3F S R) (ls:Z36 S R) (rnd:Option Nat) (fid:Nat) (F:FI) (callH callY:Z2A S R) (path:List Nat):List Nat→Nat→Code→StT S→(Ex→StT S→Option R)→Option R
  | _,_,.skip,s,k=>k .normal s
  | _,_,.region id ops draw,s,k=>Zbd X cs callH callY (id::path) F.vmask F.nt ops draw s fun s=>k .normal s
  | pos,bid,.seq x y,s,k=>Z1q X cs ls rnd fid F callH callY path (0::pos) bid x s fun ex s=>match ex with
    | .normal=>Z1q X cs ls rnd fid F callH callY path (1::pos) bid y s k
    | _=>k ex s
  | pos,bid,.cond c x y,s,k=>(match ZY s.base.get c with
    | some (.bool t)=>bif t then Z1q X cs ls rnd fid F callH callY path (0::pos) bid x s k else Z1q X cs ls rnd fid F callH callY path (1::pos) bid y s k
    | _=>none)
  | pos,_,.block id c,s,k=>Z1q X cs ls rnd fid F callH callY path (0::pos) id c s fun ex s=>match ex with
    | .exit i=>bif Nat.beq i id then k .normal s else k ex s
    | _=>k ex s
  | pos,bid,.loop _,s,k=>(F.hints.find? fun h=>Nat.beq h.bid bid).bind fun hint=>(ZeS X hint s.next s).bind fun s1=>ls ⟨path,fid,rnd,0::pos,bid,s.next⟩ s1 k
  | _,_,.exit id,s,k=>k (.exit id) (s.keepX F id)
  | pos,bid,.scope c,s,k=>Z1q X cs ls rnd fid F callH callY path (0::pos) bid c s k
  | _,_,.label _,s,k=>k .normal s
  | _,_,.ret,s,k=>k .ret (s.keep F.rm)
  | pos,bid,.rangeFunc f ps assign body,s0,k=>bif Zcc rnd s0.objs.get then Option.bind (match(F.hints.find? fun h=>Nat.beq h.bid bid:Option Z3E)with
      | some hint=>(Z13 X s0.next 0 hint.accs (s0.base,s0.objs)).bind fun r=>some (StT.mk r.1 r.2 (s0.next+hint.accs.length))
      | none=>some s0) fun(s:StT S)=>(ZY s.base.get f).bind fun fv=>(match fv with
    | .fn (.func g) first caps =>
      callH (bid::path) g (first++[.yld s.next]++caps) (s.objs.set s.next (some (.loop fid s.base ps.toList assign body bid .normal (bid::path) pos))) (s.next+1) fun _ objs next =>
        (match objs.get s.next with
        | some (.loop _ _ _ _ _ _ ex _ _)=>(match ex with | .busy=>none|_=>k ex { s with objs:=objs.set s.next none,next:=next })
        | _=>none)
    | _=>none)else none
  | _,_,_,_,_=>none
def ZdQ (X:Yp S) (base:Nat→Option (TV S)) (h:Nat→Option (Zq S)) (rs:List ResultVar) (k:List (TV S)→Option R):Option R:=match rs with
  | []=>k []
  | .tmp t::rs=>(base t).bind fun v=>ZdQ X base h rs fun vs=>k (v::vs)
  | .cell a t::rs=>(X.E.ty t).bind fun ti=>(base a).bind fun a=>ZeQ X ti h a fun o=>o.val.bind fun v=>ZdQ X base h rs fun vs=>k (v::vs)
def Z6D:List (TV S)→TV S
  | [v]=>v
  | vs=>.tup vs
def Z2o (V:Nat):Nat→List (TV S)→Tr (TV S)→Tr (TV S)
  | _,[],b=>b
  | k,v::vs,b=>Z2o V (k+1) vs (bif Nat.testBit V k then b.set k (some v)else b)
def Z1B (V nt:Nat):List Nat→List (TV S)→Tr (TV S)→Option (Tr (TV S))
  | [],[],b=>some b
  | p::ps,v::vs,b=>bif Nat.blt p nt then Z1B V nt ps vs (bif Nat.testBit V p then b.set p (some v)else b)else none
  | _,_,_=>none
mutual
def rnT (f:Nat→Nat):TV S→TV S
  | .ptr i o=>.ptr (f i) o
  | .ap i b j e o=>.ap (f i) b j e o
  | .rptr i v j e o=>.rptr (f i) v j e o
  | .rs i v=>.rs (f i) v
  | .rv i v j n e=>.rv (f i) v j n e
  | .slen n=>.slen n
  | .agg cs=>.agg (Z6K f cs)
  | .tup cs=>.tup (Z6K f cs)
  | .fn g a c=>.fn g (Z6K f a) (Z6K f c)
  | .map i=>.map (f i)
  | .iface t v=>.iface t (rnT f v)
  | .iter i=>.iter (f i)
  | .yld i=>.yld (f i)
  | .earr ts p n a=>.earr ts (f p) n a
  | .narr ts n=>.narr ts n
  | .bool b=>.bool b
  | .int k n=>.int k n
  | .str s=>.str s
  | .nilp=>.nilp
  | .pub cs=>.pub cs
  | .nils=>.nils
  | .sl0=>.sl0
  | .sl t xs=>.sl t xs
  | .arr t n a=>.arr t n a
  | .stc i x=>.stc i x
  | .nilfn=>.nilfn
  | .nilmap=>.nilmap
  | .nilif=>.nilif
def Z6K (f:Nat→Nat):List (TV S)→List (TV S)
  | []=>[]
  | c::cs=>rnT f c::Z6K f cs
end
mutual
def Zb7 (p:Nat→Bool):TV S→Bool
  | .ptr i _ | .ap i _ _ _ _ | .rptr i _ _ _ _ | .rs i _ | .rv i _ _ _ _ | .map i | .iter i | .yld i=>p i
  | .agg cs=>Z4Q p cs
  | .tup cs=>Z4Q p cs
  | .fn _ a b=>Z4Q p a&&Z4Q p b
  | .iface _ v=>Zb7 p v
  | .earr _ i _ _=>p i
  | _=>true
def Z4Q (p:Nat→Bool):List (TV S)→Bool
  | []=>true
  | c::cs=>Zb7 p c&&Z4Q p cs
end
def Zh5 (f:Nat→Nat):Zq S→Zq S
  | .cells t cs=>.cells t (Z6K f cs)
  | .loop fid b ps as bo bid ex pa po=>.loop fid (b.mapv (rnT f)) ps as bo bid ex pa po
  | .row e t xs p u=>.row e t xs p u
  | .map k e m=>.map k e m
  | .siter s pos=>.siter s pos
def Zjm (p:Nat→Bool):Zq S→Bool
  | .cells _ cs=>Z4Q p cs
  | .loop _ b _ _ _ _ _ _ _=>b.allV (Zb7 p)
  | _=>true
def ZgT (p:Nat→Bool) (h:Nat→Option (Zq S)):List Nat→Bool
  | []=>true
  | i::is=>(match h i with|some o=>Zjm p o|none=>true)&&ZgT p h is
def Z7X (f:Nat→Nat) (h:Nat→Option (Zq S)):List Nat→Tr (Zq S)
  | []=>.leaf
  | i::is=>(Z7X f h is).set (f i) ((h i).map (Zh5 f))
def Z7q (f:Nat→Nat) (h:Nat→Option (Zq S)):List Nat→List (Nat×Option (Zq S))
  | []=>[]
  | i::is=>(f i,(h i).map (Zh5 f))::Z7q f h is
def Zjc (k:Nat) (v:TV S) (o:Tr (Zq S)) (kk:TV S→Tr (Zq S)→Nat→Option R):Option R :=
  sNs (geN k (Z2H o.get 4096 (Z27 v++upN 0 k) [])) fun Rs =>
    bif Z9z Rs&&(Zb7 (fun j=>Nat.blt j k||Z3A j Rs) v&&ZgT (fun j=>Nat.blt j k||Z3A j Rs) o.get (upN 0 k++Rs))then
      sV (rnT (Z2M k Rs) v) fun v=>sTr sO (Z7X (Z2M k Rs) o.get (upN 0 k++Rs)) fun o=>sN (k+Z2r Rs) fun n=>kk v o n
    else none
def Zdk (cs:Z3F S R) (g:Nat) (as:List (TV S)) (o:Tr (Zq S)) (nx:Nat) (k:TV S→Tr (Zq S)→Nat→Option R):Option R :=
  sVs (as.map fun d=>(YI o.get d).getD d) fun fs=>sTr sO (Z4w o (Z5G o.get (Yr as))) fun o1=>sNs (Z2H o1.get 4096 (Z2O fs) []) fun Rs=>sN (Z2r Rs) fun n0 =>
    bif Z9z Rs&&(Z4Q (fun i=>Z3A i Rs) fs&&ZgT (fun i=>Z3A i Rs) o1.get Rs)then
      sVs (Z6K (Z4u Rs) fs) fun fs=>sTr sO (Z7X (Z4u Rs) o1.get Rs) fun s =>
      cs.pr g fs s n0 fun v os n=>sV (rnT (ZN n0 nx Rs) v) fun v=>sTr sO (Z4w o1 (Z7q (ZN n0 nx Rs) os.get (upN 0 n))) fun o2=>sN (nx+(n-n0)) fun nx2=>k v o2 nx2
    else none
def Zgu:Ex→Bool
  | .busy=>true
  | _=>false
def xK (X:Yp S) (cs:Z3F S R) (ls:Z36 S R):Nat→Bool→Z2A S R
  | 0,_,_,_,_,_,_,_=>none
  | n+1,false,path,f,args,objs,next,k=>bif Zd3 X.E f then none else
    (X.E.fn f).bind fun F=>bif F.can then Zdk cs f args objs next k else bif Nat.ble args.length F.nt then
      Z1q X cs ls none f F (xK X cs ls n false) (xK X cs ls n true) (f::path) [] 0 F.body ⟨Z2o F.vmask 0 args .leaf,objs,next⟩ fun ex s =>
        match ex with
        | .exit _ | .busy=>none
        | _=>ZdQ X s.base.get s.objs.get F.nres fun vs=>k (Z6D vs) s.objs s.next
      else none
  | n+1,true,path,l,args,objs,next,k=>(match objs.get l with
    | some (.loop fid base ps assign body bid .normal pa po)=>(X.E.fn fid).bind fun F=>(Z1B F.vmask F.nt ps args base).bind fun b =>
        Z1q X cs ls (some l) fid F (xK X cs ls n false) (xK X cs ls n true) (l::path) (0::po) bid assign ⟨b,objs,next⟩ fun ex s=>(match ex,s.objs.get l with
        | .normal,some (.loop fid2 base2 ps2 assign2 body2 bid2 .normal pa2 po2)=>Z1q X cs ls (some l) fid F (xK X cs ls n false) (xK X cs ls n true) (l::path) (1::po) bid body { s with objs:=s.objs.set l (some (.loop fid2 base2 ps2 assign2 body2 bid2 .busy pa2 po2)) } fun ex s=>(match s.objs.get l with
          | some (.loop fid3 base3 ps3 assign3 body3 bid3 .busy pa3 po3)=>bif Zgu ex then none else k (.bool (match ex with | .normal=>true|_=>false)) (s.objs.set l (some (.loop fid3 base3 ps3 assign3 body3 bid3 ex pa3 po3))) s.next
          | _=>none)
        | _,_=>none)
    | _=>none)
end ops
end
end Go.Ab
namespace Go.Ab
def plain:DV→Bool
  | .bool _ | .int _ _ | .str _ | .sl _=>true
  | _=>false
variable {S:Nat→Type}
structure TOk (T:TS S):Prop where
  cells:∀i x,dvs T (T.cells i x)=T.dcells i x
  len:∀i x,(T.dcells i x).length=T.size i
  rd:∀i cs x r,T.rd i cs=some (x,r)→dvs T cs=T.dcells i x++dvs T r
  plain:∀i x,(T.dcells i x).all plain=true
  seq:∀i e,T.seq i=some e→∀x y,Zl (T.dcells i x) (T.dcells i y)=some (e x y)
structure XOk (X:Yp S):Prop where
  t:TOk X.T
  zero:∀t z ti,X.zero t=some z→X.E.ty t=some ti→dvs X.T z=ti.zero
  code:∀t c ti,X.code t=some c→X.E.ty t=some ti→ti.size=tsz X.T c∧ti.isAgg=Z10 c
def Yc (T:TS S):TV S→List DV
  | .arr t n a=>acl T t n a
  | .stc i x=>T.dcells i x
  | .earr ts pid n a=>eal ts pid n a
  | .narr _ n=>List.replicate n .nilif
  | c=>[dv T c]
theorem ZB (T:TS S) (c:TV S) (cs:List (TV S)):dvs T (c::cs)=Yc T c++dvs T cs:=by
  cases c<;>simp[dvs,Yc]
theorem Z8c (T:TS S):dvs T []=[]:=by simp[dvs]
theorem Z20 (T:TS S):∀(a b:List (TV S)),dvs T (a++b)=dvs T a++dvs T b
  | [],b=>by simp[dvs]
  | c::a,b=>by rw[List.cons_append,ZB,ZB,Z20 T a b,List.append_assoc]
theorem Z5Q (T:TS S):∀(a b:List (TV S)),dvl T (a++b)=dvl T a++dvl T b
  | [],b=>by simp[dvl]
  | c::a,b=>by simp only[List.cons_append,dvl,Z5Q T a b]
theorem Z6k (T:TS S):∀(a:List (TV S)),dvl T a=a.map (dv T)
  | []=>by simp[dvl]
  | c::a=>by simp only[List.map_cons,dvl,Z6k T a]
section
variable {T:TS S} (hT:TOk T)
include hT
theorem Yi:∀(t:Ty) (x:Val S t),(dcl T t x).length=tsz T t
  | .bool,_=>rfl
  | .int _,_=>rfl
  | .str,_=>rfl
  | .sl _,_=>by simp[dcl,tsz]
  | .st i,x=>hT.len i x
  | .arr n t,a=>by
    simp only[dcl,tsz,List.length_flatMap];have:(List.map (fun j=>(dcl T t (a j)).length) (List.range n))=List.map (fun _=>tsz T t) (List.range n):=List.map_congr_left fun j _=>Yi t (a j);rw[this,List.map_const',List.sum_replicate_nat,List.length_range]
theorem Z33:∀(t:Ty) (x:Val S t),(dcl T t x).all plain=true
  | .bool,_=>rfl
  | .int _,_=>rfl
  | .str,_=>rfl
  | .sl _,_=>by simp[dcl,plain]
  | .st i,x=>hT.plain i x
  | .arr n t,a=>by
    rw[List.all_eq_true];intro c hc;simp only[dcl,List.mem_flatMap]at hc;obtain⟨j,_,hc⟩:=hc;exact List.all_eq_true.1 (Z33 t (a j)) c hc
theorem Z16 (t:Ty) (n:Nat) (a:Nat→Val S t):(acl T t n a).length=n*tsz T t:=Yi hT (.arr n t) a
theorem Yt (t:Ty) (n:Nat) (a:Nat→Val S t):(acl T t n a).all plain=true:=Z33 hT (.arr n t) a
theorem Z2Z:∀(t:Ty) (x:Val S t),dvs T (tcl T t x)=dcl T t x
  | .bool,_=>by simp[tcl,dvs,dv,dcl]
  | .int _,_=>by simp[tcl,dvs,dv,dcl]
  | .str,_=>by simp[tcl,dvs,dv,dcl]
  | .sl _,_=>by simp[tcl,dvs,dv,dcl]
  | .st i,x=>by simp only[tcl,dvs,List.append_nil,dcl]
  | .arr n t,a=>by simp only[tcl,dvs,List.append_nil];rfl
theorem Z1M:∀(t:Ty) (x:Val S t),dv T (Z7A T t x)=YT T t x
  | .bool,_=>by simp[Z7A,dv,YT]
  | .int _,_=>by simp[Z7A,dv,YT]
  | .str,_=>by simp[Z7A,dv,YT]
  | .sl _,_=>by simp[Z7A,dv,YT]
  | .st i,x=>by simp only[Z7A,dv,YT,dvs,List.append_nil]
  | .arr n t,a=>by simp[Z7A,dv,YT,dvs]
theorem Z32 (c:TV S):(Yc T c).length=wd T c:=by
  cases c<;>simp[Yc,wd]
  · rename_i t n a
    exact Z16 hT t n a
  · rename_i i x
    exact hT.len i x
  · simp[eal]
theorem Y7:∀(cs:List (TV S)),(dvs T cs).length=wds T cs
  | []=>by simp[dvs,wds]
  | c::cs=>by rw[ZB,List.length_append,Z32 hT c,Y7 cs,wds]
theorem Z5n (i:Nat) (x:S i) (r:List (TV S)):dvs T (T.cells i x++r)=dvs T (.stc i x::r):=by
  rw[Z20,hT.cells];simp[dvs]
theorem Zip (i:Nat) (x:S i) (r:List (TV S)):wds T (T.cells i x++r)=wds T (.stc i x::r):=by
  rw[←Y7 hT,←Y7 hT,Z5n hT]
theorem Z73:∀(f:Nat) {cs r:List (TV S)} {n:Nat},Z9Y T f cs n=some r→wds T cs=n+wds T r∧(dvs T cs).drop n=dvs T r
  | 0,_,_,_,h=>by cases h
  | f+1,[],r,n,h=>by
    simp only[Z9Y]at h;obtain⟨h1,h⟩:=Z3 h;cases h;have:=Nat.eq_of_beq_eq_true h1;subst this;simp[wds,dvs]
  | f+1,c::cs,r,n,h=>by
    simp only[Z9Y]at h;cases h0:Nat.beq n 0 with
    | true =>
      rw[h0]at h;cases h;have:=Nat.eq_of_beq_eq_true h0;subst this;simp
    | false =>
      rw[h0]at h;simp only[cond_false]at h;cases h1:Nat.ble (wd T c) n with
      | true =>
        rw[h1]at h;simp only[cond_true]at h;obtain⟨h2,h3⟩:=Z73 f h;have h1:=Nat.le_of_ble_eq_true h1;refine⟨by rw[wds];omega,?_⟩
        rw[ZB,←h3,List.drop_append,Z32 hT c,List.drop_eq_nil_of_le (by rw[Z32 hT c];exact h1),List.nil_append]
      | false =>
        rw[h1]at h;simp only[cond_false]at h;split at h
        · rename_i i x
          obtain⟨h2,h3⟩:=Z73 f h;rw[Zip hT]at h2;rw[Z5n hT]at h3;exact⟨h2,h3⟩
        · cases h
theorem Z1D {cs r:List (TV S)} {n:Nat} (h:Z8E T cs n=some r):wds T cs=n+wds T r∧(dvs T cs).drop n=dvs T r:=Z73 hT 400 h
theorem Z7y:∀(f:Nat) {cs r:List (TV S)} {n:Nat},Zat T f cs n=some r→wds T r=n∧(dvs T cs).take n=dvs T r
  | 0,_,_,_,h=>by cases h
  | f+1,[],r,n,h=>by
    simp only[Zat]at h;obtain⟨h1,h⟩:=Z3 h;cases h;have:=Nat.eq_of_beq_eq_true h1;subst this;simp[wds,dvs]
  | f+1,c::cs,r,n,h=>by
    simp only[Zat]at h;cases h0:Nat.beq n 0 with
    | true =>
      rw[h0]at h;cases h;have:=Nat.eq_of_beq_eq_true h0;subst this;simp[wds,dvs]
    | false =>
      rw[h0]at h;simp only[cond_false]at h;cases h1:Nat.ble (wd T c) n with
      | true =>
        rw[h1]at h;simp only[cond_true]at h;obtain⟨r',h2,h⟩:=Z0 h;cases h;obtain⟨h3,h4⟩:=Z7y f h2;have h1:=Nat.le_of_ble_eq_true h1;refine⟨by rw[wds];omega,?_⟩
        rw[ZB,ZB,←h4,List.take_append,Z32 hT c,List.take_of_length_le (by rw[Z32 hT c];exact h1)]
      | false =>
        rw[h1]at h;simp only[cond_false]at h;split at h
        · rename_i i x
          obtain⟨h2,h3⟩:=Z7y f h;rw[Z5n hT]at h3;exact⟨h2,h3⟩
        · cases h
theorem Zau {cs r:List (TV S)} {n:Nat} (h:Zhe T cs n=some r):wds T r=n∧(dvs T cs).take n=dvs T r:=Z7y hT 400 h
theorem Z2T:∀(n:Nat) (cs:List (TV S)),dvs T (hdF T n cs)=dvs T cs
  | 0,cs=>by cases cs with
    | nil=>rfl
    | cons c cs=>cases c<;>rfl
  | n+1,[]=>rfl
  | n+1,c::cs=>by
    cases c<;>first|rfl|skip
    simp only[hdF];rw[Z2T n,Z5n hT]
theorem Z2k:∀(n:Nat) (cs:List (TV S)),dvs T (xpF T n cs)=dvs T cs
  | 0,cs=>by cases cs with
    | nil=>rfl
    | cons c cs=>cases c<;>rfl
  | n+1,[]=>rfl
  | n+1,c::cs=>by
    by_cases hc:∃i x,c=.stc i x
    · obtain⟨i,x,rfl⟩:=hc
      simp only[xpF];rw[Z2k n,Z5n hT]
    · have:xpF T (n+1) (c::cs)=c::xpF T n cs:=by
        cases c<;>first|rfl|exact absurd ⟨_,_,rfl⟩ hc
      rw[this,ZB,ZB,Z2k n]
omit hT in
theorem Z11:∀(cs:List DV) (off:Nat) (vs:List DV),off+vs.length≤cs.length→Yh cs off vs=cs.take off++vs++cs.drop (off+vs.length)
  | cs,off,[],_=>by
    cases cs<;>simp[Yh]
  | [],off,v::vs,h=>by simp at h
  | c::cs,0,v::vs,h=>by
    simp only[Yh,List.take_zero,List.nil_append,List.cons_append,Nat.zero_add,List.length_cons,List.drop_succ_cons];rw[Z11 cs 0 vs (by simp at h;omega)]
    simp
  | c::cs,n+1,v::vs,h=>by
    simp only[Yh,List.take_succ_cons,List.cons_append];rw[Z11 cs n (v::vs) (by simp at h⊢;omega)]
    rw[show n+1+(v::vs).length=(n+(v::vs).length)+1 by omega,List.drop_succ_cons]
theorem Z1e {cs vs r:List (TV S)} {off:Nat} (h:Z2Y T cs off vs=some r):off+wds T vs≤wds T cs∧Yh (dvs T cs) off (dvs T vs)=dvs T r:=by
  unfold Z2Y at h;obtain⟨a,h1,h⟩:=Z0 h;obtain⟨b,h2,h⟩:=Z0 h;cases h;obtain⟨h3,h4⟩:=Zau hT h1;obtain⟨h5,h6⟩:=Z1D hT h2;refine⟨by omega,?_⟩
  rw[Z11 _ _ _ (by rw[Y7 hT,Y7 hT];omega),Z20,Z20,←h4,←h6,Y7 hT vs]
omit hT in
theorem YC (v:TV S):cellsOf (dv T v)=dvs T (Yf v):=by
  cases v<;>simp[dv,cellsOf,Yf,dvs]
theorem Z3L {ti:TI} {cs:List (TV S)} {off:Nat} {v:TV S} (h:Z96 T ti cs off=some v):YP ti (dvs T cs) off=some (dv T v)∧Y2 v=false:=by
  unfold Z96 at h;obtain⟨r,h1,h⟩:=Z0 h;obtain⟨h2,h3⟩:=Z1D hT h1;unfold YP;cases ha:ti.isAgg with
  | true =>
    rw[ha]at h;simp only[cond_true]at h⊢;obtain⟨p,h4,h⟩:=Z0 h;cases h;obtain⟨h5,h6⟩:=Zau hT h4;have hle:ti.size≤wds T r:=by
      have:=congrArg List.length h6;rw[List.length_take,Y7 hT,Y7 hT]at this;omega
    have:Nat.ble (off+ti.size) (dvs T cs).length=true:=by rw[Nat.ble_eq,Y7 hT];omega
    rw[this,h3,h6];simp[dv,Y2]
  | false =>
    rw[ha]at h;simp only[cond_false]at h⊢;rw[←Z2T hT 10 r]at h3;cases hr:hdF T 10 r with
    | nil=>rw[hr]at h;cases h
    | cons c r =>
      rw[hr]at h h3;simp only at h;cases hc:Y2 c with
      | true=>rw[hc]at h;cases h
      | false =>
        rw[hc]at h;cases h;refine⟨?_,hc⟩;have:(dvs T cs)[off]?=(List.drop off (dvs T cs))[0]? := by simp
        rw[this,h3,ZB];cases v<;>simp[Yc,Y2]at hc⊢
omit hT in
theorem Z1T {t:Ty} {cs r:List (TV S)} {x:List (Val S t)} (h:Z88 t cs=some (x,r)):dvs T cs=.sl (x.map (dcl T t))::dvs T r:=by
  unfold Z88 at h;cases cs with
  | nil=>cases h
  | cons c cs =>
    simp only at h;obtain⟨xs,h1,h⟩:=Z0 h;cases h;unfold ZiG at h1;split at h1
    · cases h1;simp[dvs,dv]
    · split at h1
      · rename_i e;subst e;cases h1;simp[dvs,dv]
      · cases h1
    · cases h1
omit hT in
theorem Z9b {cs r:List (TV S)} {x:Bool} (h:Z65 cs=some (x,r)):dvs T cs=[.bool x]++dvs T r:=by
  unfold Z65 at h;split at h
  · cases h;simp[dvs,dv]
  · cases h
omit hT in
theorem ZL {k:IntKind} {cs r:List (TV S)} {x:Int} (h:Yx k cs=some (x,r)):dvs T cs=[.int k x]++dvs T r:=by
  unfold Yx at h;split at h
  · obtain⟨h1,h⟩:=Z3 h
    cases h;have:=eq_of_beq h1;subst this;simp[dvs,dv]
  · cases h
omit hT in
theorem Z3Q {cs r:List (TV S)} {x:ByteArray} (h:Z5B cs=some (x,r)):dvs T cs=[.str x]++dvs T r:=by
  unfold Z5B at h;split at h
  · cases h;simp[dvs,dv]
  · cases h
omit hT in
theorem Z7n {n:Nat} {t:Ty} {cs r:List (TV S)} {x:Nat→Val S t} (h:Z9a n t cs=some (x,r)):dvs T cs=acl T t n x++dvs T r:=by
  unfold Z9a at h;split at h
  · split at h
    · rename_i e
      obtain⟨h1,h⟩:=Z3 h;cases h;have:=Nat.eq_of_beq_eq_true h1;subst this e;rw[ZB];rfl
    · cases h
  · cases h
omit hT in
theorem Z8o {T0:TS S} (hc:∀i (x:S i),dvs T (T0.cells i x)=T.dcells i x) (i:Nat):∀(n:Nat) (cs:List (TV S)),dvs T (YU T0 i n cs)=dvs T cs
  | 0,cs=>by cases cs with
    | nil=>rfl
    | cons c cs=>cases c<;>rfl
  | n+1,[]=>rfl
  | n+1,c::cs=>by
    cases c<;>first|rfl|skip
    rename_i j x;simp only[YU];cases Nat.beq j i with
    | true=>rfl
    | false=>simp only[cond_false];rw[Z8o hc i n,Z20,hc];rfl
theorem Z9S (i:Nat):∀(n:Nat) (cs:List (TV S)),dvs T (YU T i n cs)=dvs T cs
  | 0,cs=>by cases cs with
    | nil=>rfl
    | cons c cs=>cases c<;>rfl
  | n+1,[]=>rfl
  | n+1,c::cs=>by
    cases c<;>first|rfl|skip
    rename_i j x;simp only[YU];cases Nat.beq j i with
    | true=>rfl
    | false=>simp only[cond_false];rw[Z9S i n,Z5n hT]
omit hT in
theorem Yu {i:Nat} {f:List (TV S)→Option (S i×List (TV S))} (hf:∀cs x r,f cs=some (x,r)→dvs T cs=T.dcells i x++dvs T r) {cs r:List (TV S)} {x:S i} (h:rdW i f cs=some (x,r)):dvs T cs=T.dcells i x++dvs T r:=by
  unfold rdW at h;split at h
  · split at h
    · rename_i e;subst e;cases h;simp[dvs]
    · cases h
  · exact hf _ _ _ h
theorem Zir {t:Ty} {cs r:List (TV S)} {x:Val S t} (h:trd T t cs=some (x,r)):dvs T cs=dcl T t x++dvs T r:=by
  cases t with
  | bool =>
    simp only[trd,Z65]at h;split at h
    · cases h;simp[dvs,dv,dcl]
    · cases h
  | int k =>
    simp only[trd,Yx]at h;split at h
    · obtain⟨h1,h⟩:=Z3 h
      cases h;have:=eq_of_beq h1;subst this;simp[dvs,dv,dcl]
    · cases h
  | str =>
    simp only[trd,Z5B]at h;split at h
    · cases h;simp[dvs,dv,dcl]
    · cases h
  | sl t =>
    simp only[trd]at h;rw[Z1T h];rfl
  | arr n t =>
    simp only[trd,Z9a]at h;split at h
    · split at h
      · rename_i e
        obtain⟨h1,h⟩:=Z3 h;cases h;have:=Nat.eq_of_beq_eq_true h1;subst this e;rw[ZB];rfl
      · cases h
    · cases h
  | st i =>
    simp only[trd]at h;rw[←Z9S hT i 6 cs,Yu (fun _ _ _ h=>hT.rd i _ _ _ h) h];rfl
theorem Z2y {t:Ty} {cs:List (TV S)} {x:Val S t} (h:Z6T T t cs=some x):dvs T cs=dcl T t x:=by
  unfold Z6T at h;obtain⟨⟨x',r⟩,h1,h⟩:=Z0 h;cases r with
  | nil =>
    cases h;have:=Zir hT h1;rw[this,Z8c,List.append_nil]
  | cons c r=>cases h
omit hT in
theorem Z8C {t:Ty} (x:Val S t) (h:Z10 t=false):dcl T t x=[YT T t x]:=by
  cases t<;>first|rfl|cases h
theorem Z3l {t:Ty} {v:TV S} {x:Val S t} (h:Z5I T t v=some x):dv T v=YT T t x:=by
  have ZdV:∀(c:TV S),Z10 t=false→Z6T T t [c]=some x→dvs T [c]=[dv T c]→dv T c=YT T t x:=fun c ha hd hc=>by
    have h2:=Z2y hT hd;rw[hc,Z8C x ha]at h2;exact List.cons.inj h2 |>.1
  by_cases hag:∃cs,v=.agg cs
  · obtain⟨cs,rfl⟩:=hag
    simp only[Z5I]at h;obtain⟨h1,h⟩:=Z3 h;have h2:=Z2y hT h;cases t<;>simp only[Z10,Bool.false_eq_true]at h1
    · simp only[dv,YT,h2];rfl
    · simp only[dv,YT,h2];rfl
  · have hd:(bif Z10 t then none else Z6T T t [v])=some x:=by
      unfold Z5I at h;split at h
      · rename_i cs;exact absurd ⟨cs,rfl⟩ hag
      · exact h
    cases ha:Z10 t with
    | true=>rw[ha]at hd;cases hd
    | false =>
      rw[ha]at hd;simp only[cond_false]at hd
      by_cases hr:Y2 v=true
      · exfalso
        cases v<;>simp only[Y2,Bool.false_eq_true]at hr
        all_goals
          unfold Z6T at hd;obtain⟨q,h1,_⟩:=Z0 hd;cases t<;>simp[Z10]at ha<;>simp[trd,Z65,Yx,Z5B,Z88,ZiG]at h1
      · refine ZdV v ha hd ?_
        rw[ZB,Z8c,List.append_nil];cases v<;>simp[Yc,Y2]at hr⊢
theorem Zg7 {v r:TV S} {n:Nat} (h:Zg6 T v n=some r):Z1h (dv T v) n=some (dv T r):=by
  cases v<;>simp only[Zg6,reduceCtorEq]at h
  · cases h;simp[dv,Z1h]
  · cases h;simp[dv,Z1h];omega
  · cases h;simp[dv,Z1h]
  · obtain⟨q,h1,h⟩:=Z0 h
    cases h;simp only[dv,Z1h,(Z1D hT h1).2]
end
section
variable {T:TS S}
theorem ZdI {c:DV} (h:plain c=true):Zh c=true:=by cases c<;>simp[plain,Zh]at h⊢
theorem ZfI {c:DV} (n:Nat) (h:plain c=true):bdd n c=true:=by cases c<;>simp[plain,bdd]at h⊢
theorem ZfJ {c:DV} (hh:Nat→Option Zd) (h:plain c=true):frz hh c=some c:=by cases c<;>simp[plain,frz,Zh]at h⊢
theorem ZdJ {c:DV} (h:plain c=true):Zj c=[]:=by cases c<;>simp[plain,Zj]at h⊢
theorem ZfK {c:DV} (h:plain c=true):ZA c=[]:=by cases c<;>simp[plain,ZA]at h⊢
theorem ZdH {c:DV} (h:plain c=true):ZI c=true:=by cases c<;>simp[plain,ZI]at h⊢
theorem ZfL {c:DV} (n:Nat) (L:List (Option (Nat×Nat))) (h:plain c=true):ren n L c=some c:=by cases c<;>simp[plain,ren,bdd]at h⊢
theorem Z4I:∀(a b:List DV),Zc (a++b)=(Zc a&&Zc b)
  | [],b=>by simp[Zc]
  | c::a,b=>by simp only[List.cons_append,Zc,Z4I a b,Bool.and_assoc]
theorem Z7F (n:Nat):∀(a b:List DV),Z1P n (a++b)=(Z1P n a&&Z1P n b)
  | [],b=>by simp[Z1P]
  | c::a,b=>by simp only[List.cons_append,Z1P,Z7F n a b,Bool.and_assoc]
theorem Z4Y:∀(a b:List DV),Zk (a++b)=Zk a++Zk b
  | [],b=>by simp[Zk]
  | c::a,b=>by simp only[List.cons_append,Zk,Z4Y a b,List.append_assoc]
theorem Z5x:∀(a b:List DV),ZJ (a++b)=ZJ a++ZJ b
  | [],b=>by simp[ZJ]
  | c::a,b=>by simp only[List.cons_append,ZJ,Z5x a b,List.append_assoc]
theorem Z7O (h:Nat→Option Zd):∀(a b:List DV),Z1N h (a++b)=(Z1N h a).bind fun x=>(Z1N h b).bind fun y=>some (x++y)
  | [],b=>by simp[Z1N]
  | c::a,b=>by
    simp only[List.cons_append,Z1N,Z7O h a b];cases frz h c with
    | none=>rfl
    | some c'=>cases Z1N h a with
      | none=>rfl
      | some a'=>cases Z1N h b<;>simp
theorem Z7U (n:Nat) (L:List (Option (Nat×Nat))):∀(a b:List DV),Z2w n L (a++b)=(Z2w n L a).bind fun x=>(Z2w n L b).bind fun y=>some (x++y)
  | [],b=>by simp[Z2w]
  | c::a,b=>by
    simp only[List.cons_append,Z2w,Z7U n L a b];cases ren n L c with
    | none=>rfl
    | some c'=>cases Z2w n L a with
      | none=>rfl
      | some a'=>cases Z2w n L b<;>simp
theorem Z1J:∀{cs:List DV},cs.all plain=true→Zc cs=true
  | [],_=>rfl
  | c::cs,h=>by
    simp only[List.all_cons,Bool.and_eq_true]at h;simp only[Zc,ZdI h.1,Z1J h.2,Bool.and_self]
theorem Z60 (n:Nat):∀{cs:List DV},cs.all plain=true→Z1P n cs=true
  | [],_=>rfl
  | c::cs,h=>by
    simp only[List.all_cons,Bool.and_eq_true]at h;simp only[Z1P,ZfI n h.1,Z60 n h.2,Bool.and_self]
theorem Z61 (hh:Nat→Option Zd):∀{cs:List DV},cs.all plain=true→Z1N hh cs=some cs
  | [],_=>rfl
  | c::cs,h=>by
    simp only[List.all_cons,Bool.and_eq_true]at h;simp[Z1N,ZfJ hh h.1,Z61 hh h.2]
theorem Z4U:∀{cs:List DV},cs.all plain=true→Zk cs=[]
  | [],_=>rfl
  | c::cs,h=>by
    simp only[List.all_cons,Bool.and_eq_true]at h;simp[Zk,ZdJ h.1,Z4U h.2]
theorem Z62:∀{cs:List DV},cs.all plain=true→ZJ cs=[]
  | [],_=>rfl
  | c::cs,h=>by
    simp only[List.all_cons,Bool.and_eq_true]at h;simp[ZJ,ZfK h.1,Z62 h.2]
theorem Z2u:∀{cs:List DV},cs.all plain=true→cs.all ZI=true
  | [],_=>rfl
  | c::cs,h=>by
    simp only[List.all_cons,Bool.and_eq_true]at h;simp[ZdH h.1,Z2u h.2]
theorem Z63 (n:Nat) (L:List (Option (Nat×Nat))):∀{cs:List DV},cs.all plain=true→Z2w n L cs=some cs
  | [],_=>rfl
  | c::cs,h=>by
    simp only[List.all_cons,Bool.and_eq_true]at h;simp[Z2w,ZfL n L h.1,Z63 n L h.2]
end
def dvO (T:TS S):Zq S→Zd
  | .cells t cs=>.cells t (dvs T cs)
  | .row e t xs p v=>.row e (xs.map (dcl T t)) p v
  | .map kt et m=>.map (m.map fun p=>(YT T kt p.1,YT T et p.2))
  | .siter s pos=>.siter s pos
  | .loop fid b ps as bo bid ex _ _=>.loop fid (b.mapv (dv T)) ps as bo bid ex
end Go.Ab
namespace Go.Ab
variable {S:Nat→Type}
def dvr (T:TS S) (ρ:Nat→Option (TV S)):Nat→Option DV:=fun t=>(ρ t).map (dv T)
def dvh (T:TS S) (h:Nat→Option (Zq S)):Nat→Option Zd:=fun i=>(h i).map (dvO T)
def dvu (T:TS S) (u:List (Nat×Option (Zq S))):List (Nat×Option Zd):=u.map fun p=>(p.1,p.2.map (dvO T))
def Yd (T:TS S) (o:ZaB S):Out:=⟨o.val.map (dv T),dvu T o.upd⟩
theorem Yn {α β:Type} (f:α→β):∀(t:Tr α) (k:Nat),(t.mapv f).get k=(t.get k).map f
  | .leaf,k=>rfl
  | .node l v r,k=>by
    simp only[Tr.mapv,Tr.get];cases Nat.beq k 0 with
    | true=>rfl
    | false=>cases Nat.beq (k % 2) 1 with
      | true=>exact Yn f l _
      | false=>exact Yn f r _
theorem Z2s {α β:Type} (f:α→β) (v:Option α):∀(n:Nat) (t:Tr α) (k:Nat),(Tr.setAux n t k v).mapv f=Tr.setAux n (t.mapv f) k (v.map f)
  | 0,t,k=>rfl
  | n+1,.leaf,k=>by
    simp only[Tr.setAux,Tr.mapv];cases Nat.beq k 0 with
    | true=>rfl
    | false=>cases Nat.beq (k % 2) 1 with
      | true=>simp only[cond_true,cond_false,Tr.mapv,Z2s f v n .leaf];rfl
      | false=>simp only[cond_false,Tr.mapv,Z2s f v n .leaf];rfl
  | n+1,.node l x r,k=>by
    simp only[Tr.setAux,Tr.mapv];cases Nat.beq k 0 with
    | true=>rfl
    | false=>cases Nat.beq (k % 2) 1 with
      | true=>simp only[cond_true,cond_false,Tr.mapv,Z2s f v n l]
      | false=>simp only[cond_false,Tr.mapv,Z2s f v n r]
theorem YF {α β:Type} (f:α→β) (t:Tr α) (k:Nat) (v:Option α):(t.set k v).mapv f=(t.mapv f).set k (v.map f):=Z2s f v _ t k
theorem Zcl {α β:Type} (f:α→β) (l:Tr α) (v:Option α) (r:Tr α):(Tr.mkn l v r).mapv f=Tr.mkn (l.mapv f) (v.map f) (r.mapv f):=by
  unfold Tr.mkn;cases l<;>cases v<;>cases r<;>rfl
theorem Z7f {α β:Type} (f:α→β) (m:Nat):∀(t:Tr α) (a b:Nat),(t.filt m a b).mapv f=(t.mapv f).filt m a b
  | .leaf,a,b=>rfl
  | .node l v r,a,b=>by
    simp only[Tr.filt,Tr.mapv,Zcl,Z7f f m l,Z7f f m r];cases Nat.testBit m b<;>rfl
theorem Z6z {α β:Type} (f:α→β) (g:Nat→α→Option (Option α)) (g':Nat→β→Option (Option β)) (hg:∀k x y,g k x=some y→g' k (f x)=some (y.map f)) :
    ∀(t:Tr α) (a b:Nat) (r:Tr α),t.tm g a b=some r→(t.mapv f).tm g' a b=some (r.mapv f)
  | .leaf,a,b,r,h=>by simp only[Tr.tm,Option.some.injEq]at h;subst h;rfl
  | .node l v q,a,b,r,h=>by
    simp only[Tr.tm]at h;obtain⟨l',h1,h⟩:=Z0 h;obtain⟨v',h2,h⟩:=Z0 h;obtain⟨q',h3,h⟩:=Z0 h;cases h;simp only[Tr.mapv,Tr.tm,Z6z f g g' hg l _ _ _ h1,Z6z f g g' hg q _ _ _ h3,Option.bind_some,Zcl];cases v with
    | none=>cases h2;rfl
    | some x =>
      simp only[Option.map_some];rw[hg _ _ _ h2];rfl
section
variable (T:TS S)
theorem ZgS (v:Value):ZeT v=(ZdF (S:=S) v).map (dv T):=by
  unfold ZeT ZdF;split<;>simp[dv]
theorem ZR (ρ:Nat→Option (TV S)) (x:Operand):Y1 (dvr T ρ) x=(ZY ρ x).map (dv T):=by
  cases x with
  | tmp t=>rfl
  | const v=>exact ZgS T v
  | func f=>simp[Y1,ZY,dv,dvl]
  | global g=>rfl
theorem Z3g (ρ:Nat→Option (TV S)):∀xs,Z1s (dvr T ρ) xs=(Z2G ρ xs).map (dvl T)
  | []=>by simp[Z1s,Z2G,dvl]
  | x::xs=>by
    simp only[Z1s,Z2G,ZR,Z3g ρ xs];cases ZY ρ x with
    | none=>rfl
    | some v=>cases Z2G ρ xs with
      | none=>rfl
      | some vs=>simp[dvl]
theorem ZiW (ρ:Nat→Option (TV S)) (x:Option Operand):Z2f (dvr T ρ) x=(Zig ρ x).map (Option.map (dv T)):=by
  cases x with
  | none=>rfl
  | some x =>
    simp only[Z2f,Zig,ZR];cases ZY ρ x<;>rfl
end
def Z4M (pid:Nat):DV→Bool
  | .nilif=>true
  | .iface _ (.agg [.ptr p 0])=>Nat.beq p pid
  | _=>false
theorem ZbQ (pid:Nat):∀(ts:List TypeId) (m:Nat),Z4M pid (enD pid ts m)=true
  | ts,0=>by cases ts<;>rfl
  | [],m+1=>rfl
  | t::ts,1=>by simp[enD,Z4M]
  | t::ts,m+2=>by simp only[enD];exact ZbQ pid ts (m+1)
theorem YD (ts:List TypeId) (pid n:Nat) (a:Nat→Nat):(eal ts pid n a).all (Z4M pid)=true:=by
  rw[List.all_eq_true];intro c hc;obtain⟨j,_,rfl⟩:=List.mem_map.1 hc;exact ZbQ pid ts _
theorem Z1d (pid n:Nat):(List.replicate n DV.nilif).all (Z4M pid)=true:=by
  rw[List.all_eq_true];intro c hc;rw[(List.mem_replicate.1 hc).2];rfl
theorem Z1z {pid:Nat} {d:DV} (h:Z4M pid d=true):d=.nilif∨∃t,d=.iface t (.agg [.ptr pid 0]):=by
  unfold Z4M at h;split at h
  · exact .inl rfl
  · rw[Nat.eq_of_beq_eq_true h];exact .inr ⟨_,rfl⟩
  · cases h
theorem Z6n {pid:Nat}:∀{l:List DV},l.all (Z4M pid)=true→Zk l=[]
  | [],_=>rfl
  | d::l,h=>by
    simp only[List.all_cons,Bool.and_eq_true]at h;rcases Z1z h.1 with rfl|⟨t,rfl⟩<;>simp[Zk,Zj,Z6n h.2]
theorem Z8G (h':Nat→Option Zd) {pid:Nat}:∀{l:List DV},l.all (Z4M pid)=true→Z1N h' l=bif Zc l then some l else none
  | [],_=>rfl
  | d::l,h=>by
    simp only[List.all_cons,Bool.and_eq_true]at h;rcases Z1z h.1 with rfl|⟨t,rfl⟩
    · simp only[Z1N,frz,Zh,Zc,cond_true,Option.bind_some,Z8G h' h.2,Bool.true_and]
      cases Zc l<;>rfl
    · simp[Z1N,frz,Zh,Zc]
theorem Z6I (n:Nat):Zc (List.replicate n DV.nilif)=true:=by
  induction n with
  | zero=>rfl
  | succ n ih=>rw[List.replicate_succ];simp[Zc,Zh,ih]
theorem Zf2 (n:Nat):ZJ (List.replicate n DV.nilif)=[]:=by
  induction n with
  | zero=>rfl
  | succ n ih=>rw[List.replicate_succ];simp[ZJ,ZA,ih]
theorem Zdp (n:Nat) (L:List (Option (Nat×Nat))) {pid:Nat} (hp:Nat.blt pid n=true):∀{l:List DV},l.all (Z4M pid)=true→Z2w n L l=some l
  | [],_=>rfl
  | d::l,h=>by
    simp only[List.all_cons,Bool.and_eq_true]at h;rcases Z1z h.1 with rfl|⟨t,rfl⟩<;>simp[Z2w,ren,bdd,Z1P,hp,Zdp n L hp h.2]
theorem Zf3 (n:Nat) (L:List (Option (Nat×Nat))) (m:Nat):Z2w n L (List.replicate m DV.nilif)=some (List.replicate m DV.nilif):=by
  induction m with
  | zero=>rfl
  | succ m ih=>rw[List.replicate_succ];simp[Z2w,ren,bdd,ih]
theorem Zgo (n:Nat) {pid:Nat} (hp:Nat.blt pid n=true):∀{l:List DV},l.all (Z4M pid)=true→Z1P n l=true
  | [],_=>rfl
  | d::l,h=>by
    simp only[List.all_cons,Bool.and_eq_true]at h;rcases Z1z h.1 with rfl|⟨t,rfl⟩<;>simp[Z1P,bdd,hp,Zgo n hp h.2]
theorem Zik (n m:Nat):Z1P n (List.replicate m DV.nilif)=true:=by
  induction m with
  | zero=>rfl
  | succ m ih=>rw[List.replicate_succ];simp[Z1P,bdd,ih]
section
variable {T:TS S} (hT:TOk T)
include hT
mutual
theorem Z7a:∀v:TV S,Zh (dv T v)=Zv v
  | .bool _=>rfl | .int _ _=>rfl | .str _=>rfl | .nilp=>rfl | .nils=>rfl
  | .sl0=>by simp[dv,Zh,Zv] | .sl _ _=>by simp[dv,Zh,Zv]
  | .arr _ _ _=>by simp[dv,Zh,Zv]
  | .stc _ _=>by simp[dv,Zh,Zv]
  | .narr _ _=>by simp[dv,Zh,Zv,Z6I]
  | .earr _ _ _ _=>by simp[dv,Zh,Zv]
  | .ptr _ _=>by simp[dv,Zh,Zv] | .ap _ _ _ _ _=>by simp[dv,Zh,Zv] | .rptr _ _ _ _ _=>by simp[dv,Zh,Zv]
  | .pub _=>by simp[dv,Zh,Zv]
  | .rv _ _ _ _ _=>by simp[dv,Zh,Zv] | .slen _=>by simp[dv,Zh,Zv]
  | .rs _ _=>by simp[dv,Zh,Zv] | .map _=>by simp[dv,Zh,Zv] | .iter _=>by simp[dv,Zh,Zv] | .yld _=>by simp[dv,Zh,Zv]
  | .nilfn=>by simp[dv,Zh,Zv] | .nilmap=>by simp[dv,Zh,Zv] | .nilif=>by simp[dv,Zh,Zv]
  | .agg cs=>by simp only[dv,Zh,Zv];exact Z4J cs
  | .tup cs=>by simp only[dv,Zh,Zv];exact Z1H cs
  | .fn _ a c=>by simp only[dv,Zh,Zv,Z1H a,Z1H c]
  | .iface _ v=>by simp only[dv,Zh,Zv];exact Z7a v
theorem Z4J:∀cs:List (TV S),Zc (dvs T cs)=YL cs
  | []=>by simp[dvs,Zc,YL]
  | c::cs=>by
    rw[ZB,Z4I,YL,Z4J cs];have h:=Z7a c;cases c<;>simp only[Yc,Zc,Bool.and_true]<;>first|rw[h]|skip
    · rw[Z1J (Yt hT _ _ _)];rfl
    · rw[Z1J (hT.plain _ _)];rfl
    · rfl
    · rw[Z6I];rfl
theorem Z1H:∀cs:List (TV S),Zc (dvl T cs)=YL cs
  | []=>by simp[dvl,Zc,YL]
  | c::cs=>by simp only[dvl,Zc,YL,Z7a c,Z1H cs]
end
mutual
theorem Z1Y (n:Nat):∀v:TV S,Z9H n v=true→bdd n (dv T v)=true
  | .bool _,_=>rfl | .int _ _,_=>rfl | .str _,_=>rfl | .nilp,_=>rfl | .nils,_=>rfl
  | .sl0,_=>by simp[dv,bdd] | .sl _ _,_=>by simp[dv,bdd]
  | .arr _ _ _,_=>by simp[dv,bdd]
  | .stc _ _,_=>by simp[dv,bdd]
  | .narr _ _,_=>by simp only[dv,bdd];exact Zik n _
  | .earr _ _ _ _,h=>by simp only[dv,bdd];exact Zgo n h (YD _ _ _ _)
  | .ptr _ _,h=>h | .ap _ _ _ _ _,h=>h | .rptr _ _ _ _ _,h=>h
  | .rv _ _ _ _ _,h=>h | .slen _,_=>by simp[dv,bdd]
  | .rs _ _,h=>h | .map _,h=>h | .iter _,h=>h | .yld _,h=>h
  | .nilfn,_=>by simp[dv,bdd] | .nilmap,_=>by simp[dv,bdd] | .nilif,_=>by simp[dv,bdd]
  | .pub cs,h=>by simp only[dv,bdd,Z9H]at h⊢;exact Z8w n cs h
  | .agg cs,h=>by simp only[dv,bdd,Z9H]at h⊢;exact Z8w n cs h
  | .tup cs,h=>by simp only[dv,bdd,Z9H]at h⊢;exact Z6e n cs h
  | .fn _ a c,h=>by
    simp only[dv,bdd,Z9H,Bool.and_eq_true]at h⊢;exact⟨Z6e n a h.1,Z6e n c h.2⟩
  | .iface _ v,h=>by simp only[dv,bdd,Z9H]at h⊢;exact Z1Y n v h
theorem Z8w (n:Nat):∀cs:List (TV S),Z5t n cs=true→Z1P n (dvs T cs)=true
  | [],_=>by simp[dvs,Z1P]
  | c::cs,h=>by
    simp only[Z5t,Bool.and_eq_true]at h;rw[ZB,Z7F,Z8w n cs h.2,Bool.and_true];have hc:=Z1Y n c h.1;cases c<;>simp only[Yc,Z1P,Bool.and_true]<;>first|exact hc|skip
    · exact Z60 n (Yt hT _ _ _)
    · exact Z60 n (hT.plain _ _)
theorem Z6e (n:Nat):∀cs:List (TV S),Z5t n cs=true→Z1P n (dvl T cs)=true
  | [],_=>by simp[dvl,Z1P]
  | c::cs,h=>by
    simp only[Z5t,Bool.and_eq_true]at h;simp only[dvl,Z1P,Z1Y n c h.1,Z6e n cs h.2,Bool.and_self]
end
mutual
theorem Z6N:∀v:TV S,Zj (dv T v)=Y6 v
  | .bool _=>rfl | .int _ _=>rfl | .str _=>rfl | .nilp=>rfl | .nils=>rfl
  | .sl0=>by simp[dv,Zj,Y6] | .sl _ _=>by simp[dv,Zj,Y6]
  | .arr _ _ _=>by simp[dv,Zj,Y6]
  | .stc _ _=>by simp[dv,Zj,Y6]
  | .narr _ _=>by simp only[dv,Zj,Y6];exact Z6n (Z1d 0 _)
  | .earr _ _ _ _=>by simp only[dv,Zj,Y6];exact Z6n (YD _ _ _ _)
  | .ptr _ _=>by simp[dv,Zj,Y6] | .ap _ _ _ _ _=>by simp[dv,Zj,Y6] | .rptr _ _ _ _ _=>by simp[dv,Zj,Y6]
  | .pub _=>by simp[dv,Zj,Y6]
  | .rv _ _ _ _ _=>by simp[dv,Zj,Y6] | .slen _=>by simp[dv,Zj,Y6]
  | .rs _ _=>by simp[dv,Zj,Y6] | .map _=>by simp[dv,Zj,Y6] | .iter _=>by simp[dv,Zj,Y6] | .yld _=>by simp[dv,Zj,Y6]
  | .nilfn=>by simp[dv,Zj,Y6] | .nilmap=>by simp[dv,Zj,Y6] | .nilif=>by simp[dv,Zj,Y6]
  | .agg cs=>by simp only[dv,Zj,Y6];exact ZcJ cs
  | .tup cs=>by simp only[dv,Zj,Y6];exact Z3Y cs
  | .fn _ a c=>by simp[dv,Zj,Y6]
  | .iface _ v=>by simp only[dv,Zj,Y6];exact Z6N v
theorem ZcJ:∀cs:List (TV S),Zk (dvs T cs)=Yr cs
  | []=>by simp[dvs,Zk,Yr]
  | c::cs=>by
    rw[ZB,Z4Y,Yr,ZcJ cs];have h:=Z6N c;cases c<;>simp only[Yc,Zk,List.append_nil]<;>first|rw[h]|skip
    · rw[Z4U (Yt hT _ _ _)];rfl
    · rw[Z4U (hT.plain _ _)];rfl
    · rw[Z6n (YD _ _ _ _)];rfl
    · rw[Z6n (Z1d 0 _)];rfl
theorem Z3Y:∀cs:List (TV S),Zk (dvl T cs)=Yr cs
  | []=>by simp[dvl,Zk,Yr]
  | c::cs=>by simp only[dvl,Zk,Yr,Z6N c,Z3Y cs]
end
mutual
theorem ZaV:∀v:TV S,ZA (dv T v)=Z24 v
  | .bool _=>rfl | .int _ _=>rfl | .str _=>rfl | .nilp=>rfl | .nils=>rfl
  | .sl0=>by simp[dv,ZA,Z24] | .sl _ _=>by simp[dv,ZA,Z24]
  | .arr _ _ _=>by simp[dv,ZA,Z24]
  | .stc _ _=>by simp[dv,ZA,Z24]
  | .narr _ _=>by simp[dv,ZA,Z24,Zf2]
  | .earr _ _ _ _=>by simp[dv,ZA,Z24]
  | .ptr _ _=>by simp[dv,ZA,Z24] | .ap _ _ _ _ _=>by simp[dv,ZA,Z24] | .rptr _ _ _ _ _=>by simp[dv,ZA,Z24]
  | .pub _=>by simp[dv,ZA,Z24]
  | .rv _ _ _ _ _=>by simp[dv,ZA,Z24] | .slen _=>by simp[dv,ZA,Z24]
  | .rs _ _=>by simp[dv,ZA,Z24] | .map _=>by simp[dv,ZA,Z24] | .iter _=>by simp[dv,ZA,Z24] | .yld _=>by simp[dv,ZA,Z24]
  | .nilfn=>by simp[dv,ZA,Z24] | .nilmap=>by simp[dv,ZA,Z24] | .nilif=>by simp[dv,ZA,Z24]
  | .agg cs=>by simp only[dv,ZA,Z24];exact Zeq cs
  | .tup cs=>by simp only[dv,ZA,Z24];exact Z8g cs
  | .fn _ a c=>by simp only[dv,ZA,Z24,Z8g a,Z8g c]
  | .iface _ v=>by simp only[dv,ZA,Z24];exact ZaV v
theorem Zeq:∀cs:List (TV S),ZJ (dvs T cs)=Z4K cs
  | []=>by simp[dvs,ZJ,Z4K]
  | c::cs=>by
    rw[ZB,Z5x,Z4K,Zeq cs];have h:=ZaV c;cases c<;>simp only[Yc,ZJ,List.append_nil]<;>first|rw[h]|skip
    · rw[Z62 (Yt hT _ _ _)];rfl
    · rw[Z62 (hT.plain _ _)];rfl
    · rfl
    · rw[Zf2];rfl
theorem Z8g:∀cs:List (TV S),ZJ (dvl T cs)=Z4K cs
  | []=>by simp[dvl,ZJ,Z4K]
  | c::cs=>by simp only[dvl,ZJ,Z4K,ZaV c,Z8g cs]
end
mutual
theorem Z5V (h:Nat→Option (Zq S)):∀v:TV S,frz (dvh T h) (dv T v)=(YI h v).map (dv T)
  | .bool _=>by simp[dv,frz,YI,Zh,Zv] | .int _ _=>by simp[dv,frz,YI,Zh,Zv] | .str _=>by simp[dv,frz,YI,Zh,Zv]
  | .nilp=>by simp[dv,frz,YI,Zh,Zv] | .nils=>by simp[dv,frz,YI]
  | .sl0=>by simp[dv,frz,YI,Zh,Zv] | .sl _ _=>by simp[dv,frz,YI,Zh,Zv]
  | .arr _ _ _=>by simp[dv,frz,YI,Zh,Zv]
  | .stc _ _=>by simp[dv,frz,YI,Zh,Zv]
  | .narr _ _=>by simp[dv,frz,YI,Zv,Z8G _ (Z1d 0 _),Z6I]
  | .earr ts pid n a=>by
    simp only[dv,frz,YI,Zv,Z8G _ (YD _ _ _ _)];cases Zc (eal ts pid n a)<;>simp[dv]
  | .ptr _ _=>by simp[dv,frz,YI,Zh,Zv] | .ap _ _ _ _ _=>by simp[dv,frz,YI,Zh,Zv] | .rptr _ _ _ _ _=>by simp[dv,frz,YI,Zh,Zv]
  | .pub _=>by simp[dv,frz,YI,Zh,Zv]
  | .rs id v=>by
    simp only[dv,frz,YI,dvh];cases h id with
    | none=>rfl
    | some o =>
      cases o<;>simp only[Option.map_some,Option.bind_some,dvO,Option.map_none];rename_i e t xs p u;cases Nat.beq u v<;>simp[dv]
  | .rv _ _ _ _ _=>by simp[dv,frz,YI,Zh,Zv] | .slen _=>by simp[dv,frz,YI,Zh,Zv]
  | .map _=>by simp[dv,frz,YI,Zh,Zv] | .iter _=>by simp[dv,frz,YI,Zh,Zv] | .yld _=>by simp[dv,frz,YI,Zh,Zv]
  | .nilfn=>by simp[dv,frz,YI,Zh,Zv] | .nilmap=>by simp[dv,frz,YI,Zh,Zv] | .nilif=>by simp[dv,frz,YI,Zh,Zv]
  | .agg cs=>by
    simp only[dv,frz,YI,Z8U h cs];cases Z1X h cs<;>simp[dv]
  | .tup cs=>by
    simp only[dv,frz,YI,Zc7 h cs];cases Z1X h cs<;>simp[dv]
  | .fn f a c=>by
    simp only[dv,frz,YI,Zh,Zv,Z1H hT a,Z1H hT c];cases YL a&&YL c<;>simp[dv]
  | .iface t v=>by
    simp only[dv,frz,YI,Z5V h v];cases YI h v<;>simp[dv]
theorem Z8U (h:Nat→Option (Zq S)):∀cs:List (TV S),Z1N (dvh T h) (dvs T cs)=(Z1X h cs).map (dvs T)
  | []=>by simp[dvs,Z1N,Z1X]
  | c::cs=>by
    rw[ZB,Z7O,Z8U h cs,Z1X];have hc:=Z5V h c
    by_cases ha:Y2 c=true
    · cases c<;>simp only[Y2,Bool.false_eq_true]at ha
      · simp only[Yc,YI,Zv,cond_true,Option.bind_some]
        rw[Z61 _ (Yt hT _ _ _)];cases Z1X h cs<;>simp[dvs]
      · simp only[Yc,YI,Zv,cond_true,Option.bind_some]
        rw[Z61 _ (hT.plain _ _)];cases Z1X h cs<;>simp[dvs]
      · rename_i ts pid n a
        simp only[Yc,YI,Zv];rw[Z8G _ (YD _ _ _ _)];cases Zc (eal ts pid n a)
        · rfl
        · cases Z1X h cs<;>simp[dvs]
      · simp only[Yc,YI,Zv,cond_true,Option.bind_some]
        rw[Z8G _ (Z1d 0 _),Z6I];cases Z1X h cs<;>simp[dvs]
    · have h1:Yc T c=[dv T c]:=by cases c<;>simp[Yc,Y2]at ha⊢
      rw[h1];simp only[Z1N,hc];cases hf:YI h c with
      | none=>rfl
      | some c' =>
        have ha':Y2 c'=false:=by
          cases c<;>simp[Y2]at ha<;>simp only[YI,Zv,cond_true,cond_false,reduceCtorEq,Option.some.injEq]at hf<;>first|(subst hf;rfl)|skip
          · cases ho:h _ with
            | none=>rw[ho]at hf;cases hf
            | some o =>
              rw[ho]at hf;cases o<;>simp only[Option.bind_some,reduceCtorEq]at hf;obtain⟨_,hf⟩:=Z3 hf;cases hf;rfl
          · obtain⟨_,_,hf⟩:=Z0 hf;cases hf;rfl
          · obtain⟨_,_,hf⟩:=Z0 hf;cases hf;rfl
          · obtain⟨_,hf⟩:=Z3 hf;cases hf;rfl
          · obtain⟨_,_,hf⟩:=Z0 hf;cases hf;rfl
        have h2:∀l,dvs T (c'::l)=dv T c'::dvs T l:=fun l=>by
          rw[ZB];cases c'<;>simp[Yc,Y2]at ha'⊢
        cases Z1X h cs<;>simp[h2]
theorem Zc7 (h:Nat→Option (Zq S)):∀cs:List (TV S),Z1N (dvh T h) (dvl T cs)=(Z1X h cs).map (dvl T)
  | []=>by simp[dvl,Z1N,Z1X]
  | c::cs=>by
    simp only[dvl,Z1N,Z1X,Z5V h c,Zc7 h cs];cases YI h c with
    | none=>rfl
    | some c'=>cases Z1X h cs<;>simp[dvl]
end
theorem ZhG (E:Env) (h:Nat→Option (Zq S)) (v:TV S):Z8R E (dvh T h) (dv T v)=(Zc5 E h v).map (dv T):=by
  cases v with
  | rv id ver i n e =>
    simp only[dv,Z8R,Zc5,dvh];cases h id with
    | none=>rfl
    | some o =>
      cases o<;>simp only[Option.map_some,Option.bind_some,dvO,Option.map_none];rename_i t te xs p u;cases Nat.beq u ver&&Nat.beq (match E.ty t with|some ti=>ti.size|none=>0) e<;>simp[dv,List.map_drop,List.map_take]
  | _=>first|exact Z5V hT h _|(simp only[dv,Z8R,Zc5];exact Z5V hT h _)
theorem Z78 (E:Env) (h:Nat→Option (Zq S)):∀cs:List (TV S),Z3K E (dvh T h) (dvl T cs)=(Z77 E h cs).map (dvl T)
  | []=>by simp[dvl,Z3K,Z77]
  | c::cs=>by
    simp only[dvl,Z3K,Z77,ZhG hT E h c,Z78 E h cs];cases Zc5 E h c with
    | none=>rfl
    | some c'=>cases Z77 E h cs<;>simp[dvl]
omit hT in
theorem Z8r:∀cs:List (TV S),(dvl T cs).any Zgv=cs.any Zer
  | []=>by simp[dvl]
  | c::cs=>by
    simp only[dvl,List.any_cons,Z8r cs];cases c<;>simp[dv,Zgv,Zer]
omit hT in
mutual
theorem Zfi:∀{v v':TV S},Zfh v=some v'→Yy (dv T v)=some (dv T v')
  | .bool _,_,h=>by cases h;simp[dv,Yy]
  | .int _ _,_,h=>by cases h;simp[dv,Yy]
  | .str _,_,h=>by cases h;simp[dv,Yy]
  | .sl0,_,h=>by cases h;simp[dv,Yy]
  | .sl _ _,_,h=>by cases h;simp[dv,Yy]
  | .tup vs,_,h=>by
    simp only[Zfh]at h;obtain⟨vs',h1,h⟩:=Z0 h;cases h;simp only[dv,Yy,Zd7 h1,Option.bind_some]
theorem Zd7:∀{vs vs':List (TV S)},Zby vs=some vs'→Z57 (dvl T vs)=some (dvl T vs')
  | [],_,h=>by cases h;simp[dvl,Z57]
  | c::cs,_,h=>by
    simp only[Zby]at h;obtain⟨c',h1,h⟩:=Z0 h;obtain⟨cs',h2,h⟩:=Z0 h;cases h;simp only[dvl,Z57,Zfi h1,Zd7 h2,Option.bind_some]
end
mutual
theorem Zbf (n:Nat) (L:List (Option (Nat×Nat))):∀(v v':TV S),Z3i n L v=some v'→ren n L (dv T v)=some (dv T v')
  | .rs id v,v',h=>by
    simp only[dv,ren,Z3i]at h⊢;cases hj:Z5v id v 0 L with
    | some j=>rw[hj]at h;cases h;rfl
    | none =>
      rw[hj]at h;obtain⟨h1,h⟩:=Z3 h;cases h;simp only[h1,cond_true];rfl
  | .agg cs,v',h=>by
    simp only[Z3i]at h;obtain⟨cs',h1,h⟩:=Z0 h;cases h;simp only[dv,ren,Z9f n L cs cs' h1,Option.bind_some]
  | .tup cs,v',h=>by
    simp only[Z3i]at h;obtain⟨cs',h1,h⟩:=Z0 h;cases h;simp only[dv,ren,Zcx n L cs cs' h1,Option.bind_some]
  | .narr ts m,v',h=>by
    simp only[Z3i]at h;obtain⟨_,h⟩:=Z3 h;cases h;simp only[dv,ren,Zf3 n L m,Option.bind_some]
  | .earr ts pid m a,v',h=>by
    simp only[Z3i]at h;obtain⟨h1,h⟩:=Z3 h;cases h;simp only[dv,ren,Zdp n L h1 (YD _ _ _ _),Option.bind_some]
  | .bool _,v',h=>by cases h;simp[dv,ren,bdd] | .int _ _,v',h=>by cases h;simp[dv,ren,bdd] | .str _,v',h=>by cases h;simp[dv,ren,bdd]
  | .nilp,v',h=>by cases h;simp[dv,ren,bdd] | .nils,v',h=>by cases h;simp[dv,ren,bdd]
  | .sl0,v',h=>by cases h;simp[dv,ren,bdd] | .sl _ _,v',h=>by cases h;simp[dv,ren,bdd]
  | .arr _ _ _,v',h=>by cases h;simp[dv,ren,bdd]
  | .stc _ _,v',h=>by cases h;simp[dv,ren,bdd]
  | .nilfn,v',h=>by cases h;simp[dv,ren,bdd] | .nilmap,v',h=>by cases h;simp[dv,ren,bdd] | .nilif,v',h=>by cases h;simp[dv,ren,bdd]
  | .ptr i o,v',h=>by
    simp only[Z3i]at h;obtain⟨h1,h⟩:=Z3 h;cases h;have:=Z1Y hT n (.ptr i o) h1;simp only[dv,ren]at this⊢;rw[this];rfl
  | .ap i b j e o,v',h=>by
    simp only[Z3i]at h;obtain⟨h1,h⟩:=Z3 h;cases h;have:=Z1Y hT n (.ap i b j e o) h1;simp only[dv,ren]at this⊢;rw[this];rfl
  | .rptr i w j e o,v',h=>by
    simp only[Z3i]at h;obtain⟨h1,h⟩:=Z3 h;cases h;have:=Z1Y hT n (.rptr i w j e o) h1;simp only[dv,ren]at this⊢;rw[this];rfl
  | .rv i w j m e,v',h=>by
    simp only[Z3i]at h;obtain⟨h1,h⟩:=Z3 h;cases h;have:=Z1Y hT n (.rv i w j m e) h1;simp only[dv,ren]at this⊢;rw[this];rfl
  | .slen _,v',h=>by cases h;simp[dv,ren,bdd]
  | .pub cs,v',h=>by
    simp only[Z3i]at h;obtain⟨h1,h⟩:=Z3 h;cases h;have:=Z1Y hT n (.pub cs) h1;simp only[dv,ren]at this⊢;rw[this];rfl
  | .map i,v',h=>by
    simp only[Z3i]at h;obtain⟨h1,h⟩:=Z3 h;cases h;have:=Z1Y hT n (.map i) h1;simp only[dv,ren]at this⊢;rw[this];rfl
  | .iter i,v',h=>by
    simp only[Z3i]at h;obtain⟨h1,h⟩:=Z3 h;cases h;have:=Z1Y hT n (.iter i) h1;simp only[dv,ren]at this⊢;rw[this];rfl
  | .yld i,v',h=>by
    simp only[Z3i]at h;obtain⟨h1,h⟩:=Z3 h;cases h;have:=Z1Y hT n (.yld i) h1;simp only[dv,ren]at this⊢;rw[this];rfl
  | .fn f a c,v',h=>by
    simp only[Z3i]at h;obtain⟨h1,h⟩:=Z3 h;cases h;have:=Z1Y hT n (.fn f a c) h1;simp only[dv,ren]at this⊢;rw[this];rfl
  | .iface t v,v',h=>by
    simp only[Z3i]at h;obtain⟨h1,h⟩:=Z3 h;cases h;have:=Z1Y hT n (.iface t v) h1;simp only[dv,ren]at this⊢;rw[this];rfl
theorem Z9f (n:Nat) (L:List (Option (Nat×Nat))):∀(cs cs':List (TV S)),Z7T n L cs=some cs'→Z2w n L (dvs T cs)=some (dvs T cs')
  | [],cs',h=>by cases h;simp[dvs,Z2w]
  | c::cs,r,h=>by
    simp only[Z7T]at h;obtain⟨c',h1,h⟩:=Z0 h;obtain⟨cs',h2,h⟩:=Z0 h;cases h;rw[ZB,Z7U,Z9f n L cs cs' h2,ZB];have hc:=Zbf n L c c' h1
    by_cases ha:Y2 c=true
    · cases c<;>simp only[Y2,Bool.false_eq_true]at ha
      · cases h1
        simp only[Yc,Option.bind_some];rw[Z63 n L (Yt hT _ _ _)];rfl
      · cases h1
        simp only[Yc,Option.bind_some];rw[Z63 n L (hT.plain _ _)];rfl
      · simp only[Z3i]at h1
        obtain⟨h3,h1⟩:=Z3 h1;cases h1;simp only[Yc,Option.bind_some];rw[Zdp n L h3 (YD _ _ _ _)];rfl
      · simp only[Z3i]at h1
        obtain⟨h3,h1⟩:=Z3 h1;cases h1;simp only[Yc,Option.bind_some];rw[Zf3 n L];rfl
    · have e1:Yc T c=[dv T c]:=by cases c<;>simp[Yc,Y2]at ha⊢
      have ha':Y2 c'=false:=by
        cases c<;>simp[Y2]at ha<;>simp only[Z3i,Z9H,cond_true,Option.some.injEq]at h1<;>first|(subst h1;rfl)|(obtain⟨_,h1⟩:=Z3 h1;cases h1;rfl)|(obtain⟨_,_,h1⟩:=Z0 h1;cases h1;rfl)|skip
        rename_i id v;cases hj:Z5v id v 0 L with
        | some j=>rw[hj]at h1;cases h1;rfl
        | none=>rw[hj]at h1;obtain⟨_,h1⟩:=Z3 h1;cases h1;rfl
      have e2:Yc T c'=[dv T c']:=by cases c'<;>simp[Yc,Y2]at ha'⊢
      rw[e1,e2];simp only[Z2w,hc,Option.bind_some]
theorem Zcx (n:Nat) (L:List (Option (Nat×Nat))):∀(cs cs':List (TV S)),Z7T n L cs=some cs'→Z2w n L (dvl T cs)=some (dvl T cs')
  | [],cs',h=>by cases h;simp[dvl,Z2w]
  | c::cs,r,h=>by
    simp only[Z7T]at h;obtain⟨c',h1,h⟩:=Z0 h;obtain⟨cs',h2,h⟩:=Z0 h;cases h;simp only[dvl,Z2w,Zbf n L c c' h1,Zcx n L cs cs' h2,Option.bind_some]
end
omit hT in
theorem Z6Q (h:Nat→Option (Zq S)):∀is,Zu (dvh T h) is=dvu T (Z5G h is)
  | []=>rfl
  | i::is=>by
    simp only[Zu,Z5G,Z6Q h is,dvh,dvu,List.map_append];cases h i with
    | none=>rfl
    | some o =>
      cases o with
      | row e t xs p u=>simp only[Option.map_some,dvO];cases Nat.beq p 1<;>simp[dvO]
      | _=>simp[dvO]
end
end Go.Ab
namespace Go.Ab
variable {S:Nat→Type} {R:Type}
def Zdv:Option (Zq S)→Bool
  | some (.loop ..)=>true
  | _=>false
def Z5K (u:List (Nat×Option (Zq S))):Prop:=∀p∈u,Zdv p.2=false
theorem ZZ:Z5K (S:=S) []:=fun _ h=>by cases h
theorem Y3 {i:Nat} {x:Option (Zq S)} {u:List (Nat×Option (Zq S))} (hx:Zdv x=false) (h:Z5K u):Z5K ((i,x)::u):=fun p hp=>by
  rcases List.mem_cons.1 hp with e|hp
  · subst e;exact hx
  · exact h p hp
theorem Z2t (h:Nat→Option (Zq S)):∀is,Z5K (Z5G h is)
  | []=>ZZ
  | i::is=>fun p hp=>by
    simp only[Z5G,List.mem_append]at hp;rcases hp with hp|hp
    · cases hi:h i with
      | none=>rw[hi]at hp;simp at hp
      | some o =>
        rw[hi]at hp;cases o with
        | row e t xs p1 u =>
          simp only at hp;cases hb:Nat.beq p1 1 with
          | true=>rw[hb]at hp;cases hp
          | false=>rw[hb]at hp;simp only[cond_false,List.mem_singleton]at hp;subst hp;rfl
        | _=>cases hp
    · exact Z2t h is p hp
def Sim (T:TS S) (e:Option Out) (k:Z2l S R) (r:R):Prop:=∃o:ZaB S,e=some (Yd T o)∧Z5K o.upd∧k o=some r
theorem Zx {T:TS S} {k:Z2l S R} {r:R} {v:TV S} {e:Option Out} (h:ZU v k=some r) (he:e=ret (dv T v)):Sim T e k r:=⟨⟨some v,[]⟩,by rw[he];rfl,ZZ,h⟩
theorem Z1S:∀{x y x' y':List DV},Zg x y=true→Zg (x++x') (y++y')=Zg x' y'
  | [],[],_,_,_=>rfl
  | [],_::_,_,_,h=>by simp[Zg]at h
  | a::x,[],_,_,h=>by cases a<;>simp[Zg]at h
  | a::x,b::y,x',y',h=>by
    cases a<;>cases b<;>simp only[Zg,Bool.and_eq_true,Bool.false_eq_true]at h<;>simp only[List.cons_append,Zg]
    · exact Z1S h
    · rw[h.1,Z1S h.2,Bool.true_and]
    · exact Z1S h
theorem Z19:∀{x y x' y':List DV} {p q:Bool},Zl x y=some p→Zl x' y'=some q→Zl (x++x') (y++y')=some (p&&q)
  | [],[],_,_,p,q,h,h'=>by simp[Zl]at h;subst h;simpa using h'
  | [],_::_,_,_,_,_,h,_=>by simp[Zl]at h
  | a::x,[],_,_,_,_,h,_=>by cases a<;>simp[Zl]at h
  | a::x,b::y,x',y',p,q,h,h'=>by
    cases a<;>cases b<;>simp only[Zl,reduceCtorEq]at h<;>simp only[List.cons_append,Zl]
    · obtain⟨r,h1,h⟩:=Z0 h
      cases h;rw[Z19 h1 h'];simp[Bool.and_assoc]
    · obtain⟨h0,h⟩:=Z3 h
      obtain⟨r,h1,h⟩:=Z0 h;cases h;rw[h0,Z19 h1 h'];simp[Bool.and_assoc]
    · obtain⟨r,h1,h⟩:=Z0 h
      cases h;rw[Z19 h1 h'];simp[Bool.and_assoc]
section
variable (T:TS S)
theorem ZdW {t:Ty} (hs:(Z3D (S:=S) t).isSome=true) (x y:Val S t):Zg (dcl T t x) (dcl T t y)=true:=by
  cases t<;>simp[Z3D]at hs<;>simp[dcl,Zg]
theorem Zin {t:Ty} {e:Val S t→Val S t→Bool} (hs:Z3D t=some e) (x y:Val S t):Zl (dcl T t x) (dcl T t y)=some (e x y):=by
  cases t<;>simp only[Z3D,reduceCtorEq]at hs<;>cases hs<;>simp[dcl,Zl]
theorem Z9R {t:Ty} (hs:(Z3D (S:=S) t).isSome=true) (a b:Nat→Val S t):∀l:List Nat,Zg (l.flatMap fun j=>dcl T t (a j)) (l.flatMap fun j=>dcl T t (b j))=true
  | []=>rfl
  | j::l=>by
    simp only[List.flatMap_cons];rw[Z1S (ZdW T hs _ _)];exact Z9R hs a b l
theorem Zg5 {t:Ty} {e:Val S t→Val S t→Bool} (hs:Z3D t=some e) (a b:Nat→Val S t):∀l:List Nat,Zl (l.flatMap fun j=>dcl T t (a j)) (l.flatMap fun j=>dcl T t (b j))=some (l.all fun j=>e (a j) (b j))
  | []=>rfl
  | j::l=>by
    simp only[List.flatMap_cons,List.all_cons];exact Z19 (Zin T hs _ _) (Zg5 hs a b l)
theorem Z25:∀{z a:List (TV S)},Z3c z a=true→Zg (dvs T z) (dvs T a)=true
  | [],[],_=>by simp[dvs,Zg]
  | [],_::_,h=>by simp[Z3c]at h
  | z::zs,[],h=>by cases z<;>simp[Z3c]at h
  | z::zs,a::as,h=>by
    cases z<;>cases a<;>simp only[Z3c,Bool.and_eq_true,Bool.false_eq_true]at h<;>simp only[dvs,dv,Zg]
    · exact Z25 h
    · rw[h.1,Z25 h.2];rfl
    · exact Z25 h
    · obtain⟨⟨⟨h1,h2⟩,h3⟩,h4⟩:=h
      have h1:=of_decide_eq_true h1;have h2:=Nat.eq_of_beq_eq_true h2;subst h1 h2;exact(Z1S (Z9R T h3 _ _ (List.range _))).trans (Z25 h4)
theorem Z1E:∀{a b:List (TV S)} {r:Bool},Z18 a b=some r→Zl (dvs T a) (dvs T b)=some r
  | [],[],r,h=>by simp[Z18]at h;subst h;simp[dvs,Zl]
  | [],_::_,_,h=>by simp[Z18]at h
  | z::zs,[],_,h=>by cases z<;>simp[Z18]at h
  | z::zs,a::as,r,h=>by
    cases z<;>cases a<;>simp only[Z18,reduceCtorEq]at h<;>simp only[dvs,dv,Zl]
    · obtain⟨q,h1,h⟩:=Z0 h
      rw[Z1E h1];exact h
    · obtain⟨h0,h⟩:=Z3 h
      obtain⟨q,h1,h⟩:=Z0 h;rw[h0,Z1E h1];exact h
    · obtain⟨q,h1,h⟩:=Z0 h
      rw[Z1E h1];exact h
    · split at h
      · rename_i e
        obtain⟨h0,h⟩:=Z3 h;obtain⟨eq,h1,h⟩:=Z0 h;obtain⟨q,h2,h⟩:=Z0 h;cases h;have h0:=Nat.eq_of_beq_eq_true h0;subst e h0;exact Z19 (Zg5 T h1 _ _ _) (Z1E h2)
      · cases h
end
variable {X:Yp S} (hX:XOk X)
include hX
theorem Zhr {op:BinOp} {t:TypeId} {x y:TV S} {k:Z2l S R} {r:R} (h:Zhq X op t x y k=some r):Sim X.T ((ZaE X.E op t (dv X.T x) (dv X.T y)).bind ret) k r:=by
  unfold Zhq at h;split at h
  · rename_i kd a kd' b
    simp only[dv,ZaE];cases op<;>simp only[reduceCtorEq]at h<;>simp only[Z5f,cond_false,cond_true,ZhJ,Zbs,Zhu,Zef]
    case shl =>
      cases hb:decide (b<0)with
      | true=>rw[hb]at h;cases h
      | false=>rw[hb]at h;exact Zx h rfl
    case shr =>
      cases hb:decide (b<0)with
      | true=>rw[hb]at h;cases h
      | false=>rw[hb]at h;exact Zx h rfl
    case quo =>
      obtain⟨h0,h⟩:=Z3 h;rw[h0];cases hb:b==0 with
      | true=>rw[hb]at h;cases h
      | false=>rw[hb]at h;exact Zx h rfl
    case rem =>
      obtain⟨h0,h⟩:=Z3 h;rw[h0];cases hb:b==0 with
      | true=>rw[hb]at h;cases h
      | false=>rw[hb]at h;exact Zx h rfl
    all_goals
      obtain⟨h0,h⟩:=Z3 h;rw[h0];exact Zx h rfl
  · rename_i a b
    simp only[dv,ZaE,Ziq];cases op<;>simp only[reduceCtorEq]at h
    case add =>
      obtain⟨h0,h⟩:=Z3 h;rw[h0];exact Zx h rfl
    all_goals exact Zx h rfl
  · rename_i a b
    obtain⟨ti,h1,h⟩:=Z0 h;simp only[dv,ZaE,h1,Option.bind_some];cases hk:ti.k<;>rw[hk]at h<;>first|(cases h;done)|skip
    cases op<;>simp only[reduceCtorEq]at h<;>exact Zx h rfl
  · rename_i a b
    obtain⟨ti,h1,h⟩:=Z0 h;obtain⟨z,h2,h⟩:=Z0 h;obtain⟨h3,h⟩:=Z3 h;simp only[Bool.and_eq_true]at h3;simp only[dv,ZaE,h1,Option.bind_some];have hz:=hX.zero t z ti h2 h1;have k1:=Z25 X.T h3.1.2;have k2:=Z25 X.T h3.2;rw[Z2k hX.t,Z2k hX.t]at k1 k2;rw[h3.1.1,←hz,k1,k2];simp only[Bool.and_self,cond_true];split at h
    · obtain⟨q,h4,h⟩:=Z0 h
      have k3:=Z1E X.T h4;rw[Z2k hX.t,Z2k hX.t]at k3;rw[k3];exact Zx h rfl
    · obtain⟨q,h4,h⟩:=Z0 h
      have k3:=Z1E X.T h4;rw[Z2k hX.t,Z2k hX.t]at k3;rw[k3];exact Zx h rfl
    · cases h
  · rename_i tt xs
    obtain⟨ti,h1,h⟩:=Z0 h;cases xs with
    | nil =>
      cases hk:ti.k<;>rw[hk]at h<;>first|(cases h;done)|skip
      cases op<;>simp at h
    | cons c cs =>
      simp only[dv,List.map_cons,ZaE,h1,Option.bind_some];cases hk:ti.k<;>rw[hk]at h<;>first|(cases h;done)|skip
      cases op<;>simp only[reduceCtorEq]at h<;>exact Zx h rfl
  · cases h
omit hX in
theorem Zj5 {T:TS S} {op:UnOp} {x:TV S} {k:Z2l S R} {r:R} (h:unK op x k=some r):Sim T ((unD op (dv T x)).bind ret) k r:=by
  unfold unK at h;split at h
  · split at h
    · exact Zx h rfl
    · cases h
  · split at h
    · exact Zx h rfl
    · cases h
  · cases h
omit hX in
theorem Z5d {T:TS S} {n:Nat} {x:TV S} {k:Nat→Option R} {r:R} (h:Zca n x k=some r):∃i,Z3a n (dv T x)=some i∧i<n∧k i=some r:=by
  unfold Zca at h;split at h
  · rename_i kd i
    obtain⟨h1,h⟩:=Z3 h;have h2:=h1;simp only[Bool.and_eq_true,decide_eq_true_eq]at h2;refine⟨i.toNat,?_,by omega,h⟩
    simp only[dv,Z3a];rw[h1];rfl
  · cases h
omit hX in
theorem Z31 {T:TS S} {d:Option (TV S)} {dflt y:Nat} {k:Nat→Option R} {r:R} (h:Z4D d dflt y k=some r):∃i,Z2D (d.map (dv T)) dflt y=some i∧k i=some r:=by
  unfold Z4D at h;split at h
  · exact⟨dflt,rfl,h⟩
  · rename_i kd i
    obtain⟨h1,h⟩:=Z3 h;refine⟨i.toNat,?_,h⟩;simp only[Option.map_some,dv,Z2D];rw[h1];rfl
  · cases h
omit hX in
theorem Zfz {T:TS S} (h:Nat→Option (Zq S)) (d:TV S):Z39 (dvh T h) (dv T d)=Z6t h d:=by
  cases d with
  | rs id v =>
    simp only[dv,Z39,Z6t,dvh];cases h id with
    | none=>rfl
    | some o=>cases o<;>rfl
  | _=>simp[dv,Z39,Z6t]
omit hX in
theorem Z74 {T:TS S} {t:Ty} {h:Nat→Option (Zq S)} {x:TV S} {xs:List (Val S t)} (he:ZaL t h x=some xs):Y4 (dvh T h) (dv T x)=some (xs.map (dcl T t)):=by
  unfold ZaL at he;split at he
  · cases he;rfl
  · cases he;simp[dv,Y4]
  · split at he
    · rename_i e;subst e;cases he;simp[dv,Y4]
    · cases he
  · rename_i id v
    obtain⟨o,ho,he⟩:=Z0 he;simp only[dv,Y4,dvh,ho,Option.map_some,Option.bind_some];cases o<;>simp only[reduceCtorEq]at he;obtain⟨h1,he⟩:=Z3 he;split at he
    · rename_i e;subst e;cases he
      simp only[dvO,h1,cond_true]
    · cases he
  · cases he
omit hX in
theorem Z3P {i n:Nat} (h:i<n):List.range n=List.range i++(i::List.range' (i+1) (n-(i+1))):=by
  rw[List.range_eq_range',List.range_eq_range',←List.range'_succ,show n-(i+1)+1=n-i by omega]
  have:=(List.range'_append_1 (s:=0) (m:=i) (n:=n-i));rw[Nat.zero_add,show i+(n-i)=n by omega]at this
  exact this.symm
omit hX in
theorem ZbR {T:TS S} {pid m:Nat} {k:Z2l S R} {r:R}:∀{ts:List TypeId} {j:Nat},ZhA pid m ts j k=some r→j≤m→∃v:TV S,dv T v=enD pid ts (m-j+1)∧ZU v k=some r
  | [],_,h,_=>by cases h
  | t::ts,j,h,hj=>by
    simp only[ZhA]at h;cases hq:Nat.beq m j with
    | true =>
      rw[hq]at h;have:=Nat.eq_of_beq_eq_true hq;subst this;refine⟨_,?_,h⟩;rw[Nat.sub_self];simp[dv,dvs,enD]
    | false =>
      rw[hq]at h;have hne:m≠j:=fun e=>by subst e;rw[Nat.beq_refl]at hq;cases hq
      obtain⟨v,h1,h2⟩:=ZbR h (by omega)
      refine⟨v,?_,h2⟩;rw[h1,show m-j+1=(m-(j+1))+2 by omega]
      simp[enD]
omit hX in
theorem ZhB {T:TS S} {ts:List TypeId} {pid m:Nat} {k:Z2l S R} {r:R} (h:enK ts pid m k=some r):∃v:TV S,dv T v=enD pid ts m∧ZU v k=some r:=by
  unfold enK at h;cases hq:Nat.beq m 0 with
  | true =>
    rw[hq]at h;have:=Nat.eq_of_beq_eq_true hq;subst this;exact⟨.nilif,by cases ts<;>rfl,h⟩
  | false =>
    rw[hq]at h;have hne:m≠0:=fun e=>by subst e;cases hq
    obtain⟨v,h1,h2⟩:=ZbR (T:=T) h (by omega)
    exact⟨v,by rw[h1,show m-1+1=m by omega],h2⟩
theorem Z8F {cs:List (TV S)} {base n pid:Nat} {ts:List TypeId} {a:Nat→Nat} (h:ZaK X.T cs base=some (ts,pid,n,a)):∃q,base+n≤(dvs X.T cs).length∧(dvs X.T cs).drop base=eal ts pid n a++q:=by
  unfold ZaK at h;obtain⟨q,h1,h⟩:=Z0 h;split at h
  · rename_i ts' pid' n' a' q' hq'
    cases h;obtain⟨h5,h6⟩:=Z1D hX.t h1;rw[←Z2T hX.t 10 q,hq',ZB]at h6;refine⟨dvs X.T q',?_,h6⟩;have:=congrArg List.length h6;simp[Yc,eal]at this;rw[Y7 hX.t];rw[Y7 hX.t]at this;omega
  · cases h
theorem Zci {ti:TI} {h:Nat→Option (Zq S)} {a:TV S} {k:Z2l S R} {r:R} (hk:ZeQ X ti h a k=some r):Sim X.T ((Z3d ti (dvh X.T h) (dv X.T a)).bind ret) k r:=by
  unfold ZeQ at hk;split at hk
  · rename_i id off
    obtain⟨o,ho,hk⟩:=Z0 hk;simp only[dv,Z3d,dvh,ho,Option.map_some,Option.bind_some];cases o<;>simp only[reduceCtorEq]at hk;obtain⟨v,h1,hk⟩:=Z0 hk;simp only[dvO,(Z3L hX.t h1).1];exact Zx hk rfl
  · rename_i id base i e off
    obtain⟨o,ho,hk⟩:=Z0 hk;simp only[dv,Z3d,dvh,ho,Option.map_some,Option.bind_some];cases o<;>simp only[reduceCtorEq]at hk;rename_i ct cs;split at hk
    · rename_i ts pid n a hE
      obtain⟨h1,hk1⟩:=Z3 hk;obtain⟨h2,hk2⟩:=Z3 hk1;clear hk hk1;simp only[Bool.and_eq_true,Bool.not_eq_true']at h1;obtain⟨⟨h3,h4⟩,h5⟩:=h1;have h3:=Nat.eq_of_beq_eq_true h3;have h4:=Nat.eq_of_beq_eq_true h4;subst h3 h4;have h2:i<n:=by simpa[Tr.blt_dec]using h2
      obtain⟨v,h6,h7⟩:=ZhB (T:=X.T) hk2;obtain⟨q,h8,h9⟩:=Z8F hX hE;have hp:YP ti (dvs X.T cs) (base+i*1+0)=some (dv X.T v):=by
        unfold YP;rw[h5];simp only[cond_false];have:(dvs X.T cs)[base+i*1+0]?=((dvs X.T cs).drop base)[i]? := by simp
        rw[this,h9,List.getElem?_append_left (by simp[eal];exact h2),h6]
        simp[eal,h2]
      simp only[dvO,hp];exact Zx h7 rfl
    obtain⟨A,hA,hk⟩:=Z0 hk;obtain⟨t,n,a⟩:=A;simp only at hk;obtain⟨h1,hk1⟩:=Z3 hk;obtain⟨h2,hk2⟩:=Z3 hk1;obtain⟨v,h3,hk3⟩:=Z0 hk2;clear hk hk1 hk2;have h1:=Nat.eq_of_beq_eq_true h1;have h2:i<n:=by simpa[Tr.blt_dec]using h2
    subst h1;unfold Z8u at hA;obtain⟨q,h4,hA⟩:=Z0 hA;split at hA
    · rename_i t' n' a' q' hq'
      cases hA;obtain⟨h5,h6⟩:=Z1D hX.t h4;rw[←Z2T hX.t 10 q,hq']at h6;rw[←Y7 hX.t q,←Z2T hX.t 10 q,hq',Y7 hX.t]at h5;obtain⟨h7,h8⟩:=Z3L hX.t h3;rw[Z2Z hX.t]at h7;have h9:YP ti (dvs X.T cs) (base+i*tsz X.T t+off)=some (dv X.T v):=by
        have hcut:∀m,(dvs X.T cs).drop (base+m)=(acl X.T t n a++dvs X.T q').drop m:=fun m=>by
          rw[←List.drop_drop,h6,ZB];rfl
        have hlen:=Y7 hX.t cs;rw[h5]at hlen;simp only[wds,wd]at hlen;have hin:(i+1)*tsz X.T t≤n*tsz X.T t:=Nat.mul_le_mul_right _ h2;have hpart:∀m,m≤tsz X.T t→∃rest,(acl X.T t n a++dvs X.T q').drop (i*tsz X.T t+m)=(dcl X.T t (a i)).drop m++rest:=fun m hm=>by
          refine⟨((List.range' (i+1) (n-(i+1))).flatMap fun j=>dcl X.T t (a j))++dvs X.T q',?_⟩;have hsplit:acl X.T t n a=((List.range i).flatMap fun j=>dcl X.T t (a j))++(dcl X.T t (a i)++(List.range' (i+1) (n-(i+1))).flatMap fun j=>dcl X.T t (a j)):=by
            unfold acl;rw[Z3P h2,List.flatMap_append,List.flatMap_cons]
          have hl:((List.range i).flatMap fun j=>dcl X.T t (a j)).length=i*tsz X.T t:=Z16 hX.t t i a;rw[hsplit,List.append_assoc,List.drop_append,hl,List.drop_eq_nil_of_le (by rw[hl];omega),List.nil_append,Nat.add_sub_cancel_left,List.append_assoc,List.drop_append_of_le_length (by rw[Yi hX.t];exact hm)]
        unfold YP at h7⊢;cases hag:ti.isAgg with
        | true =>
          rw[hag]at h7;simp only[cond_true]at h7⊢;obtain⟨h10,h11⟩:=Z3 h7;rw[Nat.ble_eq,Yi hX.t]at h10;obtain⟨rest,hr⟩:=hpart off (by omega)
          have hle:Nat.ble (base+i*tsz X.T t+off+ti.size) (dvs X.T cs).length=true:=by
            rw[Nat.ble_eq,hlen];rw[Nat.add_mul,Nat.one_mul]at hin;omega
          rw[hle,Nat.add_assoc,hcut,hr];simp only[cond_true];rw[List.take_append_of_le_length (by rw[List.length_drop,Yi hX.t];omega)]
          exact h11
        | false =>
          rw[hag]at h7;simp only[cond_false]at h7⊢;have hlt:=(List.getElem?_eq_some_iff.1 h7).1;rw[Yi hX.t]at hlt;obtain⟨rest,hr⟩:=hpart off (by omega)
          have:(dvs X.T cs)[base+i*tsz X.T t+off]?=((dvs X.T cs).drop (base+(i*tsz X.T t+off)))[0]? := by simp[Nat.add_assoc]
          rw[this,hcut,hr,List.getElem?_append_left (by rw[List.length_drop,Yi hX.t];omega)]
          simpa using h7
      simp only[dvO,h9];exact Zx hk3 rfl
    · cases hA
  · rename_i id v i e off
    obtain⟨o,ho,hk⟩:=Z0 hk;simp only[dv,Z3d,dvh,ho,Option.map_some,Option.bind_some];cases o<;>simp only[reduceCtorEq]at hk;rename_i re t xs p u;obtain⟨h1,hk⟩:=Z3 hk;obtain⟨h2,hk⟩:=Z3 hk;obtain⟨q,h3,hk⟩:=Z0 hk;have h2:i<xs.length:=by simpa[Tr.blt_dec]using h2
    simp only[Bool.and_eq_true]at h1;have h4:=Nat.eq_of_beq_eq_true h1.2;have h5:=(Z3L hX.t h3).1;rw[Z2Z hX.t]at h5;have h6:xs.getD i (tdf X.T t)=xs[i]:=by simp[List.getD_eq_getElem?_getD,h2]
    rw[h6]at h5;simp only[dvO,List.getElem?_map,List.getElem?_eq_getElem h2,Option.map_some,Option.bind_some];have h7:Nat.beq (dcl X.T t xs[i]).length e=true:=by rw[Yi hX.t,←h4];exact Nat.beq_refl _
    rw[h1.1,h7,h5];exact Zx hk rfl
  · rename_i cs
    obtain⟨v,h1,hk⟩:=Z0 hk;simp only[dv,Z3d,(Z3L hX.t h1).1];exact Zx hk rfl
  · cases hk
end Go.Ab
namespace Go.Ab
variable {S:Nat→Type} {R:Type}
theorem Z3G {T:TS S} {t:Ty} {n i:Nat} (h:i<n) (a:Nat→Val S t) :
    acl T t n a=((List.range i).flatMap fun j=>dcl T t (a j))++(dcl T t (a i)++(List.range' (i+1) (n-(i+1))).flatMap fun j=>dcl T t (a j)):=by
  unfold acl;rw[Z3P h,List.flatMap_append,List.flatMap_cons]
theorem Zeb {T:TS S} {t:Ty} {n i:Nat} (h:i<n) (a:Nat→Val S t) (x:Val S t) :
    acl T t n (fun j=>bif Nat.beq j i then x else a j)=((List.range i).flatMap fun j=>dcl T t (a j))++(dcl T t x++(List.range' (i+1) (n-(i+1))).flatMap fun j=>dcl T t (a j)):=by
  rw[Z3G h];have e1:∀j∈List.range i,dcl T t ((fun j=>bif Nat.beq j i then x else a j) j)=dcl T t (a j):=fun j hj=>by
    have:j<i:=List.mem_range.1 hj;have hb:Nat.beq j i=false:=by rw[Tr.beq_dec];simp;omega
    simp[hb]
  have e2:∀j∈List.range' (i+1) (n-(i+1)),dcl T t ((fun j=>bif Nat.beq j i then x else a j) j)=dcl T t (a j):=fun j hj=>by
    have:=List.mem_range'_1.1 hj;have hb:Nat.beq j i=false:=by rw[Tr.beq_dec];simp;omega
    simp[hb]
  have e3:Nat.beq i i=true:=Nat.beq_refl i;simp only[e3,cond_true];congr 1
  · rw[List.flatMap_def,List.flatMap_def,List.map_congr_left e1]
  · congr 1
    rw[List.flatMap_def,List.flatMap_def,List.map_congr_left e2]
variable {X:Yp S} (hX:XOk X)
include hX
theorem Z5i (t:TypeId) (cs:List (TV S)):dvs X.T (Zab X t cs)=dvs X.T cs:=by
  unfold Zab;cases X.code t with
  | none=>rfl
  | some c =>
    simp only;cases hd:Z6T X.T c cs with
    | none=>rfl
    | some x=>simp only;rw[Z2Z hX.t,Z2y hX.t hd]
omit hX in
theorem Zej {pid:Nat} {l:List DV} (h:l.all (Z4M pid)=true):l.all ZI=true:=by
  rw[List.all_eq_true]at h⊢;intro d hd;rcases Z1z (h d hd)with rfl|⟨t,rfl⟩<;>rfl
theorem Z7G {v:TV S} (h:(Yf v).all Z8i=true):(cellsOf (dv X.T v)).all ZI=true:=by
  rw[YC];generalize Yf v=cs at h
  induction cs with
  | nil=>simp[dvs]
  | cons c cs ih =>
    simp only[List.all_cons,Bool.and_eq_true]at h;rw[ZB,List.all_append,ih h.2,Bool.and_true];cases c<;>simp only[Z8i,Bool.false_eq_true]at h<;>simp only[Yc,dv,List.all_cons,List.all_nil,ZI,Bool.and_true]
    · exact Z2u (Yt hX.t _ _ _)
    · exact Z2u (hX.t.plain _ _)
    · exact Zej (YD _ _ _ _)
    · exact Zej (Z1d 0 _)
    · exact absurd h.1 (by simp)
    · exact absurd h.1 (by simp)
omit hX in
theorem Zhz {ts:List TypeId} {pid n i m:Nat} {ar:Nat→Nat} (h:i<n):eal ts pid n (fun j=>bif Nat.beq j i then m else ar j)=(eal ts pid n ar).take i++[enD pid ts m]++(eal ts pid n ar).drop (i+1):=by
  have hb:∀j,j≠i→Nat.beq j i=false:=fun j hj=>by
    cases hq:Nat.beq j i with
    | false=>rfl
    | true=>exact absurd (Nat.eq_of_beq_eq_true hq) hj
  have h1:(eal ts pid n ar).take i=(List.range i).map fun j=>enD pid ts (ar j):=by
    unfold eal;rw[Z3P h,List.map_append,List.take_left' (by simp)]
  have h2:(eal ts pid n ar).drop (i+1)=(List.range' (i+1) (n-(i+1))).map fun j=>enD pid ts (ar j):=by
    unfold eal;rw[Z3P h,List.map_append,List.map_cons,List.drop_append];simp
  rw[h1,h2];unfold eal;rw[Z3P h,List.map_append,List.map_cons];simp only[Nat.beq_refl,cond_true];have e1:(List.range i).map (fun j=>enD pid ts (bif Nat.beq j i then m else ar j))=(List.range i).map fun j=>enD pid ts (ar j):=List.map_congr_left fun j hj=>by
    rw[hb j (by have:=List.mem_range.1 hj;omega)];rfl
  have e2:(List.range' (i+1) (n-(i+1))).map (fun j=>enD pid ts (bif Nat.beq j i then m else ar j))=(List.range' (i+1) (n-(i+1))).map fun j=>enD pid ts (ar j):=List.map_congr_left fun j hj=>by
    rw[hb j (by have:=List.mem_range'_1.1 hj;omega)];rfl
  rw[e1,e2];simp
omit hX in
theorem Zcb {pid:Nat} {t:TypeId}:∀{ts:List TypeId} {j m:Nat},ZhI t ts j=some m→j≤m∧enD pid ts (m-j+1)=.iface t (.agg [.ptr pid 0])
  | [],_,_,h=>by cases h
  | u::ts,j,m,h=>by
    simp only[ZhI]at h;cases hq:Nat.beq u t with
    | true =>
      rw[hq]at h;cases h;have:=Nat.eq_of_beq_eq_true hq;subst this;exact⟨Nat.le_refl _,by rw[Nat.sub_self];simp[enD]⟩
    | false =>
      rw[hq]at h;obtain⟨h1,h2⟩:=Zcb (pid:=pid) h;refine⟨by omega,?_⟩
      rw[show m-j+1=(m-(j+1))+2 by omega]
      simpa[enD]using h2
omit hX in
theorem Zgn {ts:List TypeId} {pid m:Nat} {v:TV S} (h:ZiH ts pid v=some m):dvs X.T (Yf v)=[enD pid ts m]∧Yf v=[v]∧wds X.T (Yf v)=1:=by
  unfold ZiH at h;split at h
  · cases h
    exact⟨by cases ts<;>simp[Yf,dvs,dv,enD],rfl,rfl⟩
  · rename_i t p
    obtain⟨h1,hi⟩:=Z3 h;have hp:=Nat.eq_of_beq_eq_true h1;obtain⟨h2,h3⟩:=Zcb (pid:=pid) hi;refine⟨?_,rfl,rfl⟩;rw[show m=m-1+1 by omega,h3,hp]
    simp[Yf,dvs,dv]
  · cases h
theorem ZfV {ti:TI} {h:Nat→Option (Zq S)} {a v:TV S} {k:Z2l S R} {r:R} (hk:Ze0 X ti h a v k=some r) :
    Sim X.T ((Z54 ti (dvh X.T h) (dv X.T a) (dv X.T v)).bind fun u=>some ⟨some (.tup []),u⟩) k r:=by
  unfold Ze0 at hk;have h0:=(Z3 hk).1;replace hk:=(Z3 hk).2;simp only[Bool.and_eq_true]at h0;have hc:(Nat.beq (cellsOf (dv X.T v)).length ti.size&&(cellsOf (dv X.T v)).all ZI)=true:=by
    rw[Z7G hX h0.2,YC,Y7 hX.t,h0.1];rfl
  have hsz:=Nat.eq_of_beq_eq_true h0.1;unfold Z54;rw[hc];simp only[cond_true];cases a with
  | ptr id off =>
    simp only at hk;obtain⟨o,ho,hk⟩:=Z0 hk;cases o<;>simp only[reduceCtorEq]at hk;rename_i ct cs;obtain⟨cs',h1,hk⟩:=Z0 hk;obtain⟨h2,h3⟩:=Z1e hX.t h1;have hle:Nat.ble (off+ti.size) (dvs X.T cs).length=true:=by rw[Nat.ble_eq,Y7 hX.t];omega
    refine⟨_,?_,?_,hk⟩
    · simp only[dv,dvh,ho,Option.map_some,Option.bind_some,dvO,hle,cond_true,YC,h3]
      simp[Yd,dvu,dvO,dv,dvl,Z5i hX]
    · exact Y3 rfl ZZ
  | ap id base i e off =>
    simp only at hk;obtain⟨o,ho,hk⟩:=Z0 hk;cases o<;>simp only[reduceCtorEq]at hk;rename_i ct cs;split at hk
    · rename_i ts pid n ar hE
      obtain⟨h1,hk1⟩:=Z3 hk;obtain⟨h2,hk2⟩:=Z3 hk1;obtain⟨m,hm,hk3⟩:=Z0 hk2;obtain⟨cs',h5,hk4⟩:=Z0 hk3;clear hk hk1 hk2 hk3;simp only[Bool.and_eq_true]at h1;obtain⟨h3,h4⟩:=h1;have h3:=Nat.eq_of_beq_eq_true h3;have h4:=Nat.eq_of_beq_eq_true h4;subst h3 h4;have h2:i<n:=by simpa[Tr.blt_dec]using h2
      obtain⟨q,h8,h9⟩:=Z8F hX hE;obtain⟨hv,_,hw⟩:=Zgn (X:=X) hm;have hts:ti.size=1:=by rw[←hsz,hw]
      obtain⟨g1,g2⟩:=Z1e hX.t h5;have hle:Nat.ble (base+i*1+0+ti.size) (dvs X.T cs).length=true:=by rw[Nat.ble_eq,hts];omega
      have hnew:Yh (dvs X.T cs) (base+i*1+0) (dvs X.T (Yf v))=dvs X.T cs':=by
        rw[←g2,hv];have harr:dvs X.T [.earr ts pid n (fun j=>bif Nat.beq j i then m else ar j)]=eal ts pid n (fun j=>bif Nat.beq j i then m else ar j):=by simp[dvs]
        have hl1:(eal ts pid n (fun j=>bif Nat.beq j i then m else ar j)).length=n:=by simp[eal]
        have hl2:(eal ts pid n ar).length=n:=by simp[eal]
        rw[harr,Z11 _ _ _ (by simp;omega),Z11 _ _ _ (by rw[hl1];exact h8),hl1]
        have e1:(dvs X.T cs).take (base+i*1+0)=(dvs X.T cs).take base++(eal ts pid n ar).take i:=by
          rw[Nat.mul_one,Nat.add_zero,List.take_add,h9,List.take_append_of_le_length (by rw[hl2];omega)]
        have e2:(dvs X.T cs).drop (base+i*1+0+[enD pid ts m].length)=(eal ts pid n ar).drop (i+1)++(dvs X.T cs).drop (base+n):=by
          have hq:(dvs X.T cs).drop (base+n)=q:=by
            rw[←List.drop_drop,h9,List.drop_append,hl2,Nat.sub_self,List.drop_eq_nil_of_le (by rw[hl2];exact Nat.le_refl _)];rfl
          rw[hq,show base+i*1+0+[enD pid ts m].length=base+(i+1) by simp;omega,←List.drop_drop,h9,List.drop_append_of_le_length (by rw[hl2];omega)]
        have e3:eal ts pid n (fun j=>bif Nat.beq j i then m else ar j)=(eal ts pid n ar).take i++[enD pid ts m]++(eal ts pid n ar).drop (i+1):=by
          exact Zhz h2
        rw[e1,e2,e3];simp only[List.append_assoc]
      refine⟨_,?_,Y3 rfl ZZ,hk4⟩;simp only[dv,dvh,ho,Option.map_some,Option.bind_some,dvO,hle,cond_true,YC,hnew];simp[Yd,dvu,dvO,dv,dvl]
    obtain⟨A,hA,hk⟩:=Z0 hk;obtain⟨t,n,ar⟩:=A;simp only at hk;obtain⟨h1,hk⟩:=Z3 hk;obtain⟨h2,hk⟩:=Z3 hk;obtain⟨c,h3,hk⟩:=Z0 hk;obtain⟨x,h4,hk⟩:=Z0 hk;obtain⟨cs',h5,hk⟩:=Z0 hk;have h1:=Nat.eq_of_beq_eq_true h1;have h2:i<n:=by simpa[Tr.blt_dec]using h2
    obtain⟨h6,h7⟩:=Z1e hX.t h3;obtain⟨h8,h9⟩:=Z1e hX.t h5;rw[Z2Z hX.t,Z2y hX.t h4]at h7;unfold Z8u at hA;obtain⟨q,h10,hA⟩:=Z0 hA;split at hA
    · rename_i t' n' a' q' hq'
      cases hA;obtain⟨h11,h12⟩:=Z1D hX.t h10;rw[←Z2T hX.t 10 q,hq']at h12;rw[←Y7 hX.t q,←Z2T hX.t 10 q,hq',Y7 hX.t]at h11;have hlenT:wds X.T (tcl X.T t (ar i))=tsz X.T t:=by rw[←Y7 hX.t,Z2Z hX.t,Yi hX.t]
      rw[hlenT]at h6;have hlen:=Y7 hX.t cs;rw[h11]at hlen;simp only[wds,wd]at hlen;have hin:i*tsz X.T t+tsz X.T t≤n*tsz X.T t:=by
        have:=Nat.mul_le_mul_right (tsz X.T t) h2;rw[Nat.succ_mul]at this;exact this
      have hle:Nat.ble (base+i*e+off+ti.size) (dvs X.T cs).length=true:=by rw[Nat.ble_eq,h1];omega
      have hnew:Yh (dvs X.T cs) (base+i*e+off) (dvs X.T (Yf v))=dvs X.T cs':=by
        rw[←h9];have hv2:(dvs X.T (Yf v)).length=wds X.T (Yf v):=Y7 hX.t _;rw[Z11 _ _ _ (by rw[hv2,h1];omega)]
        have hcut:∀m,(dvs X.T cs).drop (base+m)=(acl X.T t n ar++dvs X.T q').drop m:=fun m=>by
          rw[←List.drop_drop,h12,ZB];rfl
        have hal:(acl X.T t n (fun j=>bif Nat.beq j i then x else ar j)).length=n*tsz X.T t:=Z16 hX.t t n _;have harr:dvs X.T [.arr t n (fun j=>bif Nat.beq j i then x else ar j)]=acl X.T t n (fun j=>bif Nat.beq j i then x else ar j):=by simp[dvs]
        rw[harr,Z11 _ _ _ (by rw[hal];omega),hal]
        have hpre:(dvs X.T cs).take (base+i*e+off)=(dvs X.T cs).take base++(acl X.T t n ar++dvs X.T q').take (i*e+off):=by
          have:=hcut 0;rw[Nat.add_zero,List.drop_zero]at this;rw[←this,Nat.add_assoc,List.take_add]
        have hq:(dvs X.T cs).drop (base+n*tsz X.T t)=dvs X.T q':=by
          rw[hcut,List.drop_append,Z16 hX.t,Nat.sub_self,List.drop_eq_nil_of_le (by rw[Z16 hX.t];exact Nat.le_refl _)];rfl
        rw[hpre,hq,Nat.add_assoc base,Nat.add_assoc base,hcut,hv2,Zeb h2 ar x,←h7,Z11 _ _ _ (by rw[hv2,Yi hX.t];omega),Z3G h2 ar,hv2]
        have hl:((List.range i).flatMap fun j=>dcl X.T t (ar j)).length=i*tsz X.T t:=Z16 hX.t t i ar;have hd:=Yi hX.t t (ar i);generalize ((List.range i).flatMap fun j=>dcl X.T t (ar j))=P1 at *;generalize ((List.range' (i+1) (n-(i+1))).flatMap fun j=>dcl X.T t (ar j))=P2 at *;generalize dcl X.T t (ar i)=M at *;generalize dvs X.T (Yf v)=Vv at *;have e1:((P1++(M++P2))++dvs X.T q').take (i*e+off)=P1++M.take off:=by
          rw[List.append_assoc,List.take_append,hl,h1,List.take_of_length_le (by rw[hl];omega),Nat.add_sub_cancel_left,List.append_assoc,List.take_append_of_le_length (by rw[hd];omega)]
        have e2:((P1++(M++P2))++dvs X.T q').drop (i*e+off+wds X.T (Yf v))=M.drop (off+wds X.T (Yf v))++P2++dvs X.T q':=by
          rw[List.append_assoc,List.drop_append,hl,h1,List.drop_eq_nil_of_le (by rw[hl];omega),List.nil_append,show i*tsz X.T t+off+wds X.T (Yf v)-i*tsz X.T t=off+wds X.T (Yf v) by omega,List.append_assoc,List.drop_append_of_le_length (by rw[hd];omega),List.append_assoc]
        rw[e1,e2];simp only[List.append_assoc]
      refine⟨_,?_,?_,hk⟩
      · simp only[dv,dvh,ho,Option.map_some,Option.bind_some,dvO,hle,cond_true,YC,hnew]
        simp[Yd,dvu,dvO,dv,dvl,Z5i hX]
      · exact Y3 rfl ZZ
    · cases hA
  | rptr id v' i e off =>
    simp only at hk;obtain⟨o,ho,hk⟩:=Z0 hk;cases o<;>simp only[reduceCtorEq]at hk;rename_i et t xs p u;obtain⟨h1,hk⟩:=Z3 hk;obtain⟨h2,hk⟩:=Z3 hk;obtain⟨c,h3,hk⟩:=Z0 hk;obtain⟨x,h4,hk⟩:=Z0 hk;simp only[Bool.and_eq_true]at h1;obtain⟨⟨⟨hu,he⟩,hp⟩,hf⟩:=h1;have h2:i<xs.length:=by simpa[Tr.blt_dec]using h2
    have he':=Nat.eq_of_beq_eq_true he;obtain⟨h6,h7⟩:=Z1e hX.t h3;have hw:wds X.T (tcl X.T t (xs.getD i (tdf X.T t)))=tsz X.T t:=by rw[←Y7 hX.t,Z2Z hX.t,Yi hX.t]
    rw[hw]at h6;rw[Z2Z hX.t,Z2y hX.t h4]at h7;have hget:(xs.map (dcl X.T t))[i]? = some (dcl X.T t (xs.getD i (tdf X.T t))):=by
      rw[List.getElem?_map,List.getElem?_eq_getElem h2,List.getD_eq_getElem?_getD,List.getElem?_eq_getElem h2];rfl
    have hle:Nat.ble (off+ti.size) (dcl X.T t (xs.getD i (tdf X.T t))).length=true:=by rw[Nat.ble_eq,Yi hX.t];omega
    have hb:(Nat.beq u v'&&Nat.beq (dcl X.T t (xs.getD i (tdf X.T t))).length e&&Nat.beq p 0&&Zc (cellsOf (dv X.T v))&&Nat.ble (off+ti.size) (dcl X.T t (xs.getD i (tdf X.T t))).length)=true:=by
      rw[hle,hu,Yi hX.t,he,hp,YC,Z4J hX.t,hf];rfl
    refine⟨_,?_,Y3 rfl ZZ,hk⟩;simp only[dv,dvh,ho,Option.map_some,Option.bind_some,dvO,hget,hb,cond_true];rw[YC,h7];simp[Yd,dvu,dvO,dv,dvl,List.map_set]
  | _=>cases hk
end Go.Ab
namespace Go.Ab
variable {S:Nat→Type} {R:Type} {X:Yp S} (hX:XOk X)
include hX
theorem Z3s {t:Ty} {n:Nat} (hn:tsz X.T t=n) (xs:List (Val S t)):(xs.map (dcl X.T t)).all (fun c=>Nat.beq c.length n)=true:=by
  rw[List.all_eq_true];intro c hc;obtain⟨x,_,rfl⟩:=List.mem_map.1 hc;rw[Yi hX.t,hn];exact Nat.beq_refl n
theorem Zdg {nid:Nat} {h:Nat→Option (Zq S)} {t:TypeId} {s x:TV S} {k:Z2l S R} {r:R} (hk:ZaC X nid h t s x k=some r) :
    Sim X.T (Z3p X.E nid (dvh X.T h) t t (dv X.T s) (dv X.T x)) k r:=by
  unfold ZaC at hk;obtain⟨ti,h1,hk⟩:=Z0 hk;unfold Z3p;rw[h1];simp only[Option.bind_some];split at hk
  · rename_i e he
    simp only[he];obtain⟨ei,h2,hk⟩:=Z0 hk;obtain⟨te,h3,hk⟩:=Z0 hk;obtain⟨xs,h4,hk⟩:=Z0 hk;obtain⟨h5,hk⟩:=Z3 hk;have hsz:=(hX.code e te ei h3 h2).1;have hax:Z8s X.E (dvh X.T h) t t (dv X.T x)=Y4 (dvh X.T h) (dv X.T x):=by unfold Z8s;rw[Nat.beq_refl];rfl
    rw[h2,hax,Z74 h4];simp only[Option.bind_some,h5,cond_true];cases s with
    | nils =>
      cases xs with
      | nil=>exact Zx hk rfl
      | cons y ys =>
        simp only at hk;obtain⟨h6,hk⟩:=Z3 hk;refine⟨_,?_,Y3 rfl ZZ,hk⟩;simp only[dv,List.map_cons];rw[←List.map_cons,Z3s hX hsz.symm,List.length_map,h6];simp[Yd,dvu,dvO,dv]
    | rs id v =>
      simp only at hk;obtain⟨o,ho,hk⟩:=Z0 hk;cases o<;>simp only[reduceCtorEq]at hk;rename_i e' te' es p u;obtain⟨h6,hk⟩:=Z3 hk;split at hk
      · rename_i q
        subst q;obtain⟨h7,hk⟩:=Z3 hk;refine⟨_,?_,Y3 rfl ZZ,hk⟩;simp only[dv,dvh,ho,Option.map_some,Option.bind_some,dvO];rw[h6,Z3s hX hsz.symm,List.length_map,List.length_map,h7];simp[Yd,dvu,dvO,dv]
      · cases hk
    | _=>cases hk
  · cases hk
theorem Z7j (ρ:Nat→Option (TV S)):∀{ps:List (Nat×Operand)} {vs:List (Nat×TV S)},Z98 ρ ps=some vs→Z26 (dvr X.T ρ) ps=some (vs.map fun p=>(p.1,dv X.T p.2))
  | [],vs,h=>by cases h;rfl
  | (i,x)::ps,vs,h=>by
    simp only[Z98]at h;obtain⟨v,h1,h⟩:=Z0 h;obtain⟨vs',h2,h⟩:=Z0 h;cases h;simp only[Z26,ZR,h1,Option.map_some,Option.bind_some,Z7j ρ h2,List.map_cons]
theorem Z8L {fs:List (Nat×Nat)}:∀{ps:List (Nat×TV S)} {cs r:List (TV S)},Z8f X fs ps cs=some r→Z1b fs X.E (ps.map fun p=>(p.1,dv X.T p.2)) (dvs X.T cs)=some (dvs X.T r)
  | [],cs,r,h=>by cases h;rfl
  | (i,v)::ps,cs,r,h=>by
    simp only[Z8f]at h;obtain⟨⟨ft,off⟩,h1,h⟩:=Z0 h;obtain⟨ti,h2,h⟩:=Z0 h;obtain⟨h3,h⟩:=Z3 h;obtain⟨cs',h4,h⟩:=Z0 h;simp only at h2 h4;obtain⟨h5,h6⟩:=Z1e hX.t h4;have h7:=Nat.eq_of_beq_eq_true h3;have hle:Nat.ble (off+ti.size) (dvs X.T cs).length=true:=by rw[Nat.ble_eq,Y7 hX.t];omega
    simp only[List.map_cons,Z1b,h1,Option.bind_some,h2,YC,Y7 hX.t (Yf v),h3,hle,Bool.and_self,cond_true,h6];exact Z8L h
theorem Z8K {t:Ty} {n:Nat}:∀{ps:List (Nat×TV S)} {a a':Nat→Val S t},Z8e X t n ps a=some a'→Z1G (tsz X.T t) (ps.map fun p=>(p.1,dv X.T p.2)) (acl X.T t n a)=some (acl X.T t n a')
  | [],a,a',h=>by cases h;rfl
  | (i,v)::ps,a,a',h=>by
    simp only[Z8e]at h;obtain⟨x,h1,h⟩:=Z0 h;obtain⟨h2,h⟩:=Z3 h;have h2:i<n:=by simpa[Tr.blt_dec]using h2
    have h3:cellsOf (dv X.T v)=dcl X.T t x:=by
      rw[Z3l hX.t h1];cases t<;>rfl
    have hin:i*tsz X.T t+tsz X.T t≤n*tsz X.T t:=by
      have:=Nat.mul_le_mul_right (tsz X.T t) h2;rw[Nat.succ_mul]at this;exact this
    have h4:Yh (acl X.T t n a) (i*tsz X.T t) (dcl X.T t x)=acl X.T t n (fun j=>bif Nat.beq j i then x else a j):=by
      rw[Z11 _ _ _ (by rw[Z16 hX.t,Yi hX.t];exact hin),Zeb h2,Z3G h2,Yi hX.t]
      have hl:((List.range i).flatMap fun j=>dcl X.T t (a j)).length=i*tsz X.T t:=Z16 hX.t t i a;generalize ((List.range i).flatMap fun j=>dcl X.T t (a j))=P1 at *;rw[List.take_append_of_le_length (by omega),List.take_of_length_le (by omega),List.drop_append,List.drop_eq_nil_of_le (by omega),List.nil_append,hl,Nat.add_sub_cancel_left,List.drop_append,List.drop_eq_nil_of_le (by rw[Yi hX.t];exact Nat.le_refl _),Yi hX.t,Nat.sub_self,List.drop_zero,List.nil_append,List.append_assoc]
    have hb:Nat.beq (dcl X.T t x).length (tsz X.T t)=true:=by rw[Yi hX.t];exact Nat.beq_refl _
    have hle:Nat.ble (i*tsz X.T t+tsz X.T t) (acl X.T t n a).length=true:=by rw[Nat.ble_eq,Z16 hX.t];exact hin
    simp only[List.map_cons,Z1G,h3,hb,hle,Bool.and_self,cond_true,h4];exact Z8K h
theorem ZcK {h:Nat→Option (Zq S)} {t:Ty}:∀{k:Nat} {ps:List (Nat×TV S)} {xs:List (Val S t)},Zf7 X h t k ps=some xs→Z5D (dvh X.T h) (tsz X.T t) k (ps.map fun p=>(p.1,dv X.T p.2))=some (xs.map (dcl X.T t))
  | _,[],xs,hr=>by cases hr;rfl
  | k,(i,v)::ps,xs,hr=>by
    simp only[Zf7]at hr;obtain⟨h1,hr⟩:=Z3 hr;obtain⟨c,h2,hr⟩:=Z0 hr;obtain⟨x,h3,hr⟩:=Z0 hr;obtain⟨r,h4,hr⟩:=Z0 hr;cases hr;have h5:=Z2y hX.t h3;simp only[List.map_cons,Z5D,YC,Y7 hX.t,h1,cond_true,Z8U hX.t,h2,Option.map_some,Option.bind_some,h5,Z2u (Z33 hX.t t x),ZcK h4]
theorem Z5E:∀(vs:List (Nat×TV S)),Zk ((vs.map fun p=>(p.1,dv X.T p.2)).map (·.2))=Yr (vs.map (·.2))
  | []=>rfl
  | v::vs=>by simp only[List.map_cons,Zk,Yr,Z6N hX.t,Z5E vs]
theorem Zfm {cs:List (TV S)} {base n:Nat} {t:Ty} {a:Nat→Val S t} (h:Z8u X.T cs base=some ⟨t,n,a⟩):∃q,base+n*tsz X.T t≤(dvs X.T cs).length∧(dvs X.T cs).drop base=acl X.T t n a++q:=by
  unfold Z8u at h;obtain⟨q,h1,h⟩:=Z0 h;split at h
  · rename_i t' n' a' q' hq'
    cases h;obtain⟨h5,h6⟩:=Z1D hX.t h1;rw[←Z2T hX.t 10 q,hq',ZB]at h6;refine⟨dvs X.T q',?_,h6⟩;have hl:=congrArg List.length h6;rw[List.length_drop,List.length_append]at hl;simp only[Yc]at hl;rw[Z16 hX.t]at hl
    by_cases h0:n*tsz X.T t=0
    · have:wds X.T cs=base+wds X.T q:=h5
      rw[Y7 hX.t];omega
    · omega
  · cases h
theorem Z8z (t:Ty):∀(n:Nat) (a:Nat→Val S t) (q:List DV),Z1Z (tsz X.T t) n (acl X.T t n a++q)=((List.range n).map a).map (dcl X.T t)
  | 0,_,_=>rfl
  | n+1,a,q=>by
    have h1:acl X.T t (n+1) a=dcl X.T t (a 0)++acl X.T t n (fun j=>a (j+1)):=by
      unfold acl;rw[List.range_succ_eq_map,List.flatMap_cons,List.flatMap_map]
    have hd:=Yi hX.t t (a 0);unfold Z1Z;rw[h1,List.append_assoc,←hd,List.take_left,List.drop_left,hd,Z8z t n,List.range_succ_eq_map,List.map_cons,List.map_cons,List.map_map,List.map_map,List.map_map];rfl
theorem Z8Y {t:Ty} {e:Val S t→Val S t→Bool} (hs:Z8X X.T t=some e) (x y:Val S t):Z6x (YT X.T t x) (YT X.T t y)=some (e x y):=by
  cases t with
  | st i =>
    have hs':X.T.seq i=some e:=hs;have h:=hX.t.seq i e hs' x y;show Zl (X.T.dcells i x) (X.T.dcells i y)=some (e x y);exact h
  | bool=>cases hs;rfl
  | int k=>cases hs;simp[YT,Z6x]
  | str=>cases hs;rfl
  | sl t=>cases hs
  | arr n t=>cases hs
theorem Za7 {kt et:Ty} {e:Val S kt→Val S kt→Bool} (hs:Z8X X.T kt=some e) (key:Val S kt):∀m:List (Val S kt×Val S et),
    Z2V (YT X.T kt key) (m.map fun p=>(YT X.T kt p.1,YT X.T et p.2))=some ((Z93 e key m).map (YT X.T et))
  | []=>rfl
  | (k',v)::m=>by
    simp only[List.map_cons,Z2V,Z8Y hX hs,Option.bind_some,Z93];cases e key k' with
    | true=>rfl
    | false=>simp only[cond_false];exact Za7 hs key m
theorem Zco {kt et:Ty} {e:Val S kt→Val S kt→Bool} (hs:Z8X X.T kt=some e) (key:Val S kt) (x:Val S et):∀m:List (Val S kt×Val S et),
    Z4P (YT X.T kt key) (YT X.T et x) (m.map fun p=>(YT X.T kt p.1,YT X.T et p.2))=some ((Zid e key x m).map fun p=>(YT X.T kt p.1,YT X.T et p.2))
  | []=>rfl
  | (k',v)::m=>by
    simp only[List.map_cons,Z4P,Z8Y hX hs,Option.bind_some,Zid];cases e key k' with
    | true=>simp
    | false=>simp only[cond_false,Zco hs key x m,Option.bind_some,List.map_cons]
theorem Z7Q {ki:TI} {kt:TypeId} (hki:X.E.ty kt=some ki) {t:Ty} {x:Val S t} (h:Z6y X.T ki (X.zero kt) t x=true):Yq ki (YT X.T t x)=true:=by
  unfold Z6y at h;split at h
  · rename_i k n x hk;simp[YT,Yq,hk]
  · rename_i x hk;simp[YT,Yq,hk]
  · rename_i x hk;simp[YT,Yq,hk]
  · rename_i fs i x hk
    simp only[Bool.and_eq_true]at h;obtain⟨⟨h1,h2⟩,h3⟩:=h;cases hz:X.zero kt with
    | none=>rw[hz]at h3;cases h3
    | some z =>
      rw[hz]at h3;simp only at h3;have h4:=Z25 X.T h3;rw[Z2k hX.t,Z2k hX.t,hX.zero kt z ki hz hki]at h4;simp only[dvs,List.append_nil]at h4;simp[YT,Yq,hk,h1,h2,h4]
  · cases h
omit hX in
theorem Zfu {T:TS S} {t:Ty} (h:Z10 t=false) (x:Val S t):ZI (YT T t x)=true∧Zh (YT T t x)=true:=by
  cases t<;>simp[Z10]at h<;>simp[YT,ZI,Zh]
theorem Zi6 {k:TK} {h:Nat→Option (Zq S)} {d v:TV S} (hl:ZiR k h d=some v):Z5p k (dvh X.T h) (dv X.T d)=some (dv X.T v):=by
  unfold ZiR at hl;split at hl<;>first|(cases hl;done)|skip
  · cases hl;simp[dv,Z5p]
  · cases hl;simp[dv,Z5p]
  · obtain⟨o,ho,hl⟩:=Z0 hl
    cases o<;>simp only[reduceCtorEq]at hl;cases hl;simp[dv,Z5p,dvh,ho,dvO]
  · cases hl;simp[dv,Z5p,Y4]
  · cases hl;simp[dv,Z5p,Y4]
  · cases hl;simp[dv,Z5p]
  · cases hl;simp[dv,Z5p,Y4]
  · obtain⟨o,ho,hl⟩:=Z0 hl
    cases o<;>simp only[reduceCtorEq]at hl;obtain⟨h1,hl⟩:=Z3 hl;cases hl;simp[dv,Z5p,dvh,ho,dvO,Y4,h1]
  · cases hl;simp[dv,Z5p]
theorem Z8P {f:TV S→TV S→Option (TV S)} {g:DV→DV→Option DV} (hf:∀x y z,f x y=some z→g (dv X.T x) (dv X.T y)=some (dv X.T z)):∀{xs:List (TV S)} {x z:TV S},ZbY f x xs=some z→Z6r g (dv X.T x) (dvl X.T xs)=some (dv X.T z)
  | [],x,z,h=>by cases h;simp[dvl,Z6r]
  | y::ys,x,z,h=>by
    simp only[ZbY]at h;obtain⟨w,h1,h⟩:=Z0 h;simp only[dvl,Z6r,hf _ _ _ h1,Option.bind_some];exact Z8P hf h
theorem Zib (x y z:TV S) (h:ZgP x y=some z):Zcn (dv X.T x) (dv X.T y)=some (dv X.T z):=by
  unfold ZgP at h;split at h
  · cases h;simp[dv,Zcn]
  · cases h
theorem Zia (x y z:TV S) (h:ZgN x y=some z):Zcm (dv X.T x) (dv X.T y)=some (dv X.T z):=by
  unfold ZgN at h;split at h
  · cases h;simp[dv,Zcm]
  · cases h
omit hX in
theorem Zgc (s:ByteArray) (i:Nat) (hi:i<s.size):(s[i]?).bind (fun b=>ret (.int .u8 b.toNat))=ret (.int .u8 (s.toList.getD i 0).toNat):=by
  have h1:s[i]? = some s[i]:=by simp[hi]
  rw[h1];have h2:s.toList.getD i 0=s[i]:=by
    rw[List.getD_eq_getElem?_getD];simp[ByteArray.toList_eq,hi];rfl
  rw[h2];rfl
end Go.Ab
namespace Go.Ab
variable {S:Nat→Type} {R:Type} {X:Yp S} (hX:XOk X)
include hX
theorem Z44 {nid:Nat} {ρ:Nat→Option (TV S)} {h:Nat→Option (Zq S)} {op:Op} {k:Z2l S R} {r:R} (hk:opK X nid ρ h op k=some r)
    (hop:(∃t ps,op=.build t ps)∨(∃t n ps,op=.buildSlice t n ps)∨(∃t x lo hi,op=.slice t x lo hi none)∨(∃t x i,op=.indexAddr t x i)∨(∃t x i,op=.index t x i)∨(∃t m x ok,op=.lookup t m x ok)∨(∃t m x v,op=.mapUpdate t m x v)) :
    Sim X.T (ZE X.E nid (dvr X.T ρ) (dvh X.T h) op) k r:=by
  rcases hop with⟨t,ps,rfl⟩|⟨t,n,ps,rfl⟩|⟨t,x,lo,hi,rfl⟩|⟨t,x,i,rfl⟩|⟨t,x,i,rfl⟩|⟨t,m,x,ok,rfl⟩|⟨t,m,x,v,rfl⟩
  · simp only[opK]at hk
    obtain⟨ti,h1,hkk⟩:=Z0 hk;replace hk:=hkk;clear hkk;obtain⟨vs,h2,hkk⟩:=Z0 hk;replace hk:=hkk;clear hkk;obtain⟨z,h3,hkk⟩:=Z0 hk;replace hk:=hkk;clear hkk;have hz:=hX.zero t z ti h3 h1;simp only[ZE,h1,Option.bind_some,Z7j hX ρ h2];split at hk
    · rename_i fs he
      obtain⟨cs,h4,hkk⟩:=Z0 hk;replace hk:=hkk;clear hkk;simp only[he];rw[←hz,Z8L hX h4];exact Zx hk rfl
    · rename_i len e he
      obtain⟨ei,hei,hkk⟩:=Z0 hk;replace hk:=hkk;clear hkk;obtain⟨te,h4,hkk⟩:=Z0 hk;replace hk:=hkk;clear hkk;split at hk
      · rename_i te' n a
        split at hk
        · rename_i q
          subst q;obtain⟨a',h5,hkk⟩:=Z0 hk;replace hk:=hkk;clear hkk;simp only[he];have hsz:=(hX.code e te' ei h4 hei).1;have hz':ti.zero=acl X.T te' n a:=by rw[←hz];simp[dvs]
          simp only[hei,Option.bind_some];rw[hz',hsz,Z8K hX h5];refine Zx hk ?_;simp[dv,dvs,ret]
        · cases hk
      · cases hk
    · cases hk
  · simp only[opK]at hk
    obtain⟨ti,h1,hkk⟩:=Z0 hk;replace hk:=hkk;clear hkk;simp only[ZE,h1,Option.bind_some];split at hk
    · rename_i e he
      obtain⟨ei,h2,hkk⟩:=Z0 hk;replace hk:=hkk;clear hkk;obtain⟨te,h3,hkk⟩:=Z0 hk;replace hk:=hkk;clear hkk;obtain⟨vs,h4,hkk⟩:=Z0 hk;replace hk:=hkk;clear hkk;obtain⟨es,h5,hkk⟩:=Z0 hk;replace hk:=hkk;clear hkk;obtain⟨h6,hkk⟩:=Z3 hk;replace hk:=hkk;clear hkk;have hsz:=(hX.code e te ei h3 h2).1;simp only[he,h2,Option.bind_some,Z7j hX ρ h4];rw[hsz,ZcK hX h5];simp only[Option.bind_some,List.length_map];rw[hsz]at h6;rw[h6];refine⟨_,?_,Y3 rfl (Z2t _ _),hk⟩;simp only[cond_true,Yd,dvu,List.map_cons,Option.map_some,dvO,dv,Z6Q,Z5E hX]
    · cases hk
  · simp only[opK]at hk
    obtain⟨ti,h1,hkk⟩:=Z0 hk;replace hk:=hkk;clear hkk;obtain⟨d,h2,hkk⟩:=Z0 hk;replace hk:=hkk;clear hkk;obtain⟨lo',h3,hkk⟩:=Z0 hk;replace hk:=hkk;clear hkk;obtain⟨hi',h4,hkk⟩:=Z0 hk;replace hk:=hkk;clear hkk;simp only[ZE,h1,Option.bind_some,ZR,h2,Option.map_some,ZiW,h3,h4];split at hk
    · rename_i s he
      simp only[he,dv];obtain⟨hh,h5,hkk⟩:=Z31 (T:=X.T) hk;replace hk:=hkk;clear hkk;obtain⟨l,h6,hkk⟩:=Z31 (T:=X.T) hk;replace hk:=hkk;clear hkk;simp only[Ze3,h5,h6,Option.bind_some];exact Zx hk rfl
    · rename_i n e id off he
      obtain⟨ei,h5,hkk⟩:=Z0 hk;replace hk:=hkk;clear hkk;obtain⟨o,ho,hkk⟩:=Z0 hk;replace hk:=hkk;clear hkk;cases o<;>simp only[reduceCtorEq]at hk;rename_i ct cs;obtain⟨A,hA,hkk⟩:=Z0 hk;replace hk:=hkk;clear hkk;obtain⟨h8,hkk⟩:=Z3 hk;replace hk:=hkk;clear hkk;obtain⟨hh,h9,hkk⟩:=Z31 (T:=X.T) hk;replace hk:=hkk;clear hkk;obtain⟨l,h10,hkk⟩:=Z31 (T:=X.T) hk;replace hk:=hkk;clear hkk;obtain⟨t,m,a⟩:=A;simp only[Bool.and_eq_true]at h8;obtain⟨⟨e1,e2⟩,e3⟩:=h8;have e1:=Nat.eq_of_beq_eq_true e1;have e2:=Nat.eq_of_beq_eq_true e2;subst e1;obtain⟨q,g1,g2⟩:=Zfm hX hA;have hal:=Z16 hX.t t m a;have hdl:=congrArg List.length g2
      rw[List.length_drop,List.length_append,hal]at hdl;have c1:Nat.ble (off+m*ei.size) (dvs X.T cs).length=true:=by rw[Nat.ble_eq,←e2];omega
      have c2:Zc (((dvs X.T cs).drop off).take (m*ei.size))=true:=by
        rw[g2,←e2,←hal,List.take_left];exact Z1J (Yt hX.t t m a)
      have c3:Z1Z ei.size m ((dvs X.T cs).drop off)=((List.range m).map a).map (dcl X.T t):=by
        rw[g2,←e2];exact Z8z hX t m a q
      simp only[he,dv,h5,Option.bind_some,dvh,ho,Option.map_some,dvO,c1,c2,e3,Bool.and_self,cond_true,c3,Z81,List.length_map,List.length_range,h9,h10];refine⟨_,?_,Y3 rfl ZZ,hk⟩;simp[Yd,dvu,dv,List.map_drop,List.map_take]
    · rename_i d _ d' e he
      obtain⟨ei,h5,hkk⟩:=Z0 hk;replace hk:=hkk;clear hkk;obtain⟨te,h6,hkk⟩:=Z0 hk;replace hk:=hkk;clear hkk;obtain⟨es,h7,hkk⟩:=Z0 hk;replace hk:=hkk;clear hkk;obtain⟨h8,hkk⟩:=Z3 hk;replace hk:=hkk;clear hkk;obtain⟨hh,h9,hkk⟩:=Z31 (T:=X.T) hk;replace hk:=hkk;clear hkk;obtain⟨l,h10,hkk⟩:=Z31 (T:=X.T) hk;replace hk:=hkk;clear hkk;have hsz:=(hX.code e te ei h6 h5).1;have hhid:=Zfz (T:=X.T) h d;cases hvw:ti.view&&Z6t h d with
      | true =>
        rw[hvw]at hk;simp only[cond_true]at hk;unfold ZiB at hk;split at hk
        · unfold ZU at hk
          have he7:=Z74 (T:=X.T) h7;simp only[dv]at he7 hhid;simp only[he,h5,Option.bind_some,dv,he7,Z3s hX hsz.symm,h8,Bool.and_self,cond_true,hhid,hvw,Zff,List.length_map,h9,h10];refine⟨_,?_,ZZ,hk⟩;simp[ret,Yd,dvu,dv]
        · cases hk
      | false =>
      rw[hvw]at hk;simp only[cond_false]at hk;simp only[he,h5,Option.bind_some,Z74 h7,Z3s hX hsz.symm,h8,Bool.and_self,cond_true,hhid,hvw,cond_false,Z81,List.length_map,h9,h10];refine⟨_,?_,Z2t _ _,hk⟩;simp only[Yd,Option.map_some,dv,List.map_drop,List.map_take,Z6Q,Z6N hX.t]
    · cases hk
  · simp only[opK]at hk
    obtain⟨ti,h1,hkk⟩:=Z0 hk;replace hk:=hkk;clear hkk;obtain⟨d,h2,hkk⟩:=Z0 hk;replace hk:=hkk;clear hkk;obtain⟨i',h3,hkk⟩:=Z0 hk;replace hk:=hkk;clear hkk;simp only[ZE,h1,Option.bind_some,ZR,h2,Option.map_some,h3];split at hk
    · rename_i len e he
      obtain⟨ei,h4,hkk⟩:=Z0 hk;replace hk:=hkk;clear hkk;simp only[he,h4,Option.bind_some];cases d with
      | ptr id o =>
        simp only at hk;obtain⟨j,h5,h6,hkk⟩:=Z5d (T:=X.T) hk;replace hk:=hkk;clear hkk;obtain⟨_,hkk⟩:=Z3 hk;replace hk:=hkk;clear hkk;simp only[h5,Option.bind_some,dv,Z1h];exact Zx hk (by simp[dv,ret])
      | pub cs0 =>
        simp only at hk;split at hk
        · rename_i t' n a cs hcs
          obtain⟨h5,hkk⟩:=Z3 hk;replace hk:=hkk;clear hkk;obtain⟨j,h6,h7,hkk⟩:=Z5d (T:=X.T) hk;replace hk:=hkk;clear hkk;simp only[Bool.and_eq_true]at h5;have e1:=Nat.eq_of_beq_eq_true h5.1;have e2:=Nat.eq_of_beq_eq_true h5.2;subst e1;have hl:((List.range j).flatMap fun j=>dcl X.T t' (a j)).length=j*tsz X.T t':=Z16 hX.t t' j a;have hcut:(dvs X.T cs0).drop (j*ei.size)=dvs X.T (tcl X.T t' (a j)++.arr t' (n-(j+1)) (fun m=>a (j+1+m))::cs):=by
            rw[←Z2T hX.t 10 cs0,hcs,Z20,ZB,ZB,Z2Z hX.t,←e2];simp only[Yc];rw[Z3G h7,List.append_assoc,List.drop_append,hl,Nat.sub_self,List.drop_eq_nil_of_le (by omega),List.nil_append,List.drop_zero,List.append_assoc]
            congr 2;unfold acl;rw[List.range'_eq_map_range,List.flatMap_map]
          simp only[h6,Option.bind_some,dv,Z1h,hcut];exact Zx hk (by simp[dv,ret])
        · cases hk
      | _=>cases hk
    · rename_i e he
      obtain⟨ei,h4,hkk⟩:=Z0 hk;replace hk:=hkk;clear hkk;simp only[he,h4,Option.bind_some];cases d with
      | sl te xs =>
        simp only at hk;obtain⟨h5,hkk⟩:=Z3 hk;replace hk:=hkk;clear hkk;obtain⟨j,h6,h7,hkk⟩:=Z5d (T:=X.T) hk;replace hk:=hkk;clear hkk;simp only[Bool.and_eq_true]at h5;have e1:=Nat.eq_of_beq_eq_true h5.1;have hg:xs.getD j (tdf X.T te)=xs[j]:=by simp[List.getD_eq_getElem?_getD,h7]
        rw[hg]at hk;simp only[dv,List.length_map,h6,Option.bind_some,List.getElem?_map,List.getElem?_eq_getElem h7,Option.map_some];have h8:Nat.beq (dcl X.T te xs[j]).length ei.size=true:=by rw[Yi hX.t,e1];exact Nat.beq_refl _
        rw[h8,h5.2];exact Zx hk (by simp[dv,Z2Z hX.t,ret])
      | rs id v =>
        simp only at hk;obtain⟨o,ho,hkk⟩:=Z0 hk;replace hk:=hkk;clear hkk;cases o<;>simp only[reduceCtorEq]at hk;obtain⟨h5,hkk⟩:=Z3 hk;replace hk:=hkk;clear hkk;obtain⟨j,h6,h7,hkk⟩:=Z5d (T:=X.T) hk;replace hk:=hkk;clear hkk;simp only[dv,dvh,ho,Option.map_some,Option.bind_some,dvO,List.length_map,h6,h5,cond_true];exact Zx hk rfl
      | _=>cases hk
    · cases hk
  · simp only[opK]at hk
    obtain⟨ti,h1,hkk⟩:=Z0 hk;replace hk:=hkk;clear hkk;obtain⟨d,h2,hkk⟩:=Z0 hk;replace hk:=hkk;clear hkk;obtain⟨i',h3,hkk⟩:=Z0 hk;replace hk:=hkk;clear hkk;simp only[ZE,h1,Option.bind_some,ZR,h2,Option.map_some,h3];split at hk
    · rename_i len e te n a he
      obtain⟨ei,h4,hkk⟩:=Z0 hk;replace hk:=hkk;clear hkk;obtain⟨h5,hkk⟩:=Z3 hk;replace hk:=hkk;clear hkk;obtain⟨j,h6,h7,hkk⟩:=Z5d (T:=X.T) hk;replace hk:=hkk;clear hkk;simp only[Bool.and_eq_true]at h5;have e1:=Nat.eq_of_beq_eq_true h5.1.1;have e2:=Nat.eq_of_beq_eq_true h5.1.2;have e3:=eq_of_beq h5.2;subst e1;simp only[he,h4,Option.bind_some,dv,h6];have hp:YP ei (dvs X.T [.arr te n a]) (j*ei.size)=some (YT X.T te (a j)):=by
        have hl:((List.range j).flatMap fun j=>dcl X.T te (a j)).length=j*tsz X.T te:=Z16 hX.t te j a;have hd:=Yi hX.t te (a j);have hal:=Z16 hX.t te n a;have hin:j*tsz X.T te+tsz X.T te≤n*tsz X.T te:=by
          have:=Nat.mul_le_mul_right (tsz X.T te) h7;rw[Nat.succ_mul]at this;exact this
        simp only[dvs,List.append_nil];unfold YP;rw[←e2,e3];have hle:Nat.ble (j*tsz X.T te+tsz X.T te) (acl X.T te n a).length=true:=by rw[Nat.ble_eq,hal];exact hin
        have hdrop:(acl X.T te n a).drop (j*tsz X.T te)=dcl X.T te (a j)++(List.range' (j+1) (n-(j+1))).flatMap fun j=>dcl X.T te (a j):=by
          rw[Z3G h7,List.drop_append,hl,Nat.sub_self,List.drop_eq_nil_of_le (by omega)];rfl
        cases hag:Z10 te with
        | true =>
          simp only[cond_true,hle,hdrop];rw[List.take_append_of_le_length (by omega),List.take_of_length_le (by omega)]
          cases te<;>simp[Z10]at hag<;>rfl
        | false =>
          simp only[cond_false];have:(acl X.T te n a)[j*tsz X.T te]?=((acl X.T te n a).drop (j*tsz X.T te))[0]? := by simp
          rw[this,hdrop,Z8C _ hag];rfl
      rw[hp];exact Zx hk (by rw[Z1M hX.t];rfl)
    · rename_i s he
      obtain⟨j,h6,h7,hkk⟩:=Z5d (T:=X.T) hk;replace hk:=hkk;clear hkk;simp only[he,dv,h6,Option.bind_some,Zgc s j h7];exact Zx hk rfl
    · cases hk
  · simp only[opK]at hk
    obtain⟨ti,h1,hkk⟩:=Z0 hk;replace hk:=hkk;clear hkk;obtain⟨mv,h2,hkk⟩:=Z0 hk;replace hk:=hkk;clear hkk;obtain⟨kv,h3,hkk⟩:=Z0 hk;replace hk:=hkk;clear hkk;simp only[ZE,h1,Option.bind_some,ZR,h2,Option.map_some,h3];split at hk
    · rename_i kt e id he
      obtain⟨ei,h4,hkk⟩:=Z0 hk;replace hk:=hkk;clear hkk;obtain⟨ki,h5,hkk⟩:=Z0 hk;replace hk:=hkk;clear hkk;obtain⟨z,h6,hkk⟩:=Z0 hk;replace hk:=hkk;clear hkk;obtain⟨o,ho,hkk⟩:=Z0 hk;replace hk:=hkk;clear hkk;cases o<;>simp only[reduceCtorEq]at hk;rename_i kc ec es;obtain⟨key,h8,hkk⟩:=Z0 hk;replace hk:=hkk;clear hkk;obtain⟨h7,hkk⟩:=Z3 hk;replace hk:=hkk;clear hkk;obtain⟨zv,h9,hkk⟩:=Z0 hk;replace hk:=hkk;clear hkk;obtain⟨eq,h10,hkk⟩:=Z0 hk;replace hk:=hkk;clear hkk;simp only[Bool.and_eq_true,Bool.not_eq_true']at h7;obtain⟨⟨⟨q1,q2⟩,q3⟩,q4⟩:=h7;have hz:=hX.zero e z ei h6 h4;have hkey:=Z3l hX.t h8;have hzd:ei.zero=[YT X.T ec zv]:=by rw[←hz,Z2y hX.t h9,Z8C _ q4]
      simp only[he,h4,h5,Option.bind_some,dv,dvh,ho,Option.map_some,dvO,hkey,Z7Q hX h5 q1,q2,q3,Bool.not_false,Bool.and_self,cond_true,Za7 hX h10,hzd];cases hm:Z93 eq key es with
      | none =>
        rw[hm]at hk;cases ok
        · exact Zx hk (by simp[Z1M hX.t])
        · exact Zx hk (by simp[dv,dvl,Z1M hX.t])
      | some v =>
        rw[hm]at hk;cases ok
        · exact Zx hk (by simp[Z1M hX.t])
        · exact Zx hk (by simp[dv,dvl,Z1M hX.t])
    · cases hk
  · simp only[opK]at hk
    obtain⟨ti,h1,hkk⟩:=Z0 hk;replace hk:=hkk;clear hkk;obtain⟨mv,h2,hkk⟩:=Z0 hk;replace hk:=hkk;clear hkk;obtain⟨kv,h3,hkk⟩:=Z0 hk;replace hk:=hkk;clear hkk;obtain⟨vv,h3',hkk⟩:=Z0 hk;replace hk:=hkk;clear hkk;simp only[ZE,h1,Option.bind_some,ZR,h2,Option.map_some,h3,h3'];split at hk
    · rename_i kt e id he
      obtain⟨ki,h5,hkk⟩:=Z0 hk;replace hk:=hkk;clear hkk;obtain⟨o,ho,hkk⟩:=Z0 hk;replace hk:=hkk;clear hkk;cases o<;>simp only[reduceCtorEq]at hk;rename_i kc ec es;obtain⟨key,h8,hkk⟩:=Z0 hk;replace hk:=hkk;clear hkk;obtain⟨h7,hkk⟩:=Z3 hk;replace hk:=hkk;clear hkk;obtain⟨_,_,hkk⟩:=Z0 hk;replace hk:=hkk;clear hkk;obtain⟨xv,h9,hkk⟩:=Z0 hk;replace hk:=hkk;clear hkk;obtain⟨eq,h10,hkk⟩:=Z0 hk;replace hk:=hkk;clear hkk;simp only[Bool.and_eq_true,Bool.not_eq_true']at h7;obtain⟨q1,q4⟩:=h7;have hkey:=Z3l hX.t h8;have hval:=Z3l hX.t h9;obtain⟨c1,c2⟩:=Zfu q4 xv;simp only[he,h5,Option.bind_some,dv,dvh,ho,Option.map_some,dvO,hkey,hval,Z7Q hX h5 q1,c1,c2,Bool.and_self,cond_true,Zco hX h10]
      refine⟨_,?_,Y3 rfl ZZ,hk⟩;rw[c1,c2];simp[Yd,dvu,dvO,dv,dvl]
    · cases hk
omit hX in
theorem Z5k {T:TS S} (nid:Nat):∀cs:List (TV S),dvs T (Z9e nid cs)=dvs T cs
  | []=>rfl
  | c::cs=>by
    cases c<;>first|(simp only[Z9e,ZB,Z5k nid cs];done)|skip
    rename_i ts n;simp only[Z9e,ZB,Z5k nid cs];congr 1;simp only[Yc,eal];have e:enD nid ts 0=.nilif:=by cases ts<;>rfl
    rw[e,List.map_const',List.length_range]
theorem Zg0 {t:TypeId} {ti:TI} {z:TV S} (h1:X.E.ty t=some ti) (h:zeroT X t ti=some z):Z1f ti=some (dv X.T z):=by
  unfold zeroT at h;obtain⟨zs,h2,h⟩:=Z0 h;have hz:=hX.zero t zs ti h2 h1;unfold Z1f;cases ha:ti.isAgg with
  | true =>
    rw[ha]at h;simp only[cond_true,Option.some.injEq]at h⊢;subst h;rw[←hz];simp[dv]
  | false =>
    rw[ha]at h;simp only[cond_false]at h⊢;split at h
    · rename_i c
      cases hc:Y2 c with
      | true=>rw[hc]at h;cases h
      | false =>
        rw[hc]at h;cases h;rw[←hz];have:dvs X.T [z]=[dv X.T z]:=by
          rw[ZB,Z8c,List.append_nil];cases z<;>simp[Yc,Y2]at hc⊢
        rw[this];rfl
    · cases h
theorem ZiV {nid:Nat} {ρ:Nat→Option (TV S)} {h:Nat→Option (Zq S)} {op:Op} {k:Z2l S R} {r:R} (hk:opK X nid ρ h op k=some r) :
    Sim X.T (ZE X.E nid (dvr X.T ρ) (dvh X.T h) op) k r:=by
  cases op with
  | build t ps=>exact Z44 hX hk (.inl ⟨_,_,rfl⟩)
  | buildSlice t n ps=>exact Z44 hX hk (.inr (.inl ⟨_,_,_,rfl⟩))
  | slice t x lo hi mx =>
    cases mx with
    | none=>exact Z44 hX hk (.inr (.inr (.inl ⟨_,_,_,_,rfl⟩)))
    | some _=>cases hk
  | indexAddr t x i=>exact Z44 hX hk (.inr (.inr (.inr (.inl ⟨_,_,_,rfl⟩))))
  | index t x i=>exact Z44 hX hk (.inr (.inr (.inr (.inr (.inl ⟨_,_,_,rfl⟩)))))
  | lookup t m x ok=>exact Z44 hX hk (.inr (.inr (.inr (.inr (.inr (.inl ⟨_,_,_,_,rfl⟩))))))
  | mapUpdate t m x v=>exact Z44 hX hk (.inr (.inr (.inr (.inr (.inr (.inr ⟨_,_,_,_,rfl⟩))))))
  | makeInterface t x =>
    obtain⟨ti,h1,hk⟩:=Z0 hk;obtain⟨v,h2,hk⟩:=Z0 hk;cases ha:Y2 v with
    | true=>rw[ha]at hk;cases hk
    | false =>
      rw[ha]at hk;simp only[cond_false]at hk;simp only[ZE,h1,Option.bind_some,ZR,h2,Option.map_some];cases hk2:ti.k<;>rw[hk2]at hk<;>first|exact Zx hk rfl|cases hk
  | typeAssert x xt t ok =>
    obtain⟨ti,h1,hk⟩:=Z0 hk;obtain⟨v,h2,hk⟩:=Z0 hk;simp only[ZE,h1,Option.bind_some,ZR,h2,Option.map_some];have hf:∀{r:R},(bif ok then(zeroT X t ti).bind fun z=>ZU (.tup [z,.bool false]) k else none)=some r→Sim X.T (bif ok then(Z1f ti).bind fun z=>ret (.tup [z,.bool false])else none) k r:=fun h=>by
      cases ok with
      | false=>cases h
      | true =>
        obtain⟨z,h3,h⟩:=Z0 h;simp only[cond_true,Zg0 hX h1 h3,Option.bind_some];exact Zx h (by simp[dv,dvl])
    cases v with
    | nilif=>cases hk2:ti.k<;>rw[hk2]at hk<;>first|exact hf hk|cases hk
    | iface t' w =>
      have h3:(bif Nat.beq t' t then ZU (bif ok then .tup [w,.bool true]else w) k else bif ok then(zeroT X t ti).bind fun z=>ZU (.tup [z,.bool false]) k else none)=some r∧ti.k≠.iface:=by
        cases hk2:ti.k<;>rw[hk2]at hk<;>first|exact⟨hk,by simp⟩|cases hk
      obtain⟨h3,hni⟩:=h3;have h4:Sim X.T (bif Nat.beq t' t then ret (bif ok then .tup [dv X.T w,.bool true]else dv X.T w)else bif ok then(Z1f ti).bind fun z=>ret (.tup [z,.bool false])else none) k r:=by
        cases hq:Nat.beq t' t with
        | true =>
          rw[hq]at h3;cases ok
          · exact Zx h3 rfl
          · exact Zx h3 (by simp[dv,dvl])
        | false=>rw[hq]at h3;exact hf h3
      simp only[dv];cases hk2:ti.k<;>first|exact h4|exact absurd hk2 hni
    | _=>cases hk2:ti.k<;>rw[hk2]at hk<;>cases hk
  | makeSlice t l c =>
    obtain⟨ti,h1,hk⟩:=Z0 hk;obtain⟨dl,h2,hk⟩:=Z0 hk;obtain⟨dc,h3,hk⟩:=Z0 hk;simp only[ZE,h1,Option.bind_some,ZR,h2,h3,Option.map_some];cases he:ti.k with
    | slice e =>
      rw[he]at hk;obtain⟨k1,n,rfl⟩:∃k n,dl=.int k n:=by cases dl<;>first|exact⟨_,_,rfl⟩|cases hk
      obtain⟨k2,n',rfl⟩:∃k n,dc=.int k n:=by cases dc<;>first|exact⟨_,_,rfl⟩|cases hk
      simp only at hk;obtain⟨ei,h4,hk⟩:=Z0 hk;obtain⟨te,h5,hk⟩:=Z0 hk;obtain⟨z,h6,hk⟩:=Z0 hk;obtain⟨zv,h7,hk⟩:=Z0 hk;obtain⟨h8,hk⟩:=Z3 hk;have hz:=hX.zero e z ei h6 h4;have hzd:ei.zero=dcl X.T te zv:=by rw[←hz,Z2y hX.t h7]
      have hfree:Zc ei.zero=true:=by rw[hzd];exact Z1J (Z33 hX.t te zv)
      simp only[dv,h4,Option.bind_some,h8,hfree,Bool.and_self,cond_true];refine⟨_,?_,Y3 rfl ZZ,hk⟩;simp[Yd,dvu,dvO,dv,hzd,List.map_replicate]
    | _=>rw[he]at hk;cases hk
  | move x =>
    obtain⟨v,h1,hk⟩:=Z0 hk;simp only[ZE,ZR,h1,Option.map_some,Option.bind_some];exact Zx hk rfl
  | assign x =>
    obtain⟨v,h1,hk⟩:=Z0 hk;simp only[ZE,ZR,h1,Option.map_some,Option.bind_some];exact Zx hk rfl
  | pick c a b =>
    obtain⟨v,h1,hk⟩:=Z0 hk;cases v<;>simp only[reduceCtorEq]at hk;rename_i c;simp only[ZE,ZR,h1,Option.map_some,Option.bind_some,dv];unfold Ziz at hk;split at hk
    · rename_i x y ha hb
      rw[ha,hb];cases c<;>exact Zx hk rfl
    · cases c with
      | true =>
        simp only[cond_true]at hk⊢;obtain⟨v,h2,hk⟩:=Z0 hk;rw[h2];exact Zx hk rfl
      | false =>
        simp only[cond_false]at hk⊢;obtain⟨v,h2,hk⟩:=Z0 hk;rw[h2];exact Zx hk rfl
  | alloc t =>
    obtain⟨ti,h1,hk⟩:=Z0 hk;obtain⟨z,h2,hk⟩:=Z0 hk;refine⟨_,?_,Y3 rfl ZZ,hk⟩;simp only[ZE,h1,Option.bind_some,Yd,dvu,List.map_cons,List.map_nil,Option.map_some,dv,dvO,Z5i hX,Z5k,hX.zero t z ti h2 h1]
  | box t x =>
    obtain⟨v,h1,hk⟩:=Z0 hk;obtain⟨h2,hk⟩:=Z3 hk;refine⟨_,?_,Y3 rfl ZZ,hk⟩;have h3:=Z7G hX h2;rw[YC]at h3;simp only[ZE,ZR,h1,Option.map_some,Option.bind_some,YC,h3,cond_true,Yd,dvu,List.map_cons,List.map_nil,dv,dvO,Z5i hX,Z5k]
  | load t a =>
    obtain⟨ti,h1,hk⟩:=Z0 hk;obtain⟨v,h2,hk⟩:=Z0 hk;simp only[ZE,h1,ZR,h2,Option.map_some,Option.bind_some];exact Zci hX hk
  | store t a x =>
    obtain⟨ti,h1,hk⟩:=Z0 hk;obtain⟨v,h2,hk⟩:=Z0 hk;obtain⟨u,h3,hk⟩:=Z0 hk;simp only[ZE,h1,ZR,h2,h3,Option.map_some,Option.bind_some];exact ZfV hX hk
  | nilCheck x =>
    obtain⟨v,h1,hk⟩:=Z0 hk;simp only[ZE,ZR,h1,Option.map_some,Option.bind_some];cases v<;>simp only[reduceCtorEq]at hk<;>exact Zx hk rfl
  | binOp op t x y u =>
    obtain⟨a,h1,hk⟩:=Z0 hk;obtain⟨b,h2,hk⟩:=Z0 hk;simp only[ZE,ZR,h1,h2,Option.map_some,Option.bind_some];split
    · rename_i e1 e2
      exfalso;cases a<;>first|(simp only[dv,reduceCtorEq]at e1;done)|(unfold Zhq at hk;cases b<;>cases hk)
    · exact Zhr hX hk
  | unOp op t x =>
    obtain⟨a,h1,hk⟩:=Z0 hk;simp only[ZE,ZR,h1,Option.map_some,Option.bind_some];exact Zj5 hk
  | convert s d x =>
    obtain⟨ts,h1,hk⟩:=Z0 hk;obtain⟨td,h2,hk⟩:=Z0 hk;obtain⟨v,h3,hk⟩:=Z0 hk;simp only[ZE,h1,h2,ZR,h3,Option.map_some,Option.bind_some];split at hk
    · rename_i he;simp only[he,dv];exact Zx hk rfl
    · rename_i he;simp only[he,dv];exact Zx hk rfl
    · cases hk
  | makeFunc f a c =>
    obtain⟨as,h1,hk⟩:=Z0 hk;obtain⟨bs,h2,hk⟩:=Z0 hk;simp only[ZE,Z3g,h1,h2,Option.map_some,Option.bind_some];exact Zx hk (by simp[dv,ret])
  | makeMap t sz =>
    cases sz with
    | some _=>cases hk
    | none =>
      obtain⟨ti,h1,hk⟩:=Z0 hk;split at hk
      · obtain⟨kt,h2,hk⟩:=Z0 hk
        obtain⟨et,h3,hk⟩:=Z0 hk;refine⟨_,?_,Y3 rfl ZZ,hk⟩;simp[ZE,Yd,dvu,dv,dvO]
      · cases hk
  | fieldAddr s x f =>
    obtain⟨ti,h1,hk⟩:=Z0 hk;obtain⟨v,h2,hk⟩:=Z0 hk;simp only[ZE,h1,ZR,h2,Option.map_some,Option.bind_some];split at hk
    · rename_i fs he
      obtain⟨⟨ft,off⟩,h3,hk⟩:=Z0 hk;obtain⟨fi,h4,hk⟩:=Z0 hk;obtain⟨h5,hk⟩:=Z3 hk;obtain⟨w,h6,hk⟩:=Z0 hk;simp only at h4 h6;simp only[he,h3,h4,Option.bind_some,h5,cond_true,Zg7 hX.t h6];exact Zx hk rfl
    · cases hk
  | field s x f =>
    obtain⟨ti,h1,hk⟩:=Z0 hk;obtain⟨v,h2,hk⟩:=Z0 hk;simp only[ZE,h1,ZR,h2,Option.map_some,Option.bind_some];split at hk
    · rename_i fs cs he
      obtain⟨⟨ft,off⟩,h3,hk⟩:=Z0 hk;obtain⟨fi,h4,hk⟩:=Z0 hk;obtain⟨w,h6,hk⟩:=Z0 hk;simp only at h4 h6;simp only[he,dv,h3,h4,Option.bind_some,(Z3L hX.t h6).1];exact Zx hk rfl
    · cases hk
  | range t x =>
    obtain⟨ti,h1,hk⟩:=Z0 hk;obtain⟨v,h2,hk⟩:=Z0 hk;simp only[ZE,h1,ZR,h2,Option.map_some,Option.bind_some];split at hk
    · rename_i s he
      refine⟨_,?_,Y3 rfl ZZ,hk⟩;simp[he,Yd,dvu,dv,dvO]
    · cases hk
  | next it b =>
    cases b with
    | false=>cases hk
    | true =>
      obtain⟨v,h1,hk⟩:=Z0 hk;cases v<;>simp only[reduceCtorEq]at hk;rename_i id;obtain⟨o,ho,hk⟩:=Z0 hk;cases o<;>simp only[reduceCtorEq]at hk;rename_i s pos;simp only[ZE,ZR,h1,Option.map_some,Option.bind_some,dv,dvh,ho,dvO];cases hp:decide (pos<s.size)with
      | true =>
        rw[hp]at hk;refine⟨_,?_,Y3 rfl ZZ,hk⟩;simp[Yd,dvu,dv,dvl,dvO]
      | false =>
        rw[hp]at hk;exact Zx hk (by simp[dv,dvl])
  | extract t i =>
    obtain⟨v,h1,hk⟩:=Z0 hk;cases v<;>simp only[reduceCtorEq]at hk;rename_i vs;obtain⟨w,h2,hk⟩:=Z0 hk;simp only[ZE,ZR,h1,Option.map_some,Option.bind_some,dv,Z6k,List.getElem?_map,h2];exact Zx hk rfl
  | call c =>
    simp only[opK]at hk;split at hk
    · rename_i hc
      split at hk
      · rename_i x t ts hx ht
        obtain⟨ti,h1,hk⟩:=Z0 hk;obtain⟨v,h2,hk⟩:=Z0 hk;obtain⟨w,h3,hk⟩:=Z0 hk;simp only[ZE,hc,hx,ht,h1,ZR,h2,Option.map_some,Option.bind_some,Zi6 hX h3];exact Zx hk rfl
      · cases hk
    · rename_i hc
      split at hk
      · rename_i s x t t' hx ht
        obtain⟨h0,hz⟩:=Z3 hk;clear hk;obtain rfl:=Nat.eq_of_beq_eq_true h0;obtain⟨v,h2,hz⟩:=Z0 hz;obtain⟨w,h3,hk⟩:=Z0 hz;simp only[ZE,hc,hx,ht,ZR,h2,h3,Option.map_some,Option.bind_some];exact Zdg hX hk
      · cases hk
    · rename_i hc
      obtain⟨vs,h1,hk⟩:=Z0 hk;simp only[ZE,hc,Z3g,h1,Option.map_some,Option.bind_some];split at hk
      · obtain⟨w,h2,hk⟩:=Z0 hk
        simp only[dvl,Z8P hX (Zib hX) h2,Option.bind_some];exact Zx hk rfl
      · cases hk
    · rename_i hc
      obtain⟨vs,h1,hk⟩:=Z0 hk;simp only[ZE,hc,Z3g,h1,Option.map_some,Option.bind_some];split at hk
      · obtain⟨w,h2,hk⟩:=Z0 hk
        simp only[dvl,Z8P hX (Zia hX) h2,Option.bind_some];exact Zx hk rfl
      · cases hk
    · cases hk
  | _=>cases hk
end Go.Ab
namespace Go.Ab
variable {S:Nat→Type} {R:Type}
theorem Z22 {α β:Type} (f:α→β):∀(t:Tr α) (a b:Nat),(t.mapv f).ents a b=(t.ents a b).map fun p=>(p.1,f p.2)
  | .leaf,_,_=>rfl
  | .node l v r,a,b=>by
    simp only[Tr.mapv,Tr.ents,Z22 f l,Z22 f r,List.map_append];cases v<;>rfl
theorem Z7W:∀(a b:List DV),Z1u (a++b)=Z1u a++Z1u b
  | [],b=>by simp[Z1u]
  | c::a,b=>by simp only[List.cons_append,Z1u,Z7W a b,List.append_assoc]
theorem Z64:∀{cs:List DV},cs.all plain=true→Z1u cs=[]
  | [],_=>rfl
  | c::cs,h=>by
    simp only[List.all_cons,Bool.and_eq_true]at h;simp only[Z1u,Z64 h.2,List.append_nil];cases c<;>simp[plain]at h<;>simp[rid]
theorem Z8H {pid:Nat}:∀{cs:List DV},cs.all (Z4M pid)=true→Z1u cs=[]
  | [],_=>rfl
  | c::cs,h=>by
    simp only[List.all_cons,Bool.and_eq_true]at h;simp only[Z1u,Z8H h.2,List.append_nil];cases c<;>simp[Z4M]at h<;>simp[rid]
theorem Z5Z (h:Nat→Option Zd):∀{cs:List DV},cs.all plain=true→cs.map (Z5U h)=cs
  | [],_=>rfl
  | c::cs,hp=>by
    simp only[List.all_cons,Bool.and_eq_true]at hp;rw[List.map_cons,Z5Z h hp.2];cases c<;>simp[plain]at hp<;>simp[Z5U]
theorem Z6l (h:Nat→Option Zd) {pid:Nat}:∀{cs:List DV},cs.all (Z4M pid)=true→cs.map (Z5U h)=cs
  | [],_=>rfl
  | c::cs,hp=>by
    simp only[List.all_cons,Bool.and_eq_true]at hp;rw[List.map_cons,Z6l h hp.2];cases c<;>simp[Z4M]at hp<;>simp[Z5U]
section
variable {T:TS S} (hT:TOk T)
include hT
mutual
theorem ZdS:∀v:TV S,rid (dv T v)=Z27 v
  | .bool _=>rfl | .int _ _=>rfl | .str _=>rfl | .nilp=>rfl | .nils=>rfl
  | .sl0=>by simp[dv,rid,Z27] | .sl _ _=>by simp[dv,rid,Z27]
  | .arr _ _ _=>by simp[dv,rid,Z27]
  | .stc _ _=>by simp[dv,rid,Z27]
  | .narr _ n=>by simp only[dv,rid,Z27];exact Z8H (Z1d 0 n)
  | .earr ts pid n a=>by simp only[dv,rid,Z27];exact Z8H (YD ts pid n a)
  | .ptr _ _=>by simp[dv,rid,Z27] | .ap _ _ _ _ _=>by simp[dv,rid,Z27] | .rptr _ _ _ _ _=>by simp[dv,rid,Z27]
  | .pub _=>by simp[dv,rid,Z27]
  | .rv _ _ _ _ _=>by simp[dv,rid,Z27] | .slen _=>by simp[dv,rid,Z27]
  | .rs _ _=>by simp[dv,rid,Z27] | .map _=>by simp[dv,rid,Z27] | .iter _=>by simp[dv,rid,Z27] | .yld _=>by simp[dv,rid,Z27]
  | .nilfn=>by simp[dv,rid,Z27] | .nilmap=>by simp[dv,rid,Z27] | .nilif=>by simp[dv,rid,Z27]
  | .agg cs=>by simp only[dv,rid,Z27];exact Zbk cs
  | .tup cs=>by simp only[dv,rid,Z27];exact Z4l cs
  | .fn _ a c=>by simp only[dv,rid,Z27,Z4l a,Z4l c]
  | .iface _ v=>by simp only[dv,rid,Z27]
theorem Zbk:∀cs:List (TV S),Z1u (dvs T cs)=Z2O cs
  | []=>by simp[dvs,Z1u,Z2O]
  | c::cs=>by
    rw[ZB,Z7W,Z2O,Zbk cs];have h:=ZdS c;cases c<;>simp only[Yc,Z1u,List.append_nil]<;>first|rw[h]|skip
    · rw[Z64 (Yt hT _ _ _)];rfl
    · rw[Z64 (hT.plain _ _)];rfl
    · rw[Z8H (YD _ _ _ _)];rfl
    · rw[Z8H (Z1d 0 _)];rfl
theorem Z4l:∀cs:List (TV S),Z1u (dvl T cs)=Z2O cs
  | []=>by simp[dvl,Z1u,Z2O]
  | c::cs=>by simp only[dvl,Z1u,Z2O,ZdS c,Z4l cs]
end
theorem Zil (o:Zq S):ZiY (dvO T o)=Zh4 o:=by
  cases o<;>simp only[dvO,ZiY,Zh4]
  · exact Zbk hT _
  · rw[Z22,List.flatMap_map]
    congr 1;funext p;exact ZdS hT p.2
theorem Z3R (h:Nat→Option (Zq S)):∀(n:Nat) (todo acc:List Nat),Z1i (dvh T h) n todo acc=Z2H h n todo acc
  | 0,_,_=>by simp[Z1i,Z2H]
  | n+1,[],_=>by simp[Z1i,Z2H]
  | n+1,i::todo,acc=>by
    simp only[Z1i,Z2H,dvh];cases acc.any (Nat.beq i)with
    | true=>exact Z3R h n todo acc
    | false =>
      simp only[cond_false];cases hi:h i with
      | none=>exact Z3R h n todo acc
      | some o =>
        simp only[Option.map_some,Zil hT];exact Z3R h n _ _
omit hT in
theorem Z9v (h:Nat→Option (Zq S)):∀(is:List Nat),Z2x (dvh T h) is=(Z7x h is).mapv (dvO T)
  | []=>rfl
  | i::is=>by
    simp only[Z2x,Z7x,Z9v h is,YF,dvh]
omit hT in
theorem Z9W (o:Tr (Zq S)) (Rs:List Nat) (nx:Nat):Z4F (o.mapv (dvO T)) Rs nx=dvu T (ZaH o Rs nx):=by
  unfold Z4F ZaH dvu;rw[Z22,List.map_map,List.map_map];have e:((fun x=>x.1)∘fun(p:Nat×Zq S)=>(p.1,dvO T p.2))=fun p=>p.1:=rfl;rw[e];congr 1;funext i;simp only[Function.comp,Yn]
theorem Zep (h:Nat→Option (Zq S)) (v:TV S):Z5U (dvh T h) (dv T v)=dv T (Z2N h v):=by
  cases v<;>simp only[dv,Z5U,Z2N];rename_i id ver;simp only[dvh];cases h id with
  | none=>rfl
  | some o =>
    cases o<;>simp only[Option.map_some,dvO,dv];rename_i e t xs p u;cases Nat.beq p 1&&Nat.beq u ver<;>simp[dv]
theorem Zc4 (h:Nat→Option (Zq S)):∀cs:List (TV S),(dvs T cs).map (Z5U (dvh T h))=dvs T (cs.map (Z2N h))
  | []=>by simp[dvs]
  | c::cs=>by
    rw[ZB,List.map_append,List.map_cons,ZB,Zc4 h cs];congr 1;have hc:=Zep hT h c
    by_cases ha:Y2 c=true
    · cases c<;>simp only[Y2,Bool.false_eq_true]at ha<;>simp only[Yc,Z2N]
      · exact Z5Z _ (Yt hT _ _ _)
      · exact Z5Z _ (hT.plain _ _)
      · exact Z6l _ (YD _ _ _ _)
      · exact Z6l _ (Z1d 0 _)
    · have h1:Yc T c=[dv T c]:=by cases c<;>simp[Yc,Y2]at ha⊢
      have h2:Yc T (Z2N h c)=[dv T (Z2N h c)]:=by
        have ha':Y2 (Z2N h c)=false:=by
          cases c<;>simp[Y2]at ha<;>simp only[Z2N]<;>first|rfl|skip
          split
          · rename_i p u _
            cases Nat.beq p 1&&Nat.beq u _<;>rfl
          · rfl
        cases hq:Z2N h c<;>rw[hq]at ha'<;>simp[Y2]at ha'<;>simp[Yc]
      rw[h1,h2,List.map_cons,List.map_nil,hc]
theorem ZhF (h:Nat→Option (Zq S)) (v:TV S):Z3o (dvh T h) (dv T v)=dv T (Z5w h v):=by
  cases v with
  | agg cs=>simp only[dv,Z3o,Z5w,Zc4 hT]
  | arr t n a=>simp only[dv,Z3o,Z5w,Z2N,Z5U]
  | stc i x=>simp only[dv,Z3o,Z5w,Z2N,Z5U]
  | earr ts pid n a =>
    simp only[dv,Z3o,Z5w,Z2N];rw[Z6l _ (YD ts pid n a)]
  | narr ts n =>
    simp only[dv,Z3o,Z5w,Z2N];rw[Z6l _ (Z1d 0 n)]
  | rs id ver=>exact Zep hT h (.rs id ver)
  | _=>simp only[dv,Z3o,Z5w,Z2N,Z5U]
theorem Z8Q (h:Nat→Option (Zq S)):∀vs:List (TV S),(dvl T vs).map (Z3o (dvh T h))=dvl T (vs.map (Z5w h))
  | []=>by simp[dvl]
  | c::cs=>by simp only[dvl,List.map_cons,ZhF hT,Z8Q h cs]
end
theorem Z3u {α:Type} (n:Nat) (k:Nat→α):sN n k=k n:=by cases n<;>rfl
mutual
theorem ZcN {α:Type}:∀(v:TV S) (k:TV S→α),sV v k=k v
  | .ptr _ _,_=>by simp only[sV,Z3u]
  | .ap _ _ _ _ _,_=>by simp only[sV,Z3u]
  | .rptr _ _ _ _ _,_=>by simp only[sV,Z3u]
  | .pub cs,_=>by simp only[sV,Z3k cs]
  | .rs _ _,_=>by simp only[sV,Z3u]
  | .rv _ _ _ _ _,_=>by simp only[sV,Z3u]
  | .slen _,_=>by simp only[sV]
  | .agg cs,_=>by simp only[sV,Z3k cs]
  | .tup cs,_=>by simp only[sV,Z3k cs]
  | .fn _ a c,_=>by simp only[sV,Z3k a,Z3k c]
  | .map _,_=>by simp only[sV,Z3u]
  | .iface _ v,_=>by simp only[sV,ZcN v]
  | .iter _,_=>by simp only[sV,Z3u]
  | .yld _,_=>by simp only[sV,Z3u]
  | .bool _,_=>by simp only[sV]
  | .int _ _,_=>by simp only[sV]
  | .str _,_=>by simp only[sV]
  | .nilp,_=>by simp only[sV]
  | .nils,_=>by simp only[sV]
  | .sl0,_=>by simp only[sV]
  | .sl _ _,_=>by simp only[sV]
  | .arr _ _ _,_=>by simp only[sV]
  | .stc _ _,_=>by simp only[sV]
  | .earr _ _ _ _,_=>by simp only[sV,Z3u]
  | .narr _ _,_=>by simp only[sV]
  | .nilfn,_=>by simp only[sV]
  | .nilmap,_=>by simp only[sV]
  | .nilif,_=>by simp only[sV]
theorem Z3k {α:Type}:∀(v:List (TV S)) (k:List (TV S)→α),sVs v k=k v
  | [],_=>by simp only[sVs]
  | c::cs,_=>by simp only[sVs,ZcN c,Z3k cs]
end
theorem Z3C {α β:Type} {f:β→(β→α)→α} (hf:∀v k,f v k=k v):∀(t:Tr β) (k:Tr β→α),sTr f t k=k t
  | .leaf,_=>rfl
  | .node l v r,k=>by
    simp only[sTr,Z3C hf l,Z3C hf r];cases v with
    | none=>rfl
    | some x=>simp only[hf]
theorem Zak {α:Type} (v:Zq S) (k:Zq S→α):sO v k=k v:=by
  cases v<;>simp only[sO,Z3k,Z3u,Z3C ZcN]
theorem Zh9 {α:Type} (s:StT S) (k:StT S→α):sSt s k=k s:=by
  unfold sSt;rw[Z3C ZcN,Z3C Zak,Z3u]
theorem Zbp {α:Type}:∀(v:List Nat) (k:List Nat→α),sNs v k=k v
  | [],_=>rfl
  | i::is,k=>by simp only[sNs,Z3u,Zbp is]
end Go.Ab
namespace Go.Ab
variable {S:Nat→Type} {R:Type}
def Evt (p:Nat→Prop):Prop:=∃N,∀n,N≤n→p n
theorem Evt.and {p q:Nat→Prop} (hp:Evt p) (hq:Evt q):Evt fun n=>p n∧q n:=by
  obtain⟨a,ha⟩:=hp;obtain⟨b,hb⟩:=hq;exact⟨max a b,fun n hn=>⟨ha n (by omega),hb n (by omega)⟩⟩
theorem Evt.mono {p q:Nat→Prop} (hp:Evt p) (h:∀n,p n→q n):Evt q:=by
  obtain⟨a,ha⟩:=hp;exact⟨a,fun n hn=>h n (ha n hn)⟩
theorem Evt.of {p:Nat→Prop} (h:∀n,p n):Evt p:=⟨0,fun n _=>h n⟩
theorem Evt.succ {p:Nat→Prop} (hp:Evt fun n=>p (n+1)):Evt p:=by
  obtain⟨a,ha⟩:=hp;refine⟨a+1,fun n hn=>?_⟩;cases n with
  | zero=>omega
  | succ n=>exact ha n (by omega)
def WfL (E:Env) (o:Option (Zq S)):Prop:=match o with
  | some (.loop fid _ ps as bo _ _ _ po)=>∃F f,E.fn fid=some F∧Code.sub F.body po=some (.rangeFunc f ps.toArray as bo)
  | _=>True
def WfO (E:Env) (o:Tr (Zq S)):Prop:=∀i,WfL E (o.get i)
theorem Z9D {E:Env} {x:Option (Zq S)} (h:Zdv x=false):WfL E x:=by
  cases x with
  | none=>trivial
  | some o=>cases o<;>first|trivial|cases h
theorem WfO.set {E:Env} {o:Tr (Zq S)} (h:WfO E o) {i:Nat} {x:Option (Zq S)} (hx:WfL E x):WfO E (o.set i x):=fun j=>by
  rw[Tr.get_set];split
  · exact hx
  · exact h j
theorem WfO.upd {E:Env}:∀{u:List (Nat×Option (Zq S))} {o:Tr (Zq S)},WfO E o→Z5K u→WfO E (Z4w o u)
  | [],_,h,_=>h
  | (i,x)::u,o,h,hu=>by
    simp only[Z4w];exact WfO.upd (h.set (Z9D (hu (i,x) (by simp)))) (fun p hp=>hu p (by simp[hp]))
theorem WfO.updW {E:Env}:∀{u:List (Nat×Option (Zq S))} {o:Tr (Zq S)},WfO E o→(∀p∈u,WfL E p.2)→WfO E (Z4w o u)
  | [],_,h,_=>h
  | (i,x)::u,o,h,hu=>by
    simp only[Z4w];exact WfO.updW (h.set (hu (i,x) (by simp))) (fun p hp=>hu p (by simp[hp]))
def Zjn (E:Env) (n:Nat):Yj:=Z9O E (fun g as=>(evX E n false g as .leaf 0).bind fun x=>frz x.2.1.get x.1) (evX E n false) (evX E n true) n
structure Z89 (X:Yp S) (cs:Z3F S R):Prop where
  fn:∀g as k r,cs.fn g as k=some r→∃d,Evt (fun n=>evF X.E n g (dvl X.T as)=some (dv X.T d))∧k d=some r
  pr:∀g as s n0 k r,cs.pr g as s n0 k=some r→WfO X.E s→∃v os n',
    Evt (fun n=>(Zjn X.E n g (dvl X.T as) (s.mapv (dvO X.T)) n0).bind (ZbU n0)=some (dv X.T v,os.mapv (dvO X.T),n'))∧WfO X.E os∧k v os n'=some r
def Z2B (X:Yp S) (b:Bool) (callH:Z2A S R):Prop:=∀path g as objs next k r,callH path g as objs next k=some r→WfO X.E objs →
  ∃v objs' next',Evt (fun n=>evX X.E n b g (dvl X.T as) (objs.mapv (dvO X.T)) next=some (dv X.T v,objs'.mapv (dvO X.T),next'))∧WfO X.E objs'∧k v objs' next'=some r
def ZbO (T:TS S) (l:List (Nat×Option (TV S))):Loc:=l.map fun p=>(p.1,p.2.map (dv T))
def dvM (T:TS S) (m:Z2m S):Mid:=⟨m.base.mapv (dv T),ZbO T m.loc,m.objs.mapv (dvO T),m.next⟩
def Yg (T:TS S) (s:StT S):St:=⟨s.base.mapv (dv T),s.objs.mapv (dvO T),s.next⟩
section
variable (T:TS S)
theorem Zem:∀(l:List (Nat×Option (TV S))) (t:Nat),Loc.find (ZbO T l) t=(Z8N l t).map (Option.map (dv T))
  | [],t=>rfl
  | (s,v)::l,t=>by
    simp only[ZbO,List.map_cons,Loc.find,Z8N];cases Nat.beq s t with
    | true=>rfl
    | false=>exact Zem l t
theorem Zbu (V:Nat) (b:Tr (TV S)) (l:List (Nat×Option (TV S))):Y0 V (b.mapv (dv T)) (ZbO T l)=dvr T (Z1v V b l):=by
  funext t;unfold Y0 Z1v dvr;cases hv:Nat.testBit V t with
  | true=>simp only[hv,cond_true];exact Yn _ _ _
  | false =>
    simp only[hv,cond_false,Zem];cases Z8N l t with
    | none=>rfl
    | some v=>rfl
theorem Z9B:∀(u:List (Nat×Option (Zq S))) (o:Tr (Zq S)),Ya (o.mapv (dvO T)) (dvu T u)=(Z4w o u).mapv (dvO T)
  | [],o=>rfl
  | (i,x)::u,o=>by
    simp only[dvu,List.map_cons,Ya,Z4w];rw[←YF];exact Z9B u _
theorem ZdN (V nt:Nat) (m:Z2m S) (dst:Option Tmp) (v:Option (TV S)):(dvM T m).put V nt dst (v.map (dv T))=dvM T (m.put V nt dst v):=by
  unfold Mid.put Z2m.put;cases dst with
  | none=>rfl
  | some d =>
    simp only;cases(!Nat.blt d nt)with
    | true=>rfl
    | false =>
      cases Nat.testBit V d with
      | true=>simp only[cond_false,cond_true,dvM,YF]
      | false=>simp only[cond_false,dvM,ZbO,List.map_cons]
theorem ZeZ (V nt:Nat) (m:Z2m S) (dst:Option Tmp) (o:ZaB S):({ dvM T m with objs:=Ya (dvM T m).objs (Yd T o).upd }:Mid).put V nt dst (Yd T o).val=dvM T (({ m with objs:=Z4w m.objs o.upd }:Z2m S).put V nt dst o.val):=by
  rw[←ZdN];simp only[dvM,Yd,Z9B]
theorem Z94 (m:Z2m S):(dvM T m).objs.get=dvh T m.objs.get:=funext fun i=>Yn _ _ _
end
theorem Z5j (V nt:Nat) (m:Z2m S) (dst:Option Tmp) (v:Option (TV S)):(m.put V nt dst v).objs=m.objs:=by
  unfold Z2m.put;cases dst with
  | none=>rfl
  | some d =>
    simp only;cases(!Nat.blt d nt)with
    | true=>rfl
    | false=>cases Nat.testBit V d<;>rfl
theorem ZfU (V nt:Nat) (m:Z2m S) (dst:Option Tmp) (v:Option (TV S)) (t:Nat) :
    Z1v V (m.put V nt dst v).base (m.put V nt dst v).loc t=if dst=some t∧t<nt then v else Z1v V m.base m.loc t:=by
  unfold Z2m.put;cases dst with
  | none=>simp
  | some d =>
    simp only[Tr.blt_dec]
    by_cases hl:d<nt
    · simp only[hl,decide_true,Bool.not_true,cond_false]
      cases hv:Nat.testBit V d with
      | true =>
        simp only[cond_true];unfold Z1v
        by_cases e:d=t
        · subst e;simp[hv,hl,Tr.get_set]
        · have:¬t=d:=fun h=>e h.symm
          simp[e,Tr.get_set,this]
      | false =>
        simp only[cond_false];unfold Z1v
        by_cases e:d=t
        · subst e;simp[hv,hl,Z8N]
        · simp[e,Z8N,Tr.beq_dec]
    · simp only[hl,decide_false,Bool.not_false,cond_true]
      by_cases e:d=t
      · subst e;simp[hl]
      · simp[e]
def Z9G (kn:List (Nat×Bool)) (ρ:Nat→Option (TV S)):Prop:=∀t b0 b,knF kn t=some b0→ρ t=some (.bool b)→b=b0
theorem Zba {kn:List (Nat×Bool)} {ρ:Nat→Option (TV S)} (h:Z9G kn ρ):(fun t=>ovK kn t (ρ t))=ρ:=by
  funext t;unfold ovK;cases kn with
  | nil=>rfl
  | cons p l =>
    simp only;cases hv:ρ t with
    | none=>rfl
    | some v =>
      cases v<;>simp only;rename_i b;cases hk:knF (p::l) t with
      | none=>rfl
      | some b0=>rw[h t b0 b hk hv]
theorem Zi3 (kn:List (Nat×Bool)) (d t:Nat):knF (Z4N kn (some d)) t=if t=d then none else knF kn t:=by
  unfold Z4N
  induction kn with
  | nil=>simp[knF]
  | cons p l ih =>
    simp only[List.filter_cons]
    by_cases e:p.1=d
    · subst e
      simp only[Tr.beq_dec,decide_true,Bool.not_true,Bool.false_eq_true,if_false];simp only[Tr.beq_dec]at ih;rw[ih];simp only[knF,Tr.beq_dec]
      by_cases e2:t=p.1
      · simp[e2]
      · have:¬p.1=t:=fun h=>e2 h.symm
        simp[e2,this]
    · simp only[Tr.beq_dec]at ih⊢
      simp only[e,decide_false,Bool.not_false,if_true,knF,Tr.beq_dec]
      by_cases e2:p.1=t
      · subst e2;simp[e]
      · simp only[e2,decide_false,cond_false];exact ih
theorem Zch {kn:List (Nat×Bool)} {ρ ρ':Nat→Option (TV S)} {dst:Option Tmp} (h:Z9G kn ρ) (hρ:∀t v,dst≠some t→ρ' t=some v→ρ t=some v):Z9G (Z4N kn dst) ρ':=fun t b0 b hk hv=>by
  cases dst with
  | none=>exact h t b0 b hk (hρ t _ (by simp) hv)
  | some d =>
    rw[Zi3]at hk
    by_cases e:t=d
    · rw[if_pos e]at hk;cases hk
    · rw[if_neg e]at hk
      exact h t b0 b hk (hρ t _ (fun q=>e (by cases q;rfl)) hv)
theorem Z90 {kn:List (Nat×Bool)} {V nt:Nat} {m:Z2m S} {dst:Option Tmp} {v:Option (TV S)} (h:Z9G kn (Z1v V m.base m.loc)):Z9G (Z4N kn dst) (Z1v V (m.put V nt dst v).base (m.put V nt dst v).loc) :=
  Zch h fun t w hne hw=>by
    rw[ZfU,if_neg (fun q=>hne q.1)]at hw;exact hw
theorem Zd6 (T:TS S) {ops:Array Oper} {ρ:Nat→Option (TV S)} {o:Oper} {kn:List (Nat×Bool)} (hkn:Z9G kn ρ) {f:Bool→List (Nat×Bool)→Option R} {r:R} (h:Zfg ops ρ o kn f=some r) :
    ∃want kn',Z1y ops (dvr T ρ) o=some want∧Z9G kn' ρ∧(∀t b,knF kn' t=some b→knF kn t=some b∨ρ t=some (.bool b))∧f want kn'=some r:=by
  unfold Zfg at h;unfold Z1y;split at h
  · rename_i hg
    rw[hg];exact⟨true,kn,rfl,hkn,fun t b hb=>.inl hb,h⟩
  · rename_i j want hg
    rw[hg];simp only;split at h
    · rename_i t ht
      rw[ht];simp only[dvr];split at h
      · rename_i b hb
        rw[hb];simp only[Option.map_some,dv];have hk2:Z9G ((t,b)::kn) ρ:=fun t' b0 b' hk hv=>by
          simp only[knF,Tr.beq_dec]at hk
          by_cases e:t=t'
          · subst e;simp at hk;subst hk;rw[hb]at hv;cases hv;rfl
          · simp[e]at hk;exact hkn t' b0 b' hk hv
        have hk3:∀t' b',knF ((t,b)::kn) t'=some b'→knF kn t'=some b'∨ρ t'=some (.bool b'):=fun t' b' hk=>by
          simp only[knF,Tr.beq_dec]at hk
          by_cases e:t=t'
          · subst e;simp at hk;subst hk;exact .inr hb
          · simp[e]at hk;exact .inl hk
        cases b with
        | true=>exact⟨_,_,rfl,hk2,hk3,h⟩
        | false=>exact⟨_,_,rfl,hk2,hk3,h⟩
      · rename_i v hv hne
        rw[hne];simp only[Option.map_some];have:∀b,dv T v≠.bool b:=fun b hb=>by
          cases v<;>simp[dv]at hb;exact hv _ rfl
        refine⟨false,kn,?_,hkn,fun t b hb=>.inl hb,h⟩;split
        · rename_i b hb
          injection hb with hb
          exact absurd hb (this _)
        · rfl
        · rename_i hq;cases hq
      · cases h
    · cases h
theorem Ze4 {T:TS S} {E:Env} {ρ:Nat→Option (TV S)} {c:Call} {tgt:TV S×List (TV S)} (h:Zbw E ρ c=some tgt):target E (dvr T ρ) c=some (dv T tgt.1,dvl T tgt.2):=by
  unfold Zbw at h;unfold target;split at h
  · rename_i f hc
    rw[hc];obtain⟨v,h1,h⟩:=Z0 h;simp only[ZR,h1,Option.map_some,Option.bind_some];split at h
    · obtain⟨as,h2,h⟩:=Z0 h
      cases h;simp only[dv,Z3g,h2,Option.map_some,Option.bind_some,Z5Q,dvl]
    · obtain⟨as,h2,h⟩:=Z0 h
      cases h;simp only[dv,Z3g,h2,Option.map_some,Option.bind_some]
    · cases h
  · rename_i rv m hc
    rw[hc];obtain⟨v,h1,h⟩:=Z0 h;simp only[ZR,h1,Option.map_some,Option.bind_some];split at h
    · obtain⟨ti,h2,h⟩:=Z0 h
      obtain⟨g,h3,h⟩:=Z0 h;obtain⟨as,h4,h⟩:=Z0 h;cases h;simp only[dv,h2,h3,Z3g,h4,Option.map_some,Option.bind_some,dvl]
    · cases h
  · cases h
theorem ZdL (T:TS S) (E:Env) (tgt:TV S×List (TV S)):ZdK E (dv T tgt.1,dvl T tgt.2)=ZeX E tgt:=by
  obtain⟨v,as⟩:=tgt;cases v<;>simp only[dv,ZdK,ZeX];rename_i f a c;cases f<;>rfl
section
variable {X:Yp S} (hX:XOk X) {cs:Z3F S R} (hcs:Z89 X cs)
include hX hcs
theorem ZcY {nid:Nat} {ρ:Nat→Option (TV S)} {h:Nat→Option (Zq S)} {op:Op} {k:Z2l S R} {ki:TV S×List (TV S)→Option R} {r:R} (hk:Zaq X cs nid ρ h op k ki=some r) :
    (∃o:ZaB S,Evt (fun n=>Z41 X.E (evF X.E n) nid (dvr X.T ρ) (dvh X.T h) op=some (some (Yd X.T o)))∧Z5K o.upd∧k o=some r) ∨
    (∃c tgt,Z3b op=some c∧(∀call,Z41 X.E call nid (dvr X.T ρ) (dvh X.T h) op=some none)∧target X.E (dvr X.T ρ) c=some (dv X.T tgt.1,dvl X.T tgt.2)∧ki tgt=some r):=by
  unfold Zaq at hk;split at hk
  · rename_i hc
    obtain⟨o,h1,h2,h3⟩:=ZiV hX hk;refine .inl ⟨o,Evt.of fun n=>?_,h2,h3⟩;unfold Z41;rw[hc,h1];rfl
  · rename_i c hc
    obtain⟨tgt,h1,hk⟩:=Z0 hk;have h2:=Ze4 (T:=X.T) h1;cases hp:ZeX X.E tgt with
    | false =>
      rw[hp]at hk;refine .inr ⟨c,tgt,hc,fun call=>?_,h2,hk⟩;unfold Z41;rw[hc];simp only[h2,Option.bind_some,ZdL,hp,cond_false]
    | true =>
      rw[hp]at hk;simp only[cond_true]at hk;unfold Ziu at hk;split at hk
      · rename_i g x y as
        obtain⟨fs,h3,hk⟩:=Z0 hk;obtain⟨d,h4,hk⟩:=hcs.fn _ _ _ _ hk;cases hrv:as.any Zer with
        | true =>
          rw[hrv]at hk;simp only[cond_true]at hk;obtain⟨d',h5,hk⟩:=Z0 hk;unfold ZU at hk;refine .inl ⟨_,h4.mono fun n hn=>?_,ZZ,hk⟩;unfold Z41;rw[hc];simp only[h2,Option.bind_some];rw[show ZdK X.E (dv X.T (TV.fn (Fn.func g) x y,as).1,dvl X.T (TV.fn (Fn.func g) x y,as).2)=true from(ZdL X.T X.E _).trans hp];simp only[cond_true];unfold Z4G;rw[h2];simp only[Option.bind_some,dv,Z78 hX.t,h3,Option.map_some,hn,Z8r,hrv,cond_true,Zfi h5];simp[ret,Yd,dvu]
        | false =>
        rw[hrv]at hk;simp only[cond_false]at hk;refine .inl ⟨_,h4.mono fun n hn=>?_,Z2t _ _,hk⟩;unfold Z41;rw[hc];simp only[h2,Option.bind_some];rw[show ZdK X.E (dv X.T (TV.fn (Fn.func g) x y,as).1,dvl X.T (TV.fn (Fn.func g) x y,as).2)=true from(ZdL X.T X.E _).trans hp];simp only[cond_true];unfold Z4G;rw[h2];simp only[Option.bind_some,dv,Z78 hX.t,h3,Option.map_some,hn,Z8r,hrv,cond_false];simp[Yd,Z6Q,Z3Y hX.t]
      · cases hk
omit hcs in
theorem Zei {callH callY:Z2A S R} (hH:Z2B X false callH) (hY:Z2B X true callY) {path:List Nat} {h:Nat→Option (Zq S)} {nx:Nat} {tgt:TV S×List (TV S)} {k:ZaB S→List Nat→Nat→Option R} {r:R}
    (hd:Z6g callH callY path h nx tgt k=some r) (hw:∀i,WfL X.E (h i)) :
    ∃x Ts n,Evt (fun m=>YZ (evX X.E m false) (evX X.E m true) (dvh X.T h) nx (dv X.T tgt.1,dvl X.T tgt.2)=some (Yd X.T x,Ts,n))∧(∀u∈x.upd,WfL X.E u.2)∧k x Ts n=some r:=by
  have hsub:∀Rs:List Nat,WfO X.E (Z7x h Rs):=fun Rs=>by
    induction Rs with
    | nil=>intro i;exact trivial
    | cons j Rs ih =>
      simp only[Z7x];exact ih.set (hw j)
  unfold Z6g at hd;split at hd
  · rename_i g x y as
    rw[Z3k]at hd;unfold Zhw at hd;rw[Zbp,Z3C (fun v k=>Zak v k)]at hd;obtain⟨v,o',n',h1,h2,hd⟩:=hH _ _ _ _ _ _ _ hd (hsub _);obtain⟨h3,hd⟩:=Z3 hd;refine⟨_,_,_,h1.mono fun m hm=>?_,fun u hu=>?_,hd⟩
    · simp only[dv,YZ,Z3w]
      rw[Z8Q hX.t,Z4l hX.t,Z3R hX.t,Z9v,hm];simp only[Option.bind_some,h3,cond_true,Z9W,Z3Y hX.t,Yd,Option.map_some]
    · obtain⟨j,_,rfl⟩:=List.mem_map.1 hu
      exact h2 j
  · rename_i id as
    rw[Z3k]at hd;unfold Zhw at hd;rw[Zbp,Z3C (fun v k=>Zak v k)]at hd;obtain⟨v,o',n',h1,h2,hd⟩:=hY _ _ _ _ _ _ _ hd (hsub _);obtain⟨h3,hd⟩:=Z3 hd;refine⟨_,_,_,h1.mono fun m hm=>?_,fun u hu=>?_,hd⟩
    · simp only[dv,YZ,Z3w]
      rw[Z8Q hX.t,Z4l hX.t,Z3R hX.t,Z9v,hm];simp only[Option.bind_some,h3,cond_true,Z9W,Z3Y hX.t,Yd,Option.map_some]
    · obtain⟨j,_,rfl⟩:=List.mem_map.1 hu
      exact h2 j
  · cases hd
omit hX hcs in
theorem Zbv {nid:Nat} {ρ:Nat→Option (TV S)} {h:Nat→Option (Zq S)} {op:Op} {k:Z2l S R} {ki:TV S×List (TV S)→Option R} {r:R} (hk:Zaq X cs nid ρ h op k ki=some r) (df:Bool) (ρ':Nat→Option DV):Z5e X.E df ρ' op=false:=by
  cases op with
  | defer c=>simp[Zaq,Z3b,opK]at hk
  | _=>rfl
theorem Z8l {df:Bool} {callH callY:Z2A S R} (hH:Z2B X false callH) (hY:Z2B X true callY) {path:List Nat} {V nt:Nat} {ops:Array Oper} {b:Nat} :
    ∀(os:List Oper) (k:Nat) (kn:List (Nat×Bool)) (m:Z2m S) (kk:Z2m S→Option R) (r:R),ZfR X cs callH callY path V nt ops b k os kn m kk=some r→Z9G kn (Z1v V m.base m.loc)→WfO X.E m.objs →
      ∃m',Evt (fun n=>Z2L X.E df (evF X.E n) (evX X.E n false) (evX X.E n true) V nt ops b k os (dvM X.T m)=some (dvM X.T m'))∧WfO X.E m'.objs∧kk m'=some r
  | [],k,kn,m,kk,r,h,_,hw=>⟨m,Evt.of fun _=>rfl,hw,h⟩
  | o::os,k,kn,m,kk,r,h,hkn,hw=>by
    simp only[ZfR]at h;rw[Zba hkn]at h;obtain⟨want,kn',h1,hkn',_,h⟩:=Zd6 X.T hkn h;cases want with
    | false =>
      simp only[cond_false]at h;obtain⟨m',h2,h3,h4⟩:=Z8l hH hY os (k+1) _ _ kk r h (Z90 hkn') (by rw[Z5j];exact hw)
      refine⟨m',h2.mono fun n hn=>?_,h3,h4⟩;simp only[Z2L];have e1:Y0 V (dvM X.T m).base (dvM X.T m).loc=dvr X.T (Z1v V m.base m.loc):=Zbu X.T V m.base m.loc;rw[e1,h1];simp only[Option.bind_some,cond_false];have e2:=ZdN X.T V nt m o.dst (some (.tup []));simp only[Option.map_some,dv,dvl]at e2;rw[e2];exact hn
    | true =>
      simp only[cond_true]at h;rw[Zba hkn']at h;have e1:Y0 V (dvM X.T m).base (dvM X.T m).loc=dvr X.T (Z1v V m.base m.loc):=Zbu X.T V m.base m.loc;have hnd:=Zbv h df;rcases ZcY hX hcs h with⟨q,h2,h3,h⟩|⟨c,tgt,h2,h3,h4,h⟩
      · obtain⟨m',h5,h6,h7⟩:=Z8l hH hY os (k+1) _ _ kk r h (Z90 (m:={ m with objs:=Z4w m.objs q.upd }) hkn') (by rw[Z5j];exact hw.upd h3)
        refine⟨m',(h2.and h5).mono fun n hn=>?_,h6,h7⟩;simp only[Z2L];rw[e1,h1];simp only[Option.bind_some,cond_true,Z94,hnd,cond_false];rw[hn.1];simp only[Option.bind_some];rw[ZeZ];exact hn.2
      · obtain⟨x,Ts,nn,h5,h6,h⟩:=Zei hX hH hY h hw
        obtain⟨m',h7,h8,h9⟩:=Z8l hH hY os (k+1) _ _ kk r h (Z90 (m:={ m with objs:=Z4w m.objs x.upd,next:=nn }) hkn') (by rw[Z5j];exact hw.updW h6)
        refine⟨m',(h5.and h7).mono fun n hn=>?_,h8,h9⟩;simp only[Z2L];rw[e1,h1];simp only[Option.bind_some,cond_true,Z94,hnd,cond_false,h3,h2,h4];have e5:YZ (evX X.E n false) (evX X.E n true) (dvh X.T m.objs.get) (dvM X.T m).next (dv X.T tgt.1,dvl X.T tgt.2)=some (Yd X.T x,Ts,nn):=hn.1;rw[e5];simp only[Option.bind_some];have e2:=ZdN X.T V nt { m with objs:=Z4w m.objs x.upd,next:=nn } o.dst x.val
        have e4:({ dvM X.T m with objs:=Ya (dvM X.T m).objs (Yd X.T x).upd,next:=nn }:Mid)=dvM X.T { m with objs:=Z4w m.objs x.upd,next:=nn }:=by
          simp only[dvM,Yd,Z9B]
        rw[e4];have e6:(Yd X.T x).val=x.val.map (dv X.T):=rfl;rw[e6,e2];exact hn.2
end
end Go.Ab
namespace Go.Ab
variable {S:Nat→Type} {R:Type}
def dvD (T:TS S) (d:Z1o S):YK:=⟨d.dst,d.anc,d.touch,Yd T d.out,d.new⟩
def Z12 (T:TS S) (ds:List (Nat×Z1o S)):List (Nat×YK):=ds.map fun p=>(p.1,dvD T p.2)
section
variable {T:TS S} (hT:TOk T)
include hT
theorem Zhg (ρ:Nat→Option (TV S)) (op:Op):touch (dvr T ρ) op=Z9x ρ op:=by
  unfold touch Z9x;congr 1;funext x;rw[ZR];cases ZY ρ x with
  | none=>rfl
  | some v=>exact ZaV hT v
omit hT in
theorem Zfa (anc:Nat) (ρ:Nat→Option (TV S)):∀(ds:List (Nat×Z1o S)) (t:Nat),Z6a anc (dvr T ρ) (Z12 T ds) t=(Z3v anc ρ ds t).map (dv T)
  | [],t=>rfl
  | (j,d)::ds,t=>by
    have ih:=Zfa anc ρ ds t;show Z6a anc (dvr T ρ) ((j,dvD T d)::Z12 T ds) t=_;simp only[Z6a,Z3v,dvD];rw[ih];cases d.dst with
    | none=>rfl
    | some s =>
      simp only;cases Nat.beq s t with
      | true =>
        simp only[cond_true];cases Nat.testBit anc j<;>rfl
      | false=>rfl
omit hT in
theorem Z8m (id:Nat):∀(u:List (Nat×Option (Zq S))),Zw id (dvu T u)=(Z3n id u).map (Option.map (dvO T))
  | []=>rfl
  | (i,x)::u=>by
    have ih:=Z8m id u;unfold dvu at ih;simp only[dvu,List.map_cons,Zw,Z3n,ih];cases Z3n id u with
    | some y=>rfl
    | none =>
      simp only[Option.map_none];cases Nat.beq i id<;>rfl
omit hT in
theorem ZcQ (anc:Nat) (h:Nat→Option (Zq S)):∀(ds:List (Nat×Z1o S)),Z5F anc (dvh T h) (Z12 T ds)=dvh T (Z4o anc h ds)
  | []=>rfl
  | (j,d)::ds=>by
    funext id;have ih:=congrFun (ZcQ anc h ds) id;unfold Z12 at ih;simp only[Z12,List.map_cons,Z5F,dvD,Yd,Z8m];show _=(Z4o anc h ((j,d)::ds) id).map (dvO T);simp only[Z4o];cases Z3n id d.out.upd with
    | none=>exact ih
    | some x =>
      simp only[Option.map_some];cases Nat.testBit anc j<;>rfl
omit hT in
theorem Z4B (ops:Array Oper) (ds:List (Nat×Z1o S)) (o:Oper) (k:Nat):Z1O ops (Z12 T ds) o k=Z4A ops ds o k:=by
  unfold Z1O Z4A;congr 1;funext m e;have:((Z12 T ds).find? (fun d=>Nat.beq d.1 e.on)).map (·.2.anc)=(ds.find? (fun d=>Nat.beq d.1 e.on)).map (·.2.anc):=by
    unfold Z12;rw[List.find?_map,Option.map_map];rfl
  rw[this]
omit hT in
theorem Zad (V nt:Nat):∀(ds:List (Nat×Z1o S)) (m:Z2m S),YW V nt (Z12 T ds) (dvM T m)=dvM T (Z4i V nt ds m)
  | [],m=>rfl
  | (j,d)::ds,m=>by
    have ih:=Zad V nt ds m;unfold Z12 at ih;simp only[Z12,List.map_cons,YW,Z4i,ih];exact ZeZ T V nt (Z4i V nt ds m) d.dst d.out
end
def ZiE (E:Env) (ds:List (Nat×Z1o S)):Prop:=∀p∈ds,∀u∈p.2.out.upd,WfL E u.2
theorem Zae {E:Env} {V nt:Nat}:∀{ds:List (Nat×Z1o S)} {m:Z2m S},ZiE E ds→WfO E m.objs→WfO E (Z4i V nt ds m).objs
  | [],_,_,h=>h
  | (j,d)::ds,m,hd,h=>by
    simp only[Z4i];rw[Z5j];exact(Zae (fun p hp=>hd p (by simp[hp])) h).updW (hd (j,d) (by simp))
theorem Z6b {ρ:Nat→Option (TV S)} {a a':Nat} {v v':TV S}:∀{ds:List (Nat×Z1o S)} {t:Nat},Z3v a ρ ds t=some v→Z3v a' ρ ds t=some v'→v=v'
  | [],t,h,h'=>by simp only[Z3v]at h h';rw[h]at h';cases h';rfl
  | (j,d)::ds,t,h,h'=>by
    simp only[Z3v]at h h';cases hd:d.dst with
    | none =>
      rw[hd]at h h';exact Z6b h h'
    | some s =>
      rw[hd]at h h';simp only at h h';cases hm:Nat.beq s t with
      | true =>
        rw[hm]at h h';simp only[cond_true]at h h';cases h1:Nat.testBit a j with
        | false=>rw[h1]at h;cases h
        | true=>cases h2:Nat.testBit a' j with
          | false=>rw[h2]at h';cases h'
          | true=>rw[h1]at h;rw[h2]at h';simp only[cond_true]at h h';rw[h]at h';cases h';rfl
      | false =>
        rw[hm]at h h';exact Z6b h h'
def KnD (kn:List (Nat×Bool)) (ρ:Nat→Option (TV S)) (ds:List (Nat×Z1o S)):Prop:=∀anc,Z9G kn (Z3v anc ρ ds)
theorem Z8Z {kn:List (Nat×Bool)} {ρ:Nat→Option (TV S)} {ds:List (Nat×Z1o S)} {j:Nat} {d:Z1o S} (h:KnD kn ρ ds):KnD (Z4N kn d.dst) ρ ((j,d)::ds):=fun anc =>
  Zch (h anc) fun t v hne hv=>by
    simp only[Z3v]at hv;cases hd:d.dst with
    | none=>rw[hd]at hv;exact hv
    | some s =>
      rw[hd]at hv;have hm:Nat.beq s t=false:=by
        simp only[Tr.beq_dec,decide_eq_false_iff_not];intro e;subst e;exact hne hd
      simp only[hm,cond_false]at hv;exact hv
theorem Z3I {α:Type} {c:Bool} {x y:α} (h:c=true):(bif c then x else y)=x:=by rw[h];rfl
theorem ZaG {T:TS S} {ops:Array Oper} {ds:List (Nat×Z1o S)} {o:Oper} {k nt:Nat}
    (hc:(o.after.all (fun e => !Region.binds .any e||Nat.blt e.on k)&&(match o.dst with|none=>true|some t=>Nat.blt t nt)&&ds.all (fun d=>Nat.testBit (Z4A ops ds o k) d.1||(match o.dst with
        | none=>true
        | some t => !((ops.getD d.1 o).looksAt ops).contains t && !(match d.2.dst with|some s=>Nat.beq s t|none=>false))))=true) :
    (o.after.all (fun e => !Region.binds .any e||Nat.blt e.on k)&&(match o.dst with|none=>true|some t=>Nat.blt t nt)&&(Z12 T ds).all (fun d=>Nat.testBit (Z1O ops (Z12 T ds) o k) d.1||(match o.dst with
        | none=>true
        | some t => !((ops.getD d.1 o).looksAt ops).contains t && !(match d.2.dst with|some s=>Nat.beq s t|none=>false))))=true:=by
  refine Eq.trans ?_ hc;rw[Z4B];congr 1;have:∀f:Nat×YK→Bool,(Z12 T ds).all f=ds.all fun p=>f (p.1,dvD T p.2):=fun f=>by
    unfold Z12;rw[List.all_map];rfl
  rw[this];rfl
section
variable {X:Yp S} (hX:XOk X) {cs:Z3F S R} (hcs:Z89 X cs)
include hX hcs
omit hX hcs in
theorem ZcR {anc:Nat} {h:Nat→Option (Zq S)} (hw:∀i,WfL X.E (h i)):∀{ds:List (Nat×Z1o S)},ZiE X.E ds→∀i,WfL X.E (Z4o anc h ds i)
  | [],_,i=>hw i
  | (j,d)::ds,hd,i=>by
    simp only[Z4o];have ih:=ZcR (anc:=anc) hw (ds:=ds) (fun p hp=>hd p (by simp[hp])) i
    cases hq:Z3n i d.out.upd with
    | none=>exact ih
    | some x =>
      simp only;cases Nat.testBit anc j with
      | false=>trivial
      | true =>
        obtain⟨u,h1,rfl⟩:∃u∈d.out.upd,u.2=x:=by
          have key:∀(us:List (Nat×Option (Zq S))),Z3n i us=some x→∃u∈us,u.2=x:=by
            intro us
            induction us with
            | nil=>intro h;cases h
            | cons u us ihu =>
              obtain⟨i',y⟩:=u;intro h;simp only[Z3n]at h;cases hu:Z3n i us with
              | some z =>
                rw[hu]at h;cases h;obtain⟨v,h1,h2⟩:=ihu hu;exact⟨v,by simp[h1],h2⟩
              | none =>
                rw[hu]at h;simp only at h;cases hb:Nat.beq i' i with
                | false=>rw[hb]at h;cases h
                | true=>rw[hb]at h;cases h;exact⟨(i',x),by simp,rfl⟩
          exact key _ hq
        exact hd (j,d) (by simp) u h1
theorem Z6i {callH callY:Z2A S R} (hH:Z2B X false callH) (hY:Z2B X true callY) {path:List Nat} {V nt:Nat} {ops:Array Oper} {b:Nat} :
    ∀(os:List Oper) (k:Nat) (kn:List (Nat×Bool)) (m:Z2m S) (ds:List (Nat×Z1o S)) (kk:Z2m S→Option R) (r:R),Z8D X cs callH callY path V nt ops b k os kn m ds kk=some r→KnD kn (Z1v V m.base m.loc) ds→ZiE X.E ds→WfO X.E m.objs →
      ∃m',Evt (fun n=>Z1a X.E (evF X.E n) (evX X.E n false) (evX X.E n true) V nt ops b k os (dvM X.T m) (Z12 X.T ds)=some (dvM X.T m'))∧WfO X.E m'.objs∧kk m'=some r
  | [],k,kn,m,ds,kk,r,h,_,hd,hw=>by
    simp only[Z8D]at h;exact⟨_,Evt.of fun _=>by simp only[Z1a,Zad],Zae hd hw,h⟩
  | o::os,k,kn,m,ds,kk,r,h,hkn,hd,hw=>by
    simp only[Z8D]at h;obtain⟨hc,h⟩:=Z3 h;rw[Zba (hkn _)]at h;obtain⟨want,kn',h1,hkn1,hext,h⟩:=Zd6 X.T (hkn _) h;have hkn':KnD kn' (Z1v V m.base m.loc) ds:=fun anc t b0 b' hk hv=>by
      rcases hext t b0 hk with h2|h2
      · exact hkn anc t b0 b' h2 hv
      · have:=Z6b h2 hv;cases this;rfl
    have e1:Y0 V (dvM X.T m).base (dvM X.T m).loc=dvr X.T (Z1v V m.base m.loc):=Zbu X.T V m.base m.loc;have e2:Z6a (Z1O ops (Z12 X.T ds) o k) (Y0 V (dvM X.T m).base (dvM X.T m).loc) (Z12 X.T ds)=dvr X.T (Z3v (Z4A ops ds o k) (Z1v V m.base m.loc) ds):=by
      rw[e1,Z4B];exact funext fun t=>Zfa _ _ ds t
    have e3:Z5F (Z1O ops (Z12 X.T ds) o k) (dvM X.T m).objs.get (Z12 X.T ds)=dvh X.T (Z4o (Z4A ops ds o k) m.objs.get ds):=by
      rw[Z94,Z4B];exact ZcQ _ _ ds
    cases want with
    | false =>
      simp only[cond_false]at h;obtain⟨m',h2,h3,h4⟩:=Z6i hH hY os (k+1) _ m _ kk r h (Z8Z (d:=⟨o.dst,Z4A ops ds o k,[],⟨some (.tup []),[]⟩,none⟩) hkn')
        (fun p hp=>by
          rcases List.mem_cons.1 hp with e|hp
          · subst e;intro u hu;cases hu
          · exact hd p hp) hw
      refine⟨m',h2.mono fun n hn=>?_,h3,h4⟩;simp only[Z1a];refine(Z3I (ZaG hc)).trans ?_;simp only[e2,h1,Option.bind_some,cond_false];have e4:Z12 X.T ((k,⟨o.dst,Z4A ops ds o k,[],⟨some (.tup []),[]⟩,none⟩)::ds)=(k,⟨o.dst,Z1O ops (Z12 X.T ds) o k,[],⟨some (.tup []),[]⟩,none⟩)::Z12 X.T ds:=by
        rw[Z4B];simp[Z12,dvD,Yd,dv,dvl,dvu]
      rw[e4]at hn;exact hn
    | true =>
      simp only[cond_true]at h;rw[Zba (hkn' _)]at h;have e9:∀(up:List (Nat×Option (Zq S))) (f:Z1o S→Bool) (g:YK→Bool),(∀d,g (dvD X.T d)=f d) →
          (Z12 X.T ds).all (fun d=>Nat.testBit (Z1O ops (Z12 X.T ds) o k) d.1||g d.2&&(dvu X.T up).all (fun u => !d.2.touch.contains u.1&&(Zw u.1 d.2.out.upd).isNone)) =
          ds.all (fun d=>Nat.testBit (Z4A ops ds o k) d.1||f d.2&&up.all (fun u => !d.2.touch.contains u.1&&(Z3n u.1 d.2.out.upd).isNone)):=fun up f g hfg=>by
        rw[Z4B];simp only[Z12,List.all_map];congr 1;funext d;simp only[Function.comp,dvD,dvu,List.all_map];have:=hfg d.2;simp only[dvD]at this;rw[this];congr 2;congr 1;funext u;simp only[Function.comp,Yd,Z8m];cases Z3n u.1 d.2.out.upd<;>rfl
      rcases ZcY hX hcs h with⟨q,h2,h3,h⟩|⟨cl,tgt,h2,h3,h4,h⟩
      · obtain⟨h5,h⟩:=Z3 h
        obtain⟨m',h6,h7,h8⟩:=Z6i hH hY os (k+1) _ m _ kk r h (Z8Z (d:=⟨o.dst,Z4A ops ds o k,Z9x (Z3v (Z4A ops ds o k) (Z1v V m.base m.loc) ds) o.op,q,none⟩) hkn')
          (fun p hp=>by
            rcases List.mem_cons.1 hp with e|hp
            · subst e;exact fun u hu=>Z9D (h3 u hu)
            · exact hd p hp) hw
        refine⟨m',(h2.and h6).mono fun n hn=>?_,h7,h8⟩;simp only[Z1a];refine(Z3I (ZaG hc)).trans ?_;simp only[e2,e3,h1,Option.bind_some,cond_true];rw[hn.1];simp only[Option.bind_some];have h9:(Yd X.T q).upd.all (fun u=>(Z12 X.T ds).all (fun d=>Nat.testBit (Z1O ops (Z12 X.T ds) o k) d.1 || !d.2.touch.contains u.1&&(Zw u.1 d.2.out.upd).isNone))=true:=by
          rw[←h5,Z4B];simp only[Yd,dvu,Z12,List.all_map];congr 1;funext u;simp only[Function.comp];congr 1;funext d;simp only[Function.comp,dvD,Yd,Z8m];cases Z3n u.1 d.2.out.upd<;>rfl
        rw[h9];simp only[cond_true];have e4:Z12 X.T ((k,⟨o.dst,Z4A ops ds o k,Z9x (Z3v (Z4A ops ds o k) (Z1v V m.base m.loc) ds) o.op,q,none⟩)::ds)=(k,⟨o.dst,Z1O ops (Z12 X.T ds) o k,touch (dvr X.T (Z3v (Z4A ops ds o k) (Z1v V m.base m.loc) ds)) o.op,Yd X.T q,none⟩)::Z12 X.T ds:=by
          rw[Z4B,Zhg hX.t];simp[Z12,dvD]
        rw[←e4];exact hn.2
      · obtain⟨x,Ts,nn,h5,h6,h⟩:=Zei hX hH hY h (ZcR hw hd)
        obtain⟨h7,h⟩:=Z3 h;obtain⟨m',h8,h9,h10⟩:=Z6i hH hY os (k+1) _ { m with next:=nn } _ kk r h (Z8Z (d:=⟨o.dst,Z4A ops ds o k,Ts,x,some (m.next,nn)⟩) hkn')
          (fun p hp=>by
            rcases List.mem_cons.1 hp with e|hp
            · subst e;exact h6
            · exact hd p hp) hw
        refine⟨m',(h5.and h8).mono fun n hn=>?_,h9,h10⟩;simp only[Z1a];refine(Z3I (ZaG hc)).trans ?_;simp only[e2,e3,h1,Option.bind_some,cond_true,h3,h2,h4];have e5:YZ (evX X.E n false) (evX X.E n true) (dvh X.T (Z4o (Z4A ops ds o k) m.objs.get ds)) (dvM X.T m).next (dv X.T tgt.1,dvl X.T tgt.2)=some (Yd X.T x,Ts,nn):=hn.1;rw[e5];simp only[Option.bind_some];have h11:=e9 x.upd (fun d=>d.new.isNone) (fun d=>d.new.isNone) (fun d=>rfl);refine(Z3I (h11.trans h7)).trans ?_;have e4:Z12 X.T ((k,⟨o.dst,Z4A ops ds o k,Ts,x,some (m.next,nn)⟩)::ds)=(k,⟨o.dst,Z1O ops (Z12 X.T ds) o k,Ts,Yd X.T x,some ((dvM X.T m).next,nn)⟩)::Z12 X.T ds:=by
          rw[Z4B];simp[Z12,dvD,dvM]
        rw[e4]at hn;exact hn.2
theorem ZdP {df:Bool} {callH callY:Z2A S R} (hH:Z2B X false callH) (hY:Z2B X true callY) {path:List Nat} {V nt:Nat} {ops:Array Oper} {draw:Bool} {s:StT S} {kk:StT S→Option R} {r:R}
    (h:Zbd X cs callH callY path V nt ops draw s kk=some r) (hw:WfO X.E s.objs) :
    ∃s',Evt (fun n=>Z2q X.E df (evF X.E n) (evX X.E n false) (evX X.E n true) V nt ops draw (Yg X.T s)=some (Yg X.T s'))∧WfO X.E s'.objs∧kk s'=some r:=by
  unfold Zbd at h;cases draw with
  | true =>
    simp only[cond_true]at h;obtain⟨m',h1,h2,h3⟩:=Z6i hX hcs hH hY _ 0 [] ⟨s.base,[],s.objs,s.next+ops.size⟩ [] _ r h (fun _ _ _ _ hk _=>by cases hk) (fun _ hp=>by cases hp) hw
    rw[Zh9]at h3;refine⟨⟨m'.base,m'.objs,m'.next⟩,h1.mono fun n hn=>?_,h2,h3⟩;unfold Z2q;simp only[cond_true];have e:Z1a X.E (evF X.E n) (evX X.E n false) (evX X.E n true) V nt ops (Yg X.T s).next 0 ops.toList ⟨(Yg X.T s).base,[],(Yg X.T s).objs,(Yg X.T s).next+ops.size⟩ []=some (dvM X.T m'):=hn;rw[e];rfl
  | false =>
    simp only[cond_false]at h;obtain⟨m',h1,h2,h3⟩:=Z8l hX hcs (df:=df) hH hY _ 0 [] ⟨s.base,[],s.objs,s.next+ops.size⟩ _ r h (fun _ _ _ hk _=>by cases hk) hw
    rw[Zh9]at h3;refine⟨⟨m'.base,m'.objs,m'.next⟩,h1.mono fun n hn=>?_,h2,h3⟩;unfold Z2q;simp only[cond_false];have e:Z2L X.E df (evF X.E n) (evX X.E n false) (evX X.E n true) V nt ops (Yg X.T s).next 0 ops.toList ⟨(Yg X.T s).base,[],(Yg X.T s).objs,(Yg X.T s).next+ops.size⟩=some (dvM X.T m'):=hn;rw[e];rfl
end
end Go.Ab
namespace Go.Ab
variable {S:Nat→Type} {R:Type}
section
variable (T:TS S)
theorem Z8x (hT:TOk T) {cs:List (TV S)} {off:Nat} {o:Option (TV S)} (h:ZaF T cs off=some o):(o=none∧(dvs T cs)[off]? = none)∨(∃c d,o=some c∧(dvs T cs)[off]? = some d∧((Y2 c=false∧d=dv T c)∨(c=.bool false∧plain d=true))):=by
  unfold ZaF at h;obtain⟨r,h1,h⟩:=Z0 h;obtain⟨h2,h3⟩:=Z1D hT h1;have e:(dvs T cs)[off]?=(dvs T r)[0]? := by rw[←h3];simp
  cases r with
  | nil=>cases h;exact .inl ⟨rfl,by rw[e,Z8c];rfl⟩
  | cons c r =>
    simp only at h;cases ha:Y2 c with
    | true =>
      rw[ha]at h;obtain⟨h4,h⟩:=Z3 h;cases h;rw[Bool.and_eq_true]at h4;obtain⟨h40,h4⟩:=h4;have h4:0<wd T c:=by simpa[Tr.blt_dec]using h4
      rw[←Z32 hT c]at h4;refine .inr ⟨_,(Yc T c)[0],rfl,?_,.inr ⟨rfl,?_⟩⟩
      · rw[e,ZB,List.getElem?_append_left h4,List.getElem?_eq_getElem h4]
      · have hp:(Yc T c).all plain=true:=by
          cases c<;>simp only[Zje,Bool.false_eq_true]at h40
          · exact Yt hT _ _ _
          · exact hT.plain _ _
        exact List.all_eq_true.1 hp _ (List.getElem_mem h4)
    | false =>
      rw[ha]at h;cases h;refine .inr ⟨c,dv T c,rfl,?_,.inl ⟨ha,rfl⟩⟩;rw[e,ZB];cases c<;>simp[Yc,Y2]at ha⊢
theorem Zhn (hT:TOk T) {o:Tr (Zq S)} {b:Tr (TV S)} {a:Acc} {x:Option (Nat×Nat)} (h:Zhm T o b a=some x):Z5M (o.mapv (dvO T)) (b.mapv (dv T)) a=x:=by
  cases a with
  | slot t e =>
    simp only[Zhm]at h;simp only[Z5M,Yn];cases hb:b.get t with
    | none=>rw[hb]at h;cases h;rfl
    | some v =>
      rw[hb]at h;cases v<;>simp only[Option.some.injEq]at h<;>subst h<;>simp[dv]
  | cell t off e =>
    simp only[Zhm]at h;simp only[Z5M,Yn];cases hb:b.get t with
    | none=>rw[hb]at h;cases h;rfl
    | some v =>
      rw[hb]at h;cases v with
      | ptr q p =>
        cases p with
        | zero =>
          simp only[Option.map_some,dv];simp only at h;cases ho:o.get q with
          | none=>rw[ho]at h;cases h;rfl
          | some ob =>
            rw[ho]at h;cases ob with
            | cells ct cs =>
              simp only at h;simp only[Option.map_some,dvO];obtain⟨oc,h1,h⟩:=Z0 h;rcases Z8x T hT h1 with⟨rfl,h2⟩|⟨c,d,rfl,h2,h3⟩
              · rw[h2];cases h;rfl
              · rw[h2]
                rcases h3 with⟨_,rfl⟩|⟨rfl,h3⟩
                · cases c<;>simp only[Option.some.injEq]at h<;>subst h<;>simp[dv]
                · cases h
                  cases d<;>simp[plain]at h3<;>rfl
            | _=>simp only[Option.some.injEq]at h;subst h;simp[dvO]
        | succ p=>simp only[Option.some.injEq]at h;subst h;simp[dv]
      | ap=>cases h
      | _=>simp only[Option.some.injEq]at h;subst h;simp[dv]
theorem ZbB (hT:TOk T) {o:Tr (Zq S)} {b:Tr (TV S)}:∀{as:List Acc} {L:List (Option (Nat×Nat))},Zea T o b as=some L→as.map (Z5M (o.mapv (dvO T)) (b.mapv (dv T)))=L
  | [],L,h=>by cases h;rfl
  | a::as,L,h=>by
    simp only[Zea]at h;obtain⟨x,h1,h⟩:=Z0 h;obtain⟨xs,h2,h⟩:=Z0 h;cases h;rw[List.map_cons,Zhn T hT h1,ZbB hT h2]
end
theorem Z9t:∀(cs:List DV) (off:Nat) (v:DV),off<cs.length→Yh cs off [v]=cs.set off v
  | [],off,v,h=>by simp at h
  | c::cs,0,v,h=>by cases cs<;>simp[Yh]
  | c::cs,n+1,v,h=>by
    simp only[Yh,List.set_cons_succ];rw[Z9t cs n v (by simpa using h)]
theorem Z5C:∀(a b:List DV),YQ (a++b)=YQ a++YQ b
  | [],b=>by simp[YQ]
  | c::a,b=>by simp only[List.cons_append,YQ,Z5C a b,List.append_assoc]
theorem Z4T:∀{cs:List DV},cs.all plain=true→YQ cs=[]
  | [],_=>rfl
  | c::cs,h=>by
    simp only[List.all_cons,Bool.and_eq_true]at h;simp only[YQ,Z4T h.2,List.append_nil];cases c<;>simp[plain,YH]at h⊢
theorem Z6m {pid:Nat}:∀{l:List DV},l.all (Z4M pid)=true→YQ l=[]
  | [],_=>rfl
  | d::l,h=>by
    simp only[List.all_cons,Bool.and_eq_true]at h;rcases Z1z h.1 with rfl|⟨t,rfl⟩<;>simp[YQ,YH,Z6m h.2]
section
variable {T:TS S} (hT:TOk T)
include hT
mutual
theorem Z6F:∀v:TV S,YH (dv T v)=YS v
  | .rs _ _=>by simp[dv,YH,YS]
  | .rv _ _ _ _ _=>by simp[dv,YH,YS] | .slen _=>by simp[dv,YH,YS]
  | .agg cs=>by simp only[dv,YH,YS];exact Z9d cs
  | .tup cs=>by simp only[dv,YH,YS];exact Z6G cs
  | .fn _ a c=>by simp only[dv,YH,YS,Z6G a,Z6G c]
  | .iface _ v=>by simp only[dv,YH,YS];exact Z6F v
  | .bool _=>rfl | .int _ _=>rfl | .str _=>rfl | .nilp=>rfl | .nils=>rfl
  | .sl0=>by simp[dv,YH,YS] | .sl _ _=>by simp[dv,YH,YS]
  | .arr _ _ _=>by simp[dv,YH,YS] | .stc _ _=>by simp[dv,YH,YS]
  | .earr _ _ _ _=>by simp only[dv,YH,YS];exact Z6m (YD _ _ _ _)
  | .narr _ _=>by simp only[dv,YH,YS];exact Z6m (Z1d 0 _)
  | .ptr _ _=>by simp[dv,YH,YS] | .ap _ _ _ _ _=>by simp[dv,YH,YS] | .rptr _ _ _ _ _=>by simp[dv,YH,YS]
  | .pub _=>by simp[dv,YH,YS] | .map _=>by simp[dv,YH,YS] | .iter _=>by simp[dv,YH,YS] | .yld _=>by simp[dv,YH,YS]
  | .nilfn=>by simp[dv,YH,YS] | .nilmap=>by simp[dv,YH,YS] | .nilif=>by simp[dv,YH,YS]
theorem Z9d:∀cs:List (TV S),YQ (dvs T cs)=Z2I cs
  | []=>by simp[dvs,YQ,Z2I]
  | c::cs=>by
    rw[ZB,Z5C,Z2I,Z9d cs];have h:=Z6F c;cases c<;>simp only[Yc,YQ,List.append_nil]<;>first|rw[h]|skip
    · rw[Z4T (Yt hT _ _ _)];rfl
    · rw[Z4T (hT.plain _ _)];rfl
    · rw[Z6m (YD _ _ _ _)];rfl
    · rw[Z6m (Z1d 0 _)];rfl
theorem Z6G:∀cs:List (TV S),YQ (dvl T cs)=Z2I cs
  | []=>by simp[dvl,YQ,Z2I]
  | c::cs=>by simp only[dvl,YQ,Z2I,Z6F c,Z6G cs]
end
theorem ZgZ (o:Zq S):ZgY (dvO T o)=ZdO o:=by
  cases o<;>simp only[dvO,ZgY,ZdO]
  · exact Z9d hT _
  · rw[Z22,List.flatMap_map]
    congr 1;funext p;exact Z6F hT p.2
theorem Zgr (o:Tr (Zq S)) (b:Tr (TV S)) (n0 keep:Nat) (A:List (Option (Nat×Nat))):ZaP (o.mapv (dvO T)) (b.mapv (dv T)) n0 keep A=ZaQ o b n0 keep A:=by
  unfold ZaP ZaQ;have e1:ZdT (o.mapv (dvO T)).get=Zbn o.get:=by
    funext p;unfold ZdT Zbn;rw[Yn];cases o.get p.1 with
    | none=>rfl
    | some x=>cases x<;>rfl
  rw[e1,Z22,Z22,List.flatMap_map,List.flatMap_map];congr 2
  · congr 1
    funext p;simp only[ZgZ hT]
  · congr 1
    funext p;simp only[Z6F hT]
end
theorem Zjp {E:Env} {g:Nat→Zq S→Option (Option (Zq S))} {t t':Tr (Zq S)} (h:t.tm g 1 0=some t') (hw:WfO E t) (hg:∀k x y,g k x=some y→WfL E (some x)→WfL E y):WfO E t':=fun i=>by
  rcases Tr.tm_get1 h i with⟨_,h2⟩|⟨x,y,h1,h2,h3⟩
  · rw[h2];trivial
  · rw[h3];have:=hw i;rw[h1]at this;exact hg i x y h2 this
section
variable {X:Yp S} (hX:XOk X)
include hX
theorem Zh0 {n0:Nat} {L:List (Option (Nat×Nat))} {x y:Zq S} (h:Zah n0 L x=some y):Z3B n0 L (dvO X.T x)=some (dvO X.T y):=by
  cases x with
  | cells t cs =>
    simp only[Zah]at h;obtain⟨cs',h1,h⟩:=Z0 h;cases h;simp only[dvO,Z3B,Z9f hX.t _ _ _ _ h1,Option.bind_some]
  | loop fid b ps as bo bid ex pa po =>
    simp only[Zah]at h;obtain⟨b',h1,h⟩:=Z0 h;cases h;simp only[dvO,Z3B];have:=Z6z (dv X.T) (fun _ d=>(Z3i n0 L d).bind fun d=>some (some d)) (fun _ d=>(ren n0 L d).bind fun d=>some (some d)) (fun k x y hxy=>by
      obtain⟨z,h2,h3⟩:=Z0 hxy;cases h3;simp only[Zbf hX.t _ _ _ _ h2,Option.bind_some,Option.map_some]) b 1 0 b' h1
    rw[this];rfl
  | row=>cases h;rfl
  | map=>cases h;rfl
  | siter=>cases h;rfl
theorem Z4z {o:Tr (Zq S)} {n0:Nat}:∀{L:List (Option (Nat×Nat))} {j:Nat} {no r:Tr (Zq S)},Z3H o n0 j L no=some r→WfO X.E no→Z2b (o.mapv (dvO X.T)) n0 j L (no.mapv (dvO X.T))=some (r.mapv (dvO X.T))∧WfO X.E r
  | [],j,no,r,h,hw=>by cases h;exact⟨rfl,hw⟩
  | none::L,j,no,r,h,hw=>by simp only[Z3H]at h;simp only[Z2b];exact Z4z h hw
  | some (id,v)::L,j,no,r,h,hw=>by
    simp only[Z3H]at h;simp only[Z2b,Yn];cases ho:o.get id with
    | none=>rw[ho]at h;cases h
    | some ob =>
      rw[ho]at h;cases ob<;>simp only[reduceCtorEq]at h;rename_i e t es p u;obtain⟨h1,h⟩:=Z3 h;obtain⟨h2,h3⟩:=Z4z h (hw.set (x:=some (.row e t es p 0)) trivial);simp only[Option.map_some,dvO,h1,cond_true];rw[YF]at h2;exact⟨h2,h3⟩
theorem Yk {n0:Nat}:∀{as:List Acc} {j:Nat} {b:Tr (TV S)} {no:Tr (Zq S)} {r:Tr (TV S)×Tr (Zq S)},Z13 X n0 j as (b,no)=some r→WfO X.E no →
    Yl X.E n0 j as (b.mapv (dv X.T),no.mapv (dvO X.T))=some (r.1.mapv (dv X.T),r.2.mapv (dvO X.T))∧WfO X.E r.2
  | [],j,b,no,r,h,hw=>by cases h;exact⟨rfl,hw⟩
  | .slot t e::as,j,b,no,r,h,hw=>by
    simp only[Z13]at h;simp only[Yl,Yn];cases hb:b.get t with
    | none=>rw[hb]at h;exact Yk h hw
    | some v =>
      rw[hb]at h;cases v with
      | nils =>
        simp only at h;obtain⟨ei,h1,h⟩:=Z0 h;obtain⟨te,h2,h⟩:=Z0 h;obtain⟨h3,h⟩:=Z3 h;obtain⟨h4,h5⟩:=Yk h (hw.set (x:=some (.row e te [] 0 0)) trivial);simp only[Option.map_some,dv,h1,Option.bind_some];have h6:(Nat.blt 0 ei.size&&(Option.map (dvO X.T) (no.get (n0+j))).isNone)=true:=by
          rw[←h3];cases no.get (n0+j)<;>rfl
        rw[h6];simp only[cond_true];rw[YF,YF]at h4;exact⟨h4,h5⟩
      | _=>simp only[Option.map_some,dv];exact Yk h hw
  | .cell t off e::as,j,b,no,r,h,hw=>by
    simp only[Z13]at h;simp only[Yl,Yn];cases hb:b.get t with
    | none=>rw[hb]at h;exact Yk h hw
    | some v =>
      rw[hb]at h;cases v with
      | ptr q p =>
        cases p with
        | zero =>
          simp only[Option.map_some,dv];simp only at h;cases ho:no.get q with
          | none=>rw[ho]at h;exact Yk h hw
          | some ob =>
            rw[ho]at h;cases ob with
            | cells ct cs =>
              simp only at h;simp only[Option.map_some,dvO];obtain⟨oc,hc,h⟩:=Z0 h;have other:(∀d,(dvs X.T cs)[off]? = some d→d≠.nils)→Z13 X n0 (j+1) as (b,no)=some r→(match(dvs X.T cs)[off]? with
                  | some .nils=>(X.E.ty e).bind fun ei=>bif Nat.blt 0 ei.size&&(Option.map (dvO X.T) (no.get (n0+j))).isNone then Yl X.E n0 (j+1) as (b.mapv (dv X.T),((no.mapv (dvO X.T)).set q (some (.cells ct ((dvs X.T cs).set off (.rs (n0+j) 0))))).set (n0+j) (some (.row e [] 0 0)))else none
                  | _=>Yl X.E n0 (j+1) as (b.mapv (dv X.T),no.mapv (dvO X.T)))=some (r.1.mapv (dv X.T),r.2.mapv (dvO X.T))∧WfO X.E r.2:=fun hn hh=>by
                obtain⟨g1,g2⟩:=Yk hh hw;refine⟨?_,g2⟩;split
                · rename_i hq;exact absurd rfl (hn _ hq)
                · exact g1
              rcases Z8x X.T hX.t hc with⟨rfl,h2⟩|⟨c,d,rfl,h2,h3⟩
              · exact other (fun d hd=>by rw[h2]at hd;cases hd) h
              · by_cases hcn:c=.nils
                · subst hcn
                  rcases h3 with⟨_,rfl⟩|⟨h3,_⟩
                  · simp only at h
                    obtain⟨ei,h1,h⟩:=Z0 h;obtain⟨te,h4,h⟩:=Z0 h;obtain⟨cs',h5,h⟩:=Z0 h;obtain⟨h6,h⟩:=Z3 h;obtain⟨h7,h8⟩:=Z1e hX.t h5;have h9:dvs X.T cs'=(dvs X.T cs).set off (.rs (n0+j) 0):=by
                      rw[←h8,←Z9t _ _ _ (List.getElem?_eq_some_iff.1 h2).1];simp[dvs,dv]
                    obtain⟨h10,h11⟩:=Yk h ((hw.set (x:=some (.cells ct cs')) trivial).set (x:=some (.row e te [] 0 0)) trivial);rw[h2];simp only[dv,h1,Option.bind_some];have h12:(Nat.blt 0 ei.size&&(Option.map (dvO X.T) (no.get (n0+j))).isNone)=true:=by
                      rw[←h6];cases no.get (n0+j)<;>rfl
                    rw[h12];simp only[cond_true];rw[YF,YF]at h10;simp only[Option.map_some,dvO,h9]at h10;exact⟨h10,h11⟩
                  · cases h3
                · refine other (fun d' hd'=>?_) ?_
                  · rw[h2]at hd';cases hd'
                    rcases h3 with⟨_,rfl⟩|⟨_,h3⟩
                    · cases c<;>simp[dv]at hcn⊢
                    · intro e;subst e;simp[plain]at h3
                  · cases c<;>first|exact h|exact absurd rfl hcn
            | _=>simp only[Option.map_some,dvO];exact Yk h hw
        | succ p=>simp only[Option.map_some,dv];exact Yk h hw
      | ap=>cases h
      | _=>simp only[Option.map_some,dv];exact Yk h hw
theorem ZfH {hint:Z3E} {n0:Nat} {s s':StT S} (h:ZdD X hint n0 s=some s') (hw:WfO X.E s.objs):Zcq X.E hint n0 (Yg X.T s)=some (Yg X.T s')∧WfO X.E s'.objs:=by
  unfold ZdD at h;obtain⟨A,h1,h⟩:=Z0 h;have hx:=Zgr hX.t s.objs s.base n0 hint.keep A;generalize ZaQ s.objs s.base n0 hint.keep A=XL at h hx;simp only at h;generalize hLd:XL.map some++A=L at h;obtain⟨h2,h⟩:=Z3 h;obtain⟨b,h3,h⟩:=Z0 h;obtain⟨o,h4,h⟩:=Z0 h;obtain⟨o2,h5,h⟩:=Z0 h;obtain⟨r,h6,h⟩:=Z0 h;cases h;have e1:=ZbB X.T hX.t h1;have e2:=Z6z (dv X.T) _ (fun t d=>bif Nat.testBit hint.keep t then(ren n0 L d).bind fun d=>some (some d)else some none) (fun k x y hxy=>by
    cases hk:Nat.testBit hint.keep k with
    | true =>
      rw[hk]at hxy;obtain⟨z,h7,h8⟩:=Z0 hxy;cases h8;simp only[cond_true,Zbf hX.t _ _ _ _ h7,Option.bind_some,Option.map_some]
    | false=>rw[hk]at hxy;cases hxy;rfl) s.base 1 0 b h3
  have e3:=Z6z (dvO X.T) _ (fun i x=>bif Nat.blt i n0 && !Z3f i L then(Z3B n0 L x).bind fun x=>some (some x)else some none) (fun k x y hxy=>by
    cases hk:(Nat.blt k n0 && !Z3f k L)with
    | true =>
      rw[hk]at hxy;obtain⟨z,h7,h8⟩:=Z0 hxy;cases h8;simp only[cond_true,Zh0 hX h7,Option.map_some,Option.bind_some]
    | false=>rw[hk]at hxy;cases hxy;rfl) s.objs 1 0 o h4
  have w1:WfO X.E o:=Zjp h4 hw fun k x y hxy hx=>by
    cases hk:(Nat.blt k n0 && !Z3f k L)with
    | true =>
      rw[hk]at hxy;obtain⟨z,h7,h8⟩:=Z0 hxy;cases h8;cases x with
      | loop fid bb ps as bo bid ex pa po =>
        simp only[Zah]at h7;obtain⟨b',_,h9⟩:=Z0 h7;cases h9;exact hx
      | cells t cs =>
        simp only[Zah]at h7;obtain⟨b',_,h9⟩:=Z0 h7;cases h9;trivial
      | row=>cases h7;trivial
      | map=>cases h7;trivial
      | siter=>cases h7;trivial
    | false=>rw[hk]at hxy;cases hxy;trivial
  obtain⟨e4,w2⟩:=Z4z hX h5 w1;obtain⟨e5,w3⟩:=Yk hX h6 w2;refine⟨?_,w3⟩;unfold Zcq;simp only[Yg];rw[e1,hx,hLd,h2];simp only[cond_true];rw[e2];simp only[Option.bind_some];rw[e3];simp only[Option.bind_some];rw[e4];simp only[Option.bind_some];rw[e5];rfl
omit hX in
theorem Zi7 (T:TS S) (x:Zq S):dvO T (ZgH x)=Z4O (dvO T x):=by cases x<;>rfl
omit hX in
theorem Z5g {α β γ:Type} (f:α→β) (g:β→γ):∀(t:Tr α),(t.mapv f).mapv g=t.mapv fun x=>g (f x)
  | .leaf=>rfl
  | .node l v r=>by simp only[Tr.mapv,Z5g f g l,Z5g f g r,Option.map_map];rfl
omit hX in
theorem Zi8 {E:Env} {o:Tr (Zq S)} (hw:WfO E o):WfO E (o.mapv ZgH):=fun i=>by
  rw[Yn];have:=hw i;cases hq:o.get i with
  | none=>trivial
  | some x=>rw[hq]at this;cases x<;>exact this
theorem Zcs {hint:Z3E} {n0:Nat} {s s':StT S} (h:ZeS X hint n0 s=some s') (hw:WfO X.E s.objs):Zcp X.E hint n0 (Yg X.T s)=some (Yg X.T s')∧WfO X.E s'.objs:=by
  unfold ZeS at h;obtain⟨s1,h1,h⟩:=Z0 h;cases h;obtain⟨k1,k2⟩:=ZfH hX h1 hw;unfold Zcp;rw[k1];cases hint.raw with
  | true=>exact⟨rfl,k2⟩
  | false =>
    refine⟨?_,Zi8 k2⟩;simp only[Option.bind_some,cond_false,Yg];congr 2;rw[Z5g,Z5g];congr 1;funext x;exact(Zi7 X.T x).symm
end
end Go.Ab
namespace Go.Ab
variable {S:Nat→Type} {R:Type}
theorem Z6Z {α β:Type} {f:α→β} {p:α→Bool} {q:β→Bool} (hpq:∀x,p x=true→q (f x)=true):∀{t:Tr α},t.allV p=true→(t.mapv f).allV q=true
  | .leaf,_=>rfl
  | .node l v r,h=>by
    simp only[Tr.allV,Bool.and_eq_true]at h;simp only[Tr.mapv,Tr.allV,Bool.and_eq_true];refine⟨Z6Z hpq h.1,?_,Z6Z hpq h.2.2⟩;cases v with
    | none=>rfl
    | some x=>exact hpq x h.2.1
theorem Z9h (f:Nat→Nat):∀(a b:List DV),rns f (a++b)=rns f a++rns f b
  | [],b=>by simp[rns]
  | c::a,b=>by simp only[List.cons_append,rns,Z9h f a b]
theorem Z7S (p:Nat→Bool):∀(a b:List DV),Z1m p (a++b)=(Z1m p a&&Z1m p b)
  | [],b=>by simp[Z1m]
  | c::a,b=>by simp only[List.cons_append,Z1m,Z7S p a b,Bool.and_assoc]
theorem Z7l (f:Nat→Nat):∀{cs:List DV},cs.all plain=true→rns f cs=cs
  | [],_=>rfl
  | c::cs,h=>by
    simp only[List.all_cons,Bool.and_eq_true]at h;simp only[rns,Z7l f h.2];cases c<;>simp[plain]at h<;>simp[rn]
theorem Z7k (p:Nat→Bool):∀{cs:List DV},cs.all plain=true→Z1m p cs=true
  | [],_=>rfl
  | c::cs,h=>by
    simp only[List.all_cons,Bool.and_eq_true]at h;simp only[Z1m,Z7k p h.2,Bool.and_true];cases c<;>simp[plain]at h<;>simp[okD]
theorem Zgm (f:Nat→Nat) (pid:Nat):∀(ts:List TypeId) (m:Nat),rn f (enD pid ts m)=enD (f pid) ts m
  | ts,0=>by cases ts<;>simp[enD,rn]
  | [],m+1=>by simp[enD,rn]
  | t::ts,1=>by simp[enD,rn,rns]
  | t::ts,m+2=>by simp only[enD];exact Zgm f pid ts (m+1)
theorem Zgl (f:Nat→Nat) (ts:List TypeId) (pid n:Nat) (a:Nat→Nat):rns f (eal ts pid n a)=eal ts (f pid) n a:=by
  unfold eal;generalize List.range n=l
  induction l with
  | nil=>rfl
  | cons x l ih=>simp only[List.map_cons,rns,ih,Zgm]
theorem ZdC (f:Nat→Nat):∀n:Nat,rns f (List.replicate n .nilif)=List.replicate n .nilif
  | 0=>rfl
  | n+1=>by simp only[List.replicate_succ,rns,ZdC f n,rn]
theorem Zix {p:Nat→Bool} {pid:Nat} (hp:p pid=true):∀{cs:List DV},cs.all (Z4M pid)=true→Z1m p cs=true
  | [],_=>rfl
  | c::cs,h=>by
    simp only[List.all_cons,Bool.and_eq_true]at h;simp only[Z1m,Zix hp h.2,Bool.and_true];rcases Z1z h.1 with e|⟨t,e⟩<;>subst e<;>simp[okD,Z1m,hp]
theorem ZgR (p:Nat→Bool):∀n:Nat,Z1m p (List.replicate n .nilif)=true
  | 0=>rfl
  | n+1=>by simp only[List.replicate_succ,Z1m,ZgR p n,okD,Bool.and_self]
section
variable {T:TS S} (hT:TOk T)
include hT
mutual
theorem ZcH (f:Nat→Nat):∀v:TV S,rn f (dv T v)=dv T (rnT f v)
  | .bool _=>by simp[dv,rn,rnT] | .int _ _=>by simp[dv,rn,rnT] | .str _=>by simp[dv,rn,rnT] | .nilp=>by simp[dv,rn,rnT] | .nils=>by simp[dv,rn,rnT]
  | .sl0=>by simp[dv,rn,rnT] | .sl _ _=>by simp[dv,rn,rnT]
  | .arr _ _ _=>by simp[dv,rn,rnT]
  | .stc _ _=>by simp[dv,rn,rnT]
  | .narr _ n=>by simp only[dv,rn,rnT,ZdC]
  | .earr ts pid n a=>by simp only[dv,rn,rnT,Zgl]
  | .ptr _ _=>by simp[dv,rn,rnT] | .ap _ _ _ _ _=>by simp[dv,rn,rnT] | .rptr _ _ _ _ _=>by simp[dv,rn,rnT]
  | .pub _=>by simp[dv,rn,rnT]
  | .rv _ _ _ _ _=>by simp[dv,rn,rnT] | .slen _=>by simp[dv,rn,rnT]
  | .rs _ _=>by simp[dv,rn,rnT] | .map _=>by simp[dv,rn,rnT] | .iter _=>by simp[dv,rn,rnT] | .yld _=>by simp[dv,rn,rnT]
  | .nilfn=>by simp[dv,rn,rnT] | .nilmap=>by simp[dv,rn,rnT] | .nilif=>by simp[dv,rn,rnT]
  | .agg cs=>by simp only[dv,rn,rnT,Zbm f cs]
  | .tup cs=>by simp only[dv,rn,rnT,Z6L f cs]
  | .fn _ a c=>by simp only[dv,rn,rnT,Z6L f a,Z6L f c]
  | .iface _ v=>by simp only[dv,rn,rnT,ZcH f v]
theorem Zbm (f:Nat→Nat):∀cs:List (TV S),rns f (dvs T cs)=dvs T (Z6K f cs)
  | []=>by simp[dvs,rns,Z6K]
  | c::cs=>by
    rw[ZB,Z9h,Z6K,ZB,Zbm f cs];have h:=ZcH f c;congr 1;cases c<;>simp only[Yc,rnT,rns]<;>first|(rw[h];simp only[rnT];done)|skip
    · exact Z7l f (Yt hT _ _ _)
    · exact Z7l f (hT.plain _ _)
    · exact Zgl f _ _ _ _
    · exact ZdC f _
theorem Z6L (f:Nat→Nat):∀cs:List (TV S),rns f (dvl T cs)=dvl T (Z6K f cs)
  | []=>by simp[dvl,rns,Z6K]
  | c::cs=>by simp only[dvl,rns,Z6K,ZcH f c,Z6L f cs]
end
mutual
theorem Zb8 (p:Nat→Bool):∀v:TV S,Zb7 p v=true→okD p (dv T v)=true
  | .bool _,_=>by simp[dv,okD] | .int _ _,_=>by simp[dv,okD] | .str _,_=>by simp[dv,okD] | .nilp,_=>by simp[dv,okD] | .nils,_=>by simp[dv,okD]
  | .sl0,_=>by simp[dv,okD] | .sl _ _,_=>by simp[dv,okD]
  | .arr _ _ _,_=>by simp[dv,okD]
  | .stc _ _,_=>by simp[dv,okD]
  | .narr _ _,_=>by simp only[dv,okD];exact ZgR p _
  | .earr _ _ _ _,h=>by simp only[dv,okD];exact Zix h (YD _ _ _ _)
  | .ptr _ _,h=>h | .ap _ _ _ _ _,h=>h | .rptr _ _ _ _ _,h=>h
  | .rv _ _ _ _ _,h=>h | .slen _,_=>by simp[dv,okD]
  | .rs _ _,h=>h | .map _,h=>h | .iter _,h=>h | .yld _,h=>h
  | .nilfn,_=>by simp[dv,okD] | .nilmap,_=>by simp[dv,okD] | .nilif,_=>by simp[dv,okD]
  | .pub cs,_=>by simp only[dv,okD]
  | .agg cs,h=>by simp only[dv,okD,Zb7]at h⊢;exact Z95 p cs h
  | .tup cs,h=>by simp only[dv,okD,Zb7]at h⊢;exact Z4R p cs h
  | .fn _ a c,h=>by
    simp only[dv,okD,Zb7,Bool.and_eq_true]at h⊢;exact⟨Z4R p a h.1,Z4R p c h.2⟩
  | .iface _ v,h=>by simp only[dv,okD,Zb7]at h⊢;exact Zb8 p v h
theorem Z95 (p:Nat→Bool):∀cs:List (TV S),Z4Q p cs=true→Z1m p (dvs T cs)=true
  | [],_=>by simp[dvs,Z1m]
  | c::cs,h=>by
    simp only[Z4Q,Bool.and_eq_true]at h;rw[ZB,Z7S,Z95 p cs h.2,Bool.and_true];have hc:=Zb8 p c h.1;cases c<;>simp only[Yc,Z1m,Bool.and_true]<;>first|exact hc|skip
    · exact Z7k p (Yt hT _ _ _)
    · exact Z7k p (hT.plain _ _)
theorem Z4R (p:Nat→Bool):∀cs:List (TV S),Z4Q p cs=true→Z1m p (dvl T cs)=true
  | [],_=>by simp[dvl,Z1m]
  | c::cs,h=>by
    simp only[Z4Q,Bool.and_eq_true]at h;simp only[dvl,Z1m,Zb8 p c h.1,Z4R p cs h.2,Bool.and_self]
end
omit hT in
theorem Z4c {α β γ:Type} (f:α→β) (g:β→γ):∀t:Tr α,(t.mapv f).mapv g=t.mapv fun x=>g (f x)
  | .leaf=>rfl
  | .node l v r=>by
    simp only[Tr.mapv,Z4c f g l,Z4c f g r];cases v<;>rfl
theorem Zh6 (f:Nat→Nat) (o:Zq S):rnO f (dvO T o)=dvO T (Zh5 f o):=by
  cases o<;>simp only[dvO,rnO,Zh5]
  · rw[Zbm hT]
  · rw[Z4c,Z4c]
    congr 1;congr 1;funext d;exact ZcH hT f d
theorem ZiU {p:Nat→Bool}:∀{o:Zq S},Zjm p o=true→okO p (dvO T o)=true
  | .cells _ cs,h=>Z95 hT p cs h
  | .row _ _ _ _ _,_=>rfl
  | .map _ _ _,_=>rfl
  | .siter _ _,_=>rfl
  | .loop _ b _ _ _ _ _ _ _,h=>Z6Z (fun d hd=>Zb8 hT p d hd) h
theorem ZgU {p:Nat→Bool} {h:Nat→Option (Zq S)}:∀{is:List Nat},ZgT p h is=true→okH p (dvh T h) is=true
  | [],_=>rfl
  | i::is,hb=>by
    simp only[ZgT,Bool.and_eq_true]at hb;simp only[okH,Bool.and_eq_true];refine⟨?_,ZgU hb.2⟩;simp only[dvh];cases hi:h i with
    | none=>rfl
    | some o =>
      rw[hi]at hb;exact ZiU hT hb.1
theorem Zf6 (f:Nat→Nat) (h:Nat→Option (Zq S)):∀(is:List Nat),Z3j f (dvh T h) is=(Z7X f h is).mapv (dvO T)
  | []=>rfl
  | i::is=>by
    simp only[Z3j,Z7X,Zf6 f h is,YF,dvh];congr 1;cases h i with
    | none=>rfl
    | some o=>simp only[Option.map_some,Zh6 hT]
theorem ZcG (f:Nat→Nat) (h:Nat→Option (Zq S)):∀(is:List Nat),Z3X f (dvh T h) is=dvu T (Z7q f h is)
  | []=>rfl
  | i::is=>by
    simp only[Z3X,Z7q,ZcG f h is,dvu,List.map_cons,dvh];congr 2;cases h i with
    | none=>rfl
    | some o=>simp only[Option.map_some,Zh6 hT]
end
theorem Zhi {E:Env} {f:Nat→Nat} {x:Zq S} (h:WfL E (some x)):WfL E (some (Zh5 f x)):=by
  cases x<;>first|exact h|trivial
theorem Zd8 {E:Env} {f:Nat→Nat} {h:Nat→Option (Zq S)} (hw:∀i,WfL E (h i)):∀(is:List Nat),WfO E (Z7X f h is)
  | []=>fun i=>trivial
  | i::is=>by
    simp only[Z7X];refine(Zd8 hw is).set ?_;have:=hw i;cases hi:h i with
    | none=>trivial
    | some x=>rw[hi]at this;exact Zhi this
theorem Zd9 {E:Env} {f:Nat→Nat} {h:Nat→Option (Zq S)} (hw:∀i,WfL E (h i)):∀(is:List Nat),∀p∈Z7q f h is,WfL E p.2
  | [],p,hp=>by cases hp
  | i::is,p,hp=>by
    simp only[Z7q]at hp;rcases List.mem_cons.1 hp with e|e
    · subst e
      have:=hw i;cases hi:h i with
      | none=>trivial
      | some x=>rw[hi]at this;exact Zhi this
    · exact Zd9 hw is p e
end Go.Ab
