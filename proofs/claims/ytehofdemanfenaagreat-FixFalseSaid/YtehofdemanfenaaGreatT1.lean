/- The same on typed values. -/
import Derived.Test.YtehofdemanfenaaGreatA1
import Derived.Test.YtehofdemanfenaaGreatA2
set_option linter.unusedSectionVars false
set_option linter.unusedVariables false
set_option linter.unusedSimpArgs false
namespace Go.Ab
inductive Ty where
  | bool
  | int (k:IntKind)
  | str
  | sl (t:Ty)
  | arr (n:Nat) (t:Ty)
  | st (i:Nat)
  deriving DecidableEq,Inhabited
def Val (S:Nat→Type):Ty→Type
  | .bool=>Bool
  | .int _=>Int
  | .str=>ByteArray
  | .sl t=>List (Val S t)
  | .arr _ t=>Nat→Val S t
  | .st i=>S i
inductive TV (S:Nat→Type) where
  | bool (b:Bool)
  | int (k:IntKind) (n:Int)
  | str (s:ByteArray)
  | nilp
  | ptr (id off:Nat)
  | ap (id base i esz off:Nat)
  | rptr (id ver i esz off:Nat)
  | pub (cs:List (TV S))
  | nils
  | sl0
  | sl (t:Ty) (xs:List (Val S t))
  | rv (id ver i n e:Nat)
  | slen (n:Nat)
  | rs (id ver:Nat)
  | arr (t:Ty) (n:Nat) (a:Nat→Val S t)
  | stc (i:Nat) (x:S i)
  | earr (ts:List TypeId) (pid n:Nat) (a:Nat→Nat)
  | narr (ts:List TypeId) (n:Nat)
  | agg (cs:List (TV S))
  | tup (vs:List (TV S))
  | fn (f:Fn) (first caps:List (TV S))
  | nilfn
  | map (id:Nat)
  | nilmap
  | iface (t:TypeId) (v:TV S)
  | nilif
  | iter (id:Nat)
  | yld (id:Nat)
inductive Zi (S:Nat→Type) where
  | cells (t:TypeId) (cs:List (TV S))
  | row (e:TypeId) (t:Ty) (xs:List (Val S t)) (pubd ver:Nat)
  | map (kt et:Ty) (m:List (Val S kt×Val S et))
  | siter (s:ByteArray) (pos:Nat)
  | loop (fid:Nat) (base:Tr (TV S)) (params:List Nat) (assign body:Code) (bid:Nat) (done:Ex) (path at_:List Nat)
structure TS (S:Nat→Type) where
  size:Nat→Nat
  cells:∀ i,S i→List (TV S)
  dcells:∀ i,S i→List DV
  rd:∀ i,List (TV S)→Option (S i×List (TV S))
  dflt:∀ i,S i
  seq:∀ i,Option (S i→S i→Bool)
section
variable {S:Nat→Type}
def tsz (T:TS S):Ty→Nat
  | .arr n t=>n*tsz T t
  | .st i=>T.size i
  | _=>1
def tdf (T:TS S):(t:Ty)→Val S t
  | .bool=>false
  | .int _=>(0:Int)
  | .str=>ByteArray.empty
  | .sl _=>[]
  | .arr _ t=>fun _=>tdf T t
  | .st i=>T.dflt i
def YO:Ty→Bool
  | .arr _ _ | .st _=>true
  | _=>false
def tcl (T:TS S):(t:Ty)→Val S t→List (TV S)
  | .bool,b=>[.bool b]
  | .int k,n=>[.int k n]
  | .str,s=>[.str s]
  | .sl t,xs=>[.sl t xs]
  | .arr n t,a=>[.arr t n a]
  | .st i,x=>[.stc i x]
def dcl (T:TS S):(t:Ty)→Val S t→List DV
  | .bool,b=>[.bool b]
  | .int k,n=>[.int k n]
  | .str,s=>[.str s]
  | .sl t,xs=>[.sl (xs.map (dcl T t))]
  | .arr n t,a=>(List.range n).flatMap fun j=>dcl T t (a j)
  | .st i,x=>T.dcells i x
def acl (T:TS S) (t:Ty) (n:Nat) (a:Nat→Val S t):List DV:=(List.range n).flatMap fun j=>dcl T t (a j)
def Z7i (T:TS S):(t:Ty)→Val S t→TV S
  | .bool,b => .bool b
  | .int k,n => .int k n
  | .str,s => .str s
  | .sl t,xs => .sl t xs
  | .arr n t,a => .agg [.arr t n a]
  | .st i,x => .agg [.stc i x]
def YI (T:TS S):(t:Ty)→Val S t→DV
  | .bool,b => .bool b
  | .int k,n => .int k n
  | .str,s => .str s
  | .sl t,xs => .sl (xs.map (dcl T t))
  | .arr n t,a => .agg (acl T t n a)
  | .st i,x => .agg (T.dcells i x)
def enD (pid:Nat):List TypeId→Nat→DV
  | _,0 => .nilif
  | [],_+1 => .nilif
  | t::_,1 => .iface t (.agg [.ptr pid 0])
  | _::ts,m+2=>enD pid ts (m+1)
def eal (ts:List TypeId) (pid n:Nat) (a:Nat→Nat):List DV:=(List.range n).map fun j=>enD pid ts (a j)
mutual
def dv (T:TS S):TV S→DV
  | .bool b => .bool b
  | .int k n => .int k n
  | .str s => .str s
  | .nilp => .nilp
  | .ptr id off => .ptr id off
  | .ap id base i esz off => .ptr id (base+i*esz+off)
  | .rptr id v i esz off => .rptr id v i esz off
  | .pub cs => .pub (dvs T cs)
  | .nils => .nils
  | .sl0 => .sl []
  | .sl t xs => .sl (xs.map (dcl T t))
  | .rs id v => .rs id v
  | .rv id v i n e => .rv id v i n e
  | .slen n => .slen n
  | .arr _ _ _ => .nilp
  | .stc _ _ => .nilp
  | .earr ts pid n a => .agg (eal ts pid n a)
  | .narr _ n => .agg (List.replicate n .nilif)
  | .agg cs => .agg (dvs T cs)
  | .tup vs => .tup (dvl T vs)
  | .fn f a c => .fn f (dvl T a) (dvl T c)
  | .nilfn => .nilfn
  | .map id => .map id
  | .nilmap => .nilmap
  | .iface t v => .iface t (dv T v)
  | .nilif => .nilif
  | .iter id => .iter id
  | .yld id => .yld id
def dvs (T:TS S):List (TV S)→List DV
  | []=>[]
  | .arr t n a::cs=>acl T t n a++dvs T cs
  | .stc i x::cs=>T.dcells i x++dvs T cs
  | .earr ts pid n a::cs=>eal ts pid n a++dvs T cs
  | .narr _ n::cs=>List.replicate n .nilif++dvs T cs
  | c::cs=>dv T c::dvs T cs
def dvl (T:TS S):List (TV S)→List DV
  | []=>[]
  | c::cs=>dv T c::dvl T cs
end
def Zh6 (t:Ty):TV S→Option (List (Val S t))
  | .sl0=>some []
  | .sl t' xs=>if h:t'=t then some (h ▸ xs) else none
  | _=>none
def Z5R:List (TV S)→Option (Bool×List (TV S))
  | .bool b::r=>some (b,r)
  | _=>none
def YW (k:IntKind):List (TV S)→Option (Int×List (TV S))
  | .int k' n::r=>bif k==k' then some (n,r) else none
  | _=>none
def Z6s:List (TV S)→Option (ByteArray×List (TV S))
  | .str s::r=>some (s,r)
  | _=>none
def Z7M (t:Ty):List (TV S)→Option (List (Val S t)×List (TV S))
  | c::r=>(Zh6 t c).bind fun xs=>some (xs,r)
  | _=>none
def Zc0 (n:Nat) (t:Ty):List (TV S)→Option ((Nat→Val S t)×List (TV S))
  | .arr t' n' a::r=>if h:t'=t then (bif Nat.beq n' n then some (h ▸ a,r) else none) else none
  | _=>none
def rdW (i:Nat) (f:List (TV S)→Option (S i×List (TV S))):List (TV S)→Option (S i×List (TV S))
  | .stc i' x::r=>if h:i'=i then some (h ▸ x,r) else none
  | cs=>f cs
def Z1g (T:TS S) (i:Nat):Nat→List (TV S)→List (TV S)
  | n+1,.stc i' x::r=>bif Nat.beq i' i then .stc i' x::r else Z1g T i n (T.cells i' x++r)
  | _,cs=>cs
def trd (T:TS S):(t:Ty)→List (TV S)→Option (Val S t×List (TV S))
  | .bool=>Z5R
  | .int k=>YW k
  | .str=>Z6s
  | .sl t=>Z7M t
  | .arr n t=>Zc0 n t
  | .st i=>fun cs=>rdW i (T.rd i) (Z1g T i 6 cs)
def Z6G (T:TS S) (t:Ty) (cs:List (TV S)):Option (Val S t):=(trd T t cs).bind fun x=>match x.2 with
  | []=>some x.1
  | _=>none
def Y6:TV S→List (TV S)
  | .agg cs=>cs
  | .arr _ _ _=>[.nilp]
  | .stc _ _=>[.nilp]
  | v=>[v]
def Z7V:TV S→Bool
  | .agg _ | .tup _=>false
  | _=>true
def ZQ:TV S→Bool
  | .arr _ _ _=>true
  | .stc _ _=>true
  | .earr _ _ _ _=>true
  | .narr _ _=>true
  | _=>false
def Z5x (T:TS S) (t:Ty) (v:TV S):Option (Val S t):=match v with
  | .agg cs=>bif YO t then Z6G T t cs else none
  | v=>bif YO t then none else Z6G T t [v]
def wd (T:TS S):TV S→Nat
  | .arr t n _=>n*tsz T t
  | .stc i _=>T.size i
  | .earr _ _ n _=>n
  | .narr _ n=>n
  | _=>1
def wds (T:TS S):List (TV S)→Nat
  | []=>0
  | c::cs=>wd T c+wds T cs
def Z9F (T:TS S):Nat→List (TV S)→Nat→Option (List (TV S))
  | 0,_,_=>none
  | _+1,[],n=>bif Nat.beq n 0 then some [] else none
  | f+1,c::cs,n=>bif Nat.beq n 0 then some (c::cs) else bif Nat.ble (wd T c) n then Z9F T f cs (n-wd T c) else match c with
    | .stc i x=>Z9F T f (T.cells i x++cs) n
    | _=>none
def Z8i (T:TS S) (cs:List (TV S)) (n:Nat):Option (List (TV S)):=Z9F T 400 cs n
def Za8 (T:TS S):Nat→List (TV S)→Nat→Option (List (TV S))
  | 0,_,_=>none
  | _+1,[],n=>bif Nat.beq n 0 then some [] else none
  | f+1,c::cs,n=>bif Nat.beq n 0 then some [] else bif Nat.ble (wd T c) n then (Za8 T f cs (n-wd T c)).bind fun r=>some (c::r) else match c with
    | .stc i x=>Za8 T f (T.cells i x++cs) n
    | _=>none
def Zg3 (T:TS S) (cs:List (TV S)) (n:Nat):Option (List (TV S)):=Za8 T 400 cs n
def hdF (T:TS S):Nat→List (TV S)→List (TV S)
  | n+1,.stc i x::r=>hdF T n (T.cells i x++r)
  | _,cs=>cs
def xpF (T:TS S):Nat→List (TV S)→List (TV S)
  | n+1,.stc i x::r=>xpF T n (T.cells i x++r)
  | n+1,c::r=>c::xpF T n r
  | _,cs=>cs
def Z2L (T:TS S) (cs:List (TV S)) (off:Nat) (vs:List (TV S)):Option (List (TV S)) :=
  (Zg3 T cs off).bind fun a=>(Z8i T cs (off+wds T vs)).bind fun b=>some (a++vs++b)
def Z8O (T:TS S) (ti:TI) (cs:List (TV S)) (off:Nat):Option (TV S) :=
  (Z8i T cs off).bind fun r=>bif ti.isAgg then (Zg3 T r ti.size).bind fun p=>some (.agg p) else match hdF T 10 r with
    | c::_=>bif ZQ c then none else some c
    | []=>none
structure Yb (S:Nat→Type) where
  E:Env
  T:TS S
  code:Nat→Option Ty
  zero:Nat→Option (List (TV S))
def Z9S (X:Yb S) (t:TypeId) (cs:List (TV S)):List (TV S):=match X.code t with
  | some c=>(match Z6G X.T c cs with
    | some x=>tcl X.T c x
    | none=>cs)
  | none=>cs
def Z8W (nid:Nat):List (TV S)→List (TV S)
  | []=>[]
  | .narr ts n::cs => .earr ts nid n (fun _=>0)::Z8W nid cs
  | c::cs=>c::Z8W nid cs
structure Zaf (S:Nat→Type) where
  val:Option (TV S)
  upd:List (Nat×Option (Zi S))
def ZcZ:Value→Option (TV S)
  | .bool b=>some (.bool b)
  | .int k n=>some (.int k n)
  | .string s=>some (.str s)
  | .pointer none=>some .nilp
  | .slice none 0 0=>some .nils
  | .map none=>some .nilmap
  | .nilFunc=>some .nilfn
  | .nilIface=>some .nilif
  | _=>none
def ZO (ρ:Nat→Option (TV S)):Operand→Option (TV S)
  | .tmp t=>ρ t
  | .const v=>ZcZ v
  | .func f=>some (.fn (.func f) [] [])
  | .global _=>none
def Z2v (ρ:Nat→Option (TV S)):List Operand→Option (List (TV S))
  | []=>some []
  | x::xs=>(ZO ρ x).bind fun v=>(Z2v ρ xs).bind fun vs=>some (v::vs)
mutual
def Zp:TV S→Bool
  | .bool _ | .int _ _ | .str _ | .nilp | .nils | .sl0 | .sl _ _ | .nilfn | .nilmap | .nilif=>true
  | .arr _ _ _ | .stc _ _=>true
  | .earr ts i n a=>Z9 (eal ts i n a)
  | .narr _ _=>true
  | .agg cs=>YB cs
  | .tup cs=>YB cs
  | .fn _ a b=>YB a&&YB b
  | .iface _ v=>Zp v
  | _=>false
def YB:List (TV S)→Bool
  | []=>true
  | c::cs=>Zp c&&YB cs
end
mutual
def Z9q (n:Nat):TV S→Bool
  | .ptr i _ | .ap i _ _ _ _ | .rptr i _ _ _ _ | .rs i _ | .rv i _ _ _ _ | .map i | .iter i | .yld i=>Nat.blt i n
  | .agg cs=>Z5i n cs
  | .tup cs=>Z5i n cs
  | .fn _ a b=>Z5i n a&&Z5i n b
  | .iface _ v=>Z9q n v
  | .pub cs=>Z5i n cs
  | .earr _ i _ _=>Nat.blt i n
  | _=>true
def Z5i (n:Nat):List (TV S)→Bool
  | []=>true
  | c::cs=>Z9q n c&&Z5i n cs
end
mutual
def Yx (h:Nat→Option (Zi S)):TV S→Option (TV S)
  | .rs id v=>(h id).bind fun | .row _ t xs _ u=>bif Nat.beq u v then some (.sl t xs) else none|_=>none
  | .agg cs=>(Z1M h cs).bind fun cs=>some (.agg cs)
  | .tup cs=>(Z1M h cs).bind fun cs=>some (.tup cs)
  | .iface t v=>(Yx h v).bind fun v=>some (.iface t v)
  | .nils=>some .sl0
  | d=>bif Zp d then some d else none
def Z1M (h:Nat→Option (Zi S)):List (TV S)→Option (List (TV S))
  | []=>some []
  | c::cs=>(Yx h c).bind fun c=>(Z1M h cs).bind fun cs=>some (c::cs)
end
mutual
def ZW:TV S→List Nat
  | .rs id _=>[id]
  | .rv id _ _ _ _=>[id]
  | .agg cs=>Yk cs
  | .tup cs=>Yk cs
  | .iface _ v=>ZW v
  | _=>[]
def Yk:List (TV S)→List Nat
  | []=>[]
  | c::cs=>ZW c++Yk cs
end
def Z5v (h:Nat→Option (Zi S)):List Nat→List (Nat×Option (Zi S))
  | []=>[]
  | i::is=>(match h i with|some (.row e t xs p u)=>bif Nat.beq p 1 then [] else [(i,some (.row e t xs 1 u))]|_=>[])++Z5v h is
def Zfy:Zi S→Zi S
  | .row e t xs _ u => .row e t xs 1 u
  | o=>o
mutual
def Z1S:TV S→List Nat
  | .ptr i _ | .ap i _ _ _ _ | .rptr i _ _ _ _ | .rs i _ | .rv i _ _ _ _ | .map i | .iter i | .yld i=>[i]
  | .agg cs=>Z4y cs
  | .tup cs=>Z4y cs
  | .fn _ a b=>Z4y a++Z4y b
  | .iface _ v=>Z1S v
  | .earr ts i n a=>Zz (eal ts i n a)
  | _=>[]
def Z4y:List (TV S)→List Nat
  | []=>[]
  | c::cs=>Z1S c++Z4y cs
end
section ops
variable {R:Type}
abbrev Z2q (S:Nat→Type) (R:Type):=Zaf S→Option R
def ZJ (v:TV S) (k:Z2q S R):Option R:=k ⟨some v,[]⟩
def Z3w:(t:Ty)→Option (Val S t→Val S t→Bool)
  | .bool=>some fun (a b:Bool)=>a==b
  | .int _=>some fun (a b:Int)=>a==b
  | .str=>some fun (a b:ByteArray)=>a==b
  | _=>none
def Z8D (T:TS S):(t:Ty)→Option (Val S t→Val S t→Bool)
  | .st i=>T.seq i
  | t=>Z3w t
def Z11:List (TV S)→List (TV S)→Option Bool
  | [],[]=>some true
  | .int k a::xs,.int k' b::ys=>bif k==k' then (Z11 xs ys).bind fun r=>some (a==b&&r) else none
  | .bool a::xs,.bool b::ys=>(Z11 xs ys).bind fun r=>some (a==b&&r)
  | .str a::xs,.str b::ys=>(Z11 xs ys).bind fun r=>some (a==b&&r)
  | .arr t n a::xs,.arr t' n' b::ys=>if h:t'=t then (bif Nat.beq n' n then (Z3w t).bind fun e=>(Z11 xs ys).bind fun r=>some (((List.range n).all fun j=>e (a j) ((h ▸ b:Nat→Val S t) j))&&r) else none) else none
  | _,_=>none
def Z2Z:List (TV S)→List (TV S)→Bool
  | [],[]=>true
  | .int k _::zs,.int k' _::xs=>k==k'&&Z2Z zs xs
  | .bool _::zs,.bool _::xs=>Z2Z zs xs
  | .str _::zs,.str _::xs=>Z2Z zs xs
  | .arr t n _::zs,.arr t' n' _::xs=>decide (t'=t)&&Nat.beq n' n&&(Z3w (S:=S) t).isSome&&Z2Z zs xs
  | _,_=>false
def Zh7 (X:Yb S) (op:BinOp) (t:TypeId) (x y:TV S) (k:Z2q S R):Option R :=
  match x,y with
  | .int kd a,.int kd' b =>
    match op with
    | .shl=>bif decide (b<0) then none else ZJ (.int kd (kd.wrap (a*2 ^ (min b.toNat kd.bits)))) k
    | .shr=>bif decide (b<0) then none else ZJ (.int kd (a.fdiv (2 ^ (min b.toNat kd.bits)))) k
    | .quo=>bif kd==kd' then (bif b==0 then none else ZJ (.int kd (kd.wrap (a.tdiv b))) k) else none
    | .rem=>bif kd==kd' then (bif b==0 then none else ZJ (.int kd (a.tmod b)) k) else none
    | .add=>bif kd==kd' then ZJ (.int kd (kd.wrap (a+b))) k else none
    | .sub=>bif kd==kd' then ZJ (.int kd (kd.wrap (a-b))) k else none
    | .mul=>bif kd==kd' then ZJ (.int kd (kd.wrap (a*b))) k else none
    | .and=>bif kd==kd' then ZJ (.int kd (kd.wrap (BitVec.ofInt kd.bits a &&& BitVec.ofInt kd.bits b).toNat)) k else none
    | .or=>bif kd==kd' then ZJ (.int kd (kd.wrap (BitVec.ofInt kd.bits a ||| BitVec.ofInt kd.bits b).toNat)) k else none
    | .xor=>bif kd==kd' then ZJ (.int kd (kd.wrap (BitVec.ofInt kd.bits a ^^^ BitVec.ofInt kd.bits b).toNat)) k else none
    | .eql=>bif kd==kd' then ZJ (.bool (a==b)) k else none
    | .neq=>bif kd==kd' then ZJ (.bool (a != b)) k else none
    | .lss=>bif kd==kd' then ZJ (.bool (decide (a<b))) k else none
    | .leq=>bif kd==kd' then ZJ (.bool (decide (a≤b))) k else none
    | .gtr=>bif kd==kd' then ZJ (.bool (decide (a>b))) k else none
    | .geq=>bif kd==kd' then ZJ (.bool (decide (a≥b))) k else none
    | _=>none
  | .str a,.str b =>
    match op with
    | .add=>bif Nat.ble (a.size+b.size) 1099511627776 then ZJ (.str (a++b)) k else none
    | .eql=>ZJ (.bool (a.toList==b.toList)) k
    | .neq=>ZJ (.bool (!(a.toList==b.toList))) k
    | .lss=>ZJ (.bool (Op.bytesLess a.toList b.toList)) k
    | .leq=>ZJ (.bool (Op.bytesLess a.toList b.toList||(a.toList==b.toList))) k
    | .gtr=>ZJ (.bool (!(Op.bytesLess a.toList b.toList||(a.toList==b.toList)))) k
    | .geq=>ZJ (.bool (!(Op.bytesLess a.toList b.toList))) k
    | _=>none
  | .bool a,.bool b=>(X.E.ty t).bind fun ti=>match ti.k,op with
    | .bool,.eql=>ZJ (.bool (a==b)) k
    | .bool,.neq=>ZJ (.bool (!(a==b))) k
    | _,_=>none
  | .agg a,.agg b=>(X.E.ty t).bind fun ti=>(X.zero t).bind fun z=>let z:=xpF X.T 200 z;let a:=xpF X.T 200 a;let b:=xpF X.T 200 b;bif ti.eqOk&&Z2Z z a&&Z2Z z b then (match op with
    | .eql=>(Z11 a b).bind fun r=>ZJ (.bool r) k
    | .neq=>(Z11 a b).bind fun r=>ZJ (.bool (!r)) k
    | _=>none) else none
  | .sl _ xs,.nils=>(X.E.ty t).bind fun ti=>match ti.k,op with
    | .slice _,.eql=>bif xs.isEmpty then none else ZJ (.bool false) k
    | .slice _,.neq=>bif xs.isEmpty then none else ZJ (.bool true) k
    | _,_=>none
  | _,_=>none
def unK (op:UnOp) (x:TV S) (k:Z2q S R):Option R:=match x with
  | .int kd n=>match op with | .neg=>ZJ (.int kd (kd.wrap (0-n))) k|_=>none
  | .bool b=>match op with | .not=>ZJ (.bool (!b)) k|_=>none
  | _=>none
def ZbF (n:Nat) (x:TV S) (k:Nat→Option R):Option R:=match x with
  | .int _ i=>bif decide (0≤i)&&decide (i<n) then k i.toNat else none
  | _=>none
def Zh0 (c:Bool) (a b:Option (TV S)) (k:Z2q S R):Option R:=match a,b with
  | some (.bool x),some (.bool y)=>ZJ (.bool (bif c then x else y)) k
  | a,b=>bif c then a.bind fun v=>ZJ v k else b.bind fun v=>ZJ v k
def Zap (t:Ty) (h:Nat→Option (Zi S)):TV S→Option (List (Val S t))
  | .nils=>some []
  | .sl0=>some []
  | .sl t' xs=>if e:t'=t then some (e ▸ xs) else none
  | .rs id v=>(h id).bind fun | .row _ t' xs _ u=>bif Nat.beq u v then (if e:t'=t then some (e ▸ xs) else none) else none|_=>none
  | _=>none
def Z7S (X:Yb S) (fs:List (Nat×Nat)):List (Nat×TV S)→List (TV S)→Option (List (TV S))
  | [],cs=>some cs
  | (i,v)::ps,cs=>(fs[i]?).bind fun f=>(X.E.ty f.1).bind fun ti =>
      bif Nat.beq (wds X.T (Y6 v)) ti.size then (Z2L X.T cs f.2 (Y6 v)).bind fun cs=>Z7S X fs ps cs else none
def Z7R (X:Yb S) (t:Ty) (n:Nat):List (Nat×TV S)→(Nat→Val S t)→Option (Nat→Val S t)
  | [],a=>some a
  | (i,v)::ps,a=>(Z5x X.T t v).bind fun x=>bif Nat.blt i n then Z7R X t n ps (fun j=>bif Nat.beq j i then x else a j) else none
def Z8Q (ρ:Nat→Option (TV S)):List (Nat×Operand)→Option (List (Nat×TV S))
  | []=>some []
  | (i,x)::ps=>(ZO ρ x).bind fun v=>(Z8Q ρ ps).bind fun vs=>some ((i,v)::vs)
def Ze7 (X:Yb S) (h:Nat→Option (Zi S)) (t:Ty):Nat→List (Nat×TV S)→Option (List (Val S t))
  | _,[]=>some []
  | k,(i,v)::ps=>bif Nat.beq i k&&Nat.beq (wds X.T (Y6 v)) (tsz X.T t) then (Z1M h (Y6 v)).bind fun c=>(Z6G X.T t c).bind fun x=>(Ze7 X h t (k+1) ps).bind fun r=>some (x::r) else none
def Zf5 (T:TS S):TV S→Nat→Option (TV S)
  | .ptr id off,n=>some (.ptr id (off+n))
  | .ap id b i e off,n=>some (.ap id b i e (off+n))
  | .rptr id v i e off,n=>some (.rptr id v i e (off+n))
  | .pub cs,n=>(Z8i T cs n).bind fun r=>some (.pub r)
  | _,_=>none
def Z88 (T:TS S) (cs:List (TV S)) (base:Nat):Option ((t:Ty)×Nat×(Nat→Val S t)):=(Z8i T cs base).bind fun r=>match hdF T 10 r with
  | .arr t n a::_=>some ⟨t,n,a⟩
  | _=>none
def Zao (T:TS S) (cs:List (TV S)) (base:Nat):Option (List TypeId×Nat×Nat×(Nat→Nat)):=(Z8i T cs base).bind fun r=>match hdF T 10 r with
  | .earr ts pid n a::_=>some (ts,pid,n,a)
  | _=>none
def Zgl (pid m:Nat):List TypeId→Nat→Z2q S R→Option R
  | [],_,_=>none
  | t::ts,j,k=>bif Nat.beq m j then ZJ (.iface t (.agg [.ptr pid 0])) k else Zgl pid m ts (j+1) k
def enK (ts:List TypeId) (pid m:Nat) (k:Z2q S R):Option R:=bif Nat.beq m 0 then ZJ .nilif k else Zgl pid m ts 1 k
def Zgs (t:TypeId):List TypeId→Nat→Option Nat
  | [],_=>none
  | u::ts,j=>bif Nat.beq u t then some j else Zgs t ts (j+1)
def Zh8 (ts:List TypeId) (pid:Nat):TV S→Option Nat
  | .nilif=>some 0
  | .iface t (.agg [.ptr p 0])=>bif Nat.beq p pid then Zgs t ts 1 else none
  | _=>none
def ZdS (X:Yb S) (ti:TI) (h:Nat→Option (Zi S)) (a:TV S) (k:Z2q S R):Option R:=match a with
  | .ptr id off=>(h id).bind fun | .cells _ cs=>(Z8O X.T ti cs off).bind fun v=>ZJ v k|_=>none
  | .ap id base i e off=>(h id).bind fun
    | .cells _ cs=>(match Zao X.T cs base with
      | some (ts,pid,n,a)=>bif Nat.beq e 1&&Nat.beq off 0 && !ti.isAgg then (bif Nat.blt i n then enK ts pid (a i) k else none) else none
      | none=>(Z88 X.T cs base).bind fun A=>bif Nat.beq e (tsz X.T A.1) then (bif Nat.blt i A.2.1 then (Z8O X.T ti (tcl X.T A.1 (A.2.2 i)) off).bind fun v=>ZJ v k else none) else none)
    | _=>none
  | .rptr id v i e off=>(h id).bind fun
    | .row _ t xs _ u=>bif Nat.beq u v&&Nat.beq (tsz X.T t) e then (bif Nat.blt i xs.length then (Z8O X.T ti (tcl X.T t (xs.getD i (tdf X.T t))) off).bind fun v=>ZJ v k else none) else none
    | _=>none
  | .pub cs=>(Z8O X.T ti cs 0).bind fun v=>ZJ v k
  | _=>none
def Zdl (X:Yb S) (ti:TI) (h:Nat→Option (Zi S)) (a v:TV S) (k:Z2q S R):Option R :=
  bif Nat.beq (wds X.T (Y6 v)) ti.size&&(Y6 v).all Z7V then
    match a with
    | .ptr id off=>(h id).bind fun
      | .cells t cs=>(Z2L X.T cs off (Y6 v)).bind fun cs=>k ⟨some (.tup []),[(id,some (.cells t (Z9S X t cs)))]⟩
      | _=>none
    | .ap id base i e off=>(h id).bind fun
      | .cells t cs=>(match Zao X.T cs base with
       | some (ts,pid,n,a)=>bif Nat.beq e 1&&Nat.beq off 0 then (bif Nat.blt i n then (Zh8 ts pid v).bind fun m =>
          (Z2L X.T cs base [.earr ts pid n (fun j=>bif Nat.beq j i then m else a j)]).bind fun cs=>k ⟨some (.tup []),[(id,some (.cells t cs))]⟩ else none) else none
       | none=>(Z88 X.T cs base).bind fun A=>bif Nat.beq e (tsz X.T A.1) then (bif Nat.blt i A.2.1 then
          (Z2L X.T (tcl X.T A.1 (A.2.2 i)) off (Y6 v)).bind fun c=>(Z6G X.T A.1 c).bind fun x =>
          (Z2L X.T cs base [.arr A.1 A.2.1 (fun j=>bif Nat.beq j i then x else A.2.2 j)]).bind fun cs=>k ⟨some (.tup []),[(id,some (.cells t (Z9S X t cs)))]⟩ else none) else none)
      | _=>none
    | .rptr id ver i e off=>(h id).bind fun
      | .row et t xs p u=>bif Nat.beq u ver&&Nat.beq (tsz X.T t) e&&Nat.beq p 0&&YB (Y6 v) then (bif Nat.blt i xs.length then
          (Z2L X.T (tcl X.T t (xs.getD i (tdf X.T t))) off (Y6 v)).bind fun c=>(Z6G X.T t c).bind fun x =>
            k ⟨some (.tup []),[(id,some (.row et t (xs.set i x) p u))]⟩ else none) else none
      | _=>none
    | _=>none
  else none
def ZfE:TV S→TV S→Option (TV S)
  | .int k x,.int _ y=>some (.int k (bif decide (y<x) then y else x))
  | _,_=>none
def ZfC:TV S→TV S→Option (TV S)
  | .int k x,.int _ y=>some (.int k (bif decide (y>x) then y else x))
  | _,_=>none
def Zbv (f:TV S→TV S→Option (TV S)):TV S→List (TV S)→Option (TV S)
  | x,[]=>some x
  | x,y::ys=>(f x y).bind fun z=>Zbv f z ys
def Zhc (k:TK) (h:Nat→Option (Zi S)) (d:TV S):Option (TV S) :=
  match k,d with
  | .string,.str s=>some (.int .i64 (s.size:Nat))
  | .map _ _,.nilmap=>some (.int .i64 0)
  | .map _ _,.map id=>(h id).bind fun | .map _ _ m=>some (.int .i64 (m.length:Nat))|_=>none
  | .slice _,.nils=>some (.int .i64 0)
  | .slice _,.sl0=>some (.int .i64 0)
  | .slice _,.slen n=>some (.int .i64 (n:Nat))
  | .slice _,.sl _ xs=>some (.int .i64 (xs.length:Nat))
  | .slice _,.rs id v=>(h id).bind fun | .row _ _ xs _ u=>bif Nat.beq u v then some (.int .i64 (xs.length:Nat)) else none|_=>none
  | .array n _,_=>some (.int .i64 (n:Nat))
  | _,_=>none
def Zag (X:Yb S) (nid:Nat) (h:Nat→Option (Zi S)) (t:TypeId) (s x:TV S) (k:Z2q S R):Option R :=
  (X.E.ty t).bind fun ti=>match ti.k with
  | .slice e=>(X.E.ty e).bind fun ei=>(X.code e).bind fun te=>(Zap te h x).bind fun xs=>bif Nat.blt 0 ei.size&&Nat.ble ei.bytes 100000000000 then (match s with
    | .nils=>(match xs with
      | []=>ZJ .nils k
      | y::ys=>bif Nat.ble ((y::ys).length*(ei.bytes+1)) 200000000000000 then k ⟨some (.rs nid 0),[(nid,some (.row e te (y::ys) 0 0))]⟩ else none)
    | .rs id v=>(h id).bind fun
      | .row e' te' es p u=>bif Nat.beq u v&&Nat.beq e' e then (if q:te'=te then (bif Nat.ble ((es.length+xs.length)*(ei.bytes+1)) 200000000000000 then
          k ⟨some (.rs id (v+1)),[(id,some (.row e te ((q ▸ es:List (Val S te))++xs) p (v+1)))]⟩ else none) else none) else none
      | _=>none
    | _=>none) else none
  | _=>none
def Z8K {α β:Type} (e:α→α→Bool) (k:α):List (α×β)→Option β
  | []=>none
  | (k',v)::m=>bif e k k' then some v else Z8K e k m
def ZgG {α β:Type} (e:α→α→Bool) (k:α) (v:β):List (α×β)→List (α×β)
  | []=>[(k,v)]
  | (k',v')::m=>bif e k k' then (k,v)::m else (k',v')::ZgG e k v m
def Z4r (d:Option (TV S)) (dflt y:Nat) (k:Nat→Option R):Option R:=match d with
  | none=>k dflt
  | some (.int _ i)=>bif decide (0≤i)&&decide (i≤y) then k i.toNat else none
  | _=>none
def zeroT (X:Yb S) (t:TypeId) (ti:TI):Option (TV S):=(X.zero t).bind fun z=>bif ti.isAgg then some (.agg z) else match z with
  | [c]=>bif ZQ c then none else some c
  | _=>none
def ZgJ (ρ:Nat→Option (TV S)):Option Operand→Option (Option (TV S))
  | none=>some none
  | some x=>(ZO ρ x).bind fun v=>some (some v)
def Z6j (T:TS S) (ki:TI) (z:Option (List (TV S))):(t:Ty)→Val S t→Bool:=fun t x=>match ki.k,t,x with
  | .int _,.int _,_ | .string,.str,_ | .bool,.bool,_=>true
  | .struct _,.st i,x=>ki.eqOk&&ki.keyOk&&(match z with|some z=>Z2Z (xpF T 200 z) (xpF T 200 [.stc i x])|none=>false)
  | _,_,_=>false
def Z6e (h:Nat→Option (Zi S)):TV S→Bool
  | .rs id _=>(match h id with|some (.row _ _ _ p _)=>Nat.beq p 0|_=>false)
  | _=>false
def Zh2 (e:Nat) (d:TV S) (l hh:Nat) (k:Z2q S R):Option R:=match d with
  | .rs id v=>ZJ (.rv id v l (hh-l) e) k
  | _=>none
def ZdM:TV S→Bool
  | .rv _ _ _ _ _=>true
  | _=>false
mutual
def Zeh:TV S→Option (TV S)
  | .bool b=>some (.bool b)
  | .int k n=>some (.int k n)
  | .str s=>some (.str s)
  | .sl0=>some (.slen 0)
  | .sl _ xs=>some (.slen xs.length)
  | .tup vs=>(Zb8 vs).bind fun vs=>some (.tup vs)
  | _=>none
def Zb8:List (TV S)→Option (List (TV S))
  | []=>some []
  | d::ds=>(Zeh d).bind fun d=>(Zb8 ds).bind fun ds=>some (d::ds)
end
def opK (X:Yb S) (nid:Nat) (ρ:Nat→Option (TV S)) (h:Nat→Option (Zi S)) (op:Op) (k:Z2q S R):Option R :=
  match op with
  | .move x=>(ZO ρ x).bind fun v=>ZJ v k
  | .assign x=>(ZO ρ x).bind fun v=>ZJ v k
  | .pick c a b=>(ZO ρ c).bind fun
    | .bool c=>Zh0 c (ZO ρ a) (ZO ρ b) k
    | _=>none
  | .alloc t=>(X.E.ty t).bind fun _=>(X.zero t).bind fun z=>k ⟨some (.ptr nid 0),[(nid,some (.cells t (Z9S X t (Z8W nid z))))]⟩
  | .box t x=>(ZO ρ x).bind fun v=>bif (Y6 v).all Z7V then k ⟨some (.ptr nid 0),[(nid,some (.cells t (Z9S X t (Z8W nid (Y6 v)))))]⟩ else none
  | .build t ps=>(X.E.ty t).bind fun ti=>(Z8Q ρ ps.toList).bind fun vs=>(X.zero t).bind fun z=>match ti.k with
    | .struct fs=>(Z7S X fs vs z).bind fun cs=>ZJ (.agg cs) k
    | .array _ e=>(X.E.ty e).bind fun _=>(X.code e).bind fun te=>(match z with
      | [.arr te' n a]=>if q:te'=te then (Z7R X te n vs (q ▸ a)).bind fun a=>ZJ (.agg [.arr te n a]) k else none
      | _=>none)
    | _=>none
  | .buildSlice t n ps=>(X.E.ty t).bind fun ti=>match ti.k with
    | .slice e=>(X.E.ty e).bind fun ei=>(X.code e).bind fun te=>(Z8Q ρ ps.toList).bind fun vs=>(Ze7 X h te 0 vs).bind fun es =>
        bif Nat.beq es.length n&&Nat.ble (n*ei.size) 1048576&&Nat.blt 0 ei.size then k ⟨some (.rs nid 0),(nid,some (.row e te es 0 0))::Z5v h (Yk (vs.map (·.2)))⟩ else none
    | _=>none
  | .load t a=>(X.E.ty t).bind fun ti=>(ZO ρ a).bind fun a=>ZdS X ti h a k
  | .store t a x=>(X.E.ty t).bind fun ti=>(ZO ρ a).bind fun a=>(ZO ρ x).bind fun v=>Zdl X ti h a v k
  | .nilCheck x=>(ZO ρ x).bind fun
    | .ptr i o=>ZJ (.ptr i o) k
    | .ap i b j e o=>ZJ (.ap i b j e o) k
    | .rptr i v j e o=>ZJ (.rptr i v j e o) k
    | .pub cs=>ZJ (.pub cs) k
    | _=>none
  | .binOp op t x y _=>(ZO ρ x).bind fun x=>(ZO ρ y).bind fun y=>Zh7 X op t x y k
  | .unOp op _ x=>(ZO ρ x).bind fun x=>unK op x k
  | .convert s d x=>(X.E.ty s).bind fun _=>(X.E.ty d).bind fun ti=>(ZO ρ x).bind fun x=>match ti.k,x with
    | .int kd,.int _ n=>ZJ (.int kd (kd.wrap n)) k
    | .string,.str s=>ZJ (.str s) k
    | _,_=>none
  | .makeFunc f a c=>(Z2v ρ a.toList).bind fun a=>(Z2v ρ c.toList).bind fun c=>ZJ (.fn f a c) k
  | .makeMap t none=>(X.E.ty t).bind fun ti=>match ti.k with
    | .map kt e=>(X.code kt).bind fun kt=>(X.code e).bind fun et=>k ⟨some (.map nid),[(nid,some (.map kt et []))]⟩
    | _=>none
  | .slice t x lo hi none=>(X.E.ty t).bind fun ti=>(ZO ρ x).bind fun x=>(ZgJ ρ lo).bind fun lo=>(ZgJ ρ hi).bind fun hi=>match ti.k,x with
    | .string,.str s=>Z4r hi s.size s.size fun h=>Z4r lo 0 h fun l=>ZJ (.str (s.extract l h)) k
    | .array n e,.ptr id off=>(X.E.ty e).bind fun ei=>(h id).bind fun
      | .cells _ cs=>(Z88 X.T cs off).bind fun A=>bif Nat.beq A.2.1 n&&Nat.beq (tsz X.T A.1) ei.size&&Nat.blt 0 ei.size then
          Z4r hi n n fun hh=>Z4r lo 0 hh fun l=>k ⟨some (.sl A.1 ((((List.range n).map A.2.2).take hh).drop l)),[(id,none)]⟩ else none
      | _=>none
    | .slice e,d=>(X.E.ty e).bind fun ei=>(X.code e).bind fun te=>(Zap te h d).bind fun es=>bif Nat.blt 0 ei.size then
        Z4r hi es.length es.length fun hh=>Z4r lo 0 hh fun l=>bif ti.view&&Z6e h d then Zh2 ei.size d l hh k else k ⟨some (.sl te ((es.take hh).drop l)),Z5v h (ZW d)⟩ else none
    | _,_=>none
  | .fieldAddr s x f=>(X.E.ty s).bind fun ti=>(ZO ρ x).bind fun x=>match ti.k with
    | .struct fs=>(fs[f]?).bind fun f=>(X.E.ty f.1).bind fun fi=>bif Nat.blt 0 fi.size then (Zf5 X.T x f.2).bind fun v=>ZJ v k else none
    | _=>none
  | .field s x f=>(X.E.ty s).bind fun ti=>(ZO ρ x).bind fun x=>match ti.k,x with
    | .struct fs,.agg cs=>(fs[f]?).bind fun f=>(X.E.ty f.1).bind fun fi=>(Z8O X.T fi cs f.2).bind fun v=>ZJ v k
    | _,_=>none
  | .indexAddr t x i=>(X.E.ty t).bind fun ti=>(ZO ρ x).bind fun x=>(ZO ρ i).bind fun i=>match ti.k with
    | .array len e=>(X.E.ty e).bind fun ei=>(match x with
      | .ptr id o=>ZbF len i fun i=>bif Nat.blt 0 len then ZJ (.ap id o i ei.size 0) k else none
      | .pub cs=>(match hdF X.T 10 cs with
       | .arr t n a::cs=>bif Nat.beq n len&&Nat.beq (tsz X.T t) ei.size then ZbF len i fun i=>ZJ (.pub (tcl X.T t (a i) ++ .arr t (n-(i+1)) (fun m=>a (i+1+m))::cs)) k else none
       | _=>none)
      | _=>none)
    | .slice e=>(X.E.ty e).bind fun ei=>(match x with
      | .sl te xs=>bif Nat.beq (tsz X.T te) ei.size&&Nat.blt 0 ei.size then ZbF xs.length i fun i=>ZJ (.pub (tcl X.T te (xs.getD i (tdf X.T te)))) k else none
      | .rs id v=>(h id).bind fun
        | .row _ _ xs _ u=>bif Nat.beq u v&&Nat.blt 0 ei.size then ZbF xs.length i fun i=>ZJ (.rptr id v i ei.size 0) k else none
        | _=>none
      | _=>none)
    | _=>none
  | .index t x i=>(X.E.ty t).bind fun ti=>(ZO ρ x).bind fun x=>(ZO ρ i).bind fun i=>match ti.k,x with
    | .array len e,.agg [.arr te n a]=>(X.E.ty e).bind fun ei=>bif Nat.beq n len&&Nat.beq (tsz X.T te) ei.size&&(ei.isAgg==YO te) then ZbF len i fun i=>ZJ (Z7i X.T te (a i)) k else none
    | .string,.str s=>ZbF s.size i fun i=>ZJ (.int .u8 (s.toList.getD i 0).toNat) k
    | _,_=>none
  | .lookup t m kx ok=>(X.E.ty t).bind fun ti=>(ZO ρ m).bind fun m=>(ZO ρ kx).bind fun kv=>match ti.k,m with
    | .map kt e,.map id=>(X.E.ty e).bind fun ei=>(X.E.ty kt).bind fun ki=>(X.zero e).bind fun z=>(h id).bind fun
      | .map kc ec es=>(Z5x X.T kc kv).bind fun key=>bif Z6j X.T ki (X.zero kt) kc key&&Nat.beq ei.size 1 && !ei.isAgg && !YO ec then (Z6G X.T ec z).bind fun zv=>(Z8D X.T kc).bind fun eq =>
          ZJ (bif ok then .tup [Z7i X.T ec ((Z8K eq key es).getD zv),.bool (Z8K eq key es).isSome] else Z7i X.T ec ((Z8K eq key es).getD zv)) k else none
      | _=>none
    | _,_=>none
  | .mapUpdate t m kx v=>(X.E.ty t).bind fun ti=>(ZO ρ m).bind fun m=>(ZO ρ kx).bind fun kv=>(ZO ρ v).bind fun v=>match ti.k,m with
    | .map kt _,.map id=>(X.E.ty kt).bind fun ki=>(h id).bind fun
      | .map kc ec es=>(Z5x X.T kc kv).bind fun key=>bif Z6j X.T ki (X.zero kt) kc key && !YO ec then (Z3w (S:=S) ec).bind fun _=>(Z5x X.T ec v).bind fun x=>(Z8D X.T kc).bind fun eq =>
          k ⟨some (.tup []),[(id,some (.map kc ec (ZgG eq key x es)))]⟩ else none
      | _=>none
    | _,_=>none
  | .makeInterface t x=>(X.E.ty t).bind fun ti=>(ZO ρ x).bind fun v=>bif ZQ v then none else match ti.k with
    | .iface=>none
    | _=>ZJ (.iface t v) k
  | .typeAssert x _ t ok=>(X.E.ty t).bind fun ti=>(ZO ρ x).bind fun x=>match ti.k,x with
    | .iface,_=>none
    | _,.nilif=>bif ok then (zeroT X t ti).bind fun z=>ZJ (.tup [z,.bool false]) k else none
    | _,.iface t' v=>bif Nat.beq t' t then ZJ (bif ok then .tup [v,.bool true] else v) k else bif ok then (zeroT X t ti).bind fun z=>ZJ (.tup [z,.bool false]) k else none
    | _,_=>none
  | .makeSlice t l c=>(X.E.ty t).bind fun ti=>(ZO ρ l).bind fun l=>(ZO ρ c).bind fun c=>match ti.k,l,c with
    | .slice e,.int _ n,.int _ n'=>(X.E.ty e).bind fun ei=>(X.code e).bind fun te=>(X.zero e).bind fun z=>(Z6G X.T te z).bind fun zv=>bif n==n'&&decide (0≤n)&&Nat.ble (n.toNat*(ei.bytes+1)) 200000000000000&&Nat.blt 0 ei.size then
        k ⟨some (.rs nid 0),[(nid,some (.row e te (List.replicate n.toNat zv) 0 0))]⟩ else none
    | _,_,_=>none
  | .range t x=>(X.E.ty t).bind fun ti=>(ZO ρ x).bind fun x=>match ti.k,x with
    | .string,.str s=>k ⟨some (.iter nid),[(nid,some (.siter s 0))]⟩
    | _,_=>none
  | .next it true=>(ZO ρ it).bind fun
    | .iter id=>(h id).bind fun
      | .siter s pos=>bif decide (pos<s.size) then
          k ⟨some (.tup [.bool true,.int .i64 (pos:Nat),.int .i32 (Utf8.decode s pos).1]),[(id,some (.siter s (pos+(Utf8.decode s pos).2)))]⟩
        else ZJ (.tup [.bool false]) k
      | _=>none
    | _=>none
  | .extract t i=>(ZO ρ t).bind fun
    | .tup vs=>(vs[i]?).bind fun v=>ZJ v k
    | _=>none
  | .call c=>match c.callee with
    | .builtin .len=>(match c.args.toList,c.argTypes.toList with
      | [x],t::_=>(X.E.ty t).bind fun ti=>(ZO ρ x).bind fun x=>(Zhc ti.k h x).bind fun v=>ZJ v k
      | _,_=>none)
    | .builtin .append=>(match c.args.toList,c.argTypes.toList with
      | [s,x],[t,t']=>bif Nat.beq t t' then (ZO ρ s).bind fun s=>(ZO ρ x).bind fun x=>Zag X nid h t s x k else none
      | _,_=>none)
    | .builtin .min=>(Z2v ρ c.args.toList).bind fun vs=>(match vs with|x::xs=>(Zbv ZfE x xs).bind fun v=>ZJ v k|[]=>none)
    | .builtin .max=>(Z2v ρ c.args.toList).bind fun vs=>(match vs with|x::xs=>(Zbv ZfC x xs).bind fun v=>ZJ v k|[]=>none)
    | _=>none
  | _=>none
def Zb6 (E:Env) (ρ:Nat→Option (TV S)) (c:Call):Option (TV S×List (TV S)) :=
  match c.callee with
  | .value f=>(ZO ρ f).bind fun
    | .fn (.func g) first caps=>(Z2v ρ c.args.toList).bind fun as=>some (.fn (.func g) [] [],first++as++caps)
    | .yld id=>(Z2v ρ c.args.toList).bind fun as=>some (.yld id,as)
    | _=>none
  | .invoke r m=>(ZO ρ r).bind fun
    | .iface t v=>(E.ty t).bind fun ti=>(Z70 m ti.meths).bind fun g=>(Z2v ρ c.args.toList).bind fun as=>some (.fn (.func g) [] [],v::as)
    | _=>none
  | _=>none
def ZdY (E:Env):TV S×List (TV S)→Bool
  | (.fn (.func g) _ _,_)=>match E.fn g with
    | some F=>F.pur
    | none=>false
  | _=>false
structure Z3x (S:Nat→Type) (R:Type) where
  fn:Nat→List (TV S)→(TV S→Option R)→Option R
  /-- calls on the heap whose numbers begin just above those that they can see -/
  pr:Nat→List (TV S)→Tr (Zi S)→Nat→(TV S→Tr (Zi S)→Nat→Option R)→Option R
def ZbA (E:Env) (h:Nat→Option (Zi S)):TV S→Option (TV S)
  | .rv id v i n e=>(h id).bind fun
    | .row t te xs _ u=>bif Nat.beq u v&&Nat.beq (match E.ty t with|some ti=>ti.size|none=>0) e then some (.sl te ((xs.drop i).take n)) else none
    | _=>none
  | d=>Yx h d
def Z6S (E:Env) (h:Nat→Option (Zi S)):List (TV S)→Option (List (TV S))
  | []=>some []
  | d::ds=>(ZbA E h d).bind fun c=>(Z6S E h ds).bind fun cs=>some (c::cs)
def ZgW (E:Env) (cs:Z3x S R) (h:Nat→Option (Zi S)) (tgt:TV S×List (TV S)) (k:Z2q S R):Option R:=match tgt with
  | (.fn (.func g) _ _,as)=>(Z6S E h as).bind fun fs=>cs.fn g fs fun r=>bif as.any ZdM then (Zeh r).bind fun r=>ZJ r k else k ⟨some r,Z5v h (Yk as)⟩
  | _=>none
def Zee (X:Yb S) (cs:Z3x S R) (nid:Nat) (ρ:Nat→Option (TV S)) (h:Nat→Option (Zi S)) (op:Op) (k:Z2q S R) (ki:TV S×List (TV S)→Option R):Option R :=
  match Z3s op with
  | none=>opK X nid ρ h op k
  | some c=>(Zb6 X.E ρ c).bind fun tgt=>bif ZdY X.E tgt then ZgW X.E cs h tgt k else ki tgt
structure StT (S:Nat→Type) where
  base:Tr (TV S)
  objs:Tr (Zi S)
  next:Nat
structure Z2b (S:Nat→Type) where
  base:Tr (TV S)
  loc:List (Nat×Option (TV S))
  objs:Tr (Zi S)
  next:Nat
def Z8s (l:List (Nat×Option (TV S))) (t:Nat):Option (Option (TV S)):=match l with
  | []=>none
  | (s,v)::l=>bif Nat.beq s t then some v else Z8s l t
def Z1m (V:Nat) (base:Tr (TV S)) (loc:List (Nat×Option (TV S))) (t:Nat):Option (TV S) :=
  bif Nat.testBit V t then base.get t else (match Z8s loc t with|some v=>v|none=>none)
def Z4j (o:Tr (Zi S)):List (Nat×Option (Zi S))→Tr (Zi S)
  | []=>o
  | (i,x)::us=>Z4j (o.set i x) us
def Z2b.put (V nt:Nat) (m:Z2b S) (dst:Option Tmp) (v:Option (TV S)):Z2b S :=
  match dst with
  | none=>m
  | some d=>bif !Nat.blt d nt then m else bif Nat.testBit V d then { m with base:=m.base.set d v } else { m with loc:=(d,v)::m.loc }
def knF (kn:List (Nat×Bool)) (t:Nat):Option Bool:=match kn with
  | []=>none
  | (s,b)::l=>bif Nat.beq s t then some b else knF l t
def Z4B (kn:List (Nat×Bool)) (dst:Option Tmp):List (Nat×Bool):=match dst with
  | none=>kn
  | some d=>kn.filter fun p => !Nat.beq p.1 d
def ovK (kn:List (Nat×Bool)) (t:Nat) (v:Option (TV S)):Option (TV S):=match kn with
  | []=>v
  | _=>match v with
    | some (.bool b)=>(match knF kn t with|some b0=>some (.bool b0)|none=>some (.bool b))
    | v=>v
def Zeg (ops:Array Oper) (ρ:Nat→Option (TV S)) (o:Oper) (kn:List (Nat×Bool)) (f:Bool→List (Nat×Bool)→Option R):Option R :=
  match o.guard with
  | none=>f true kn
  | some (j,want)=>match (ops[j]?).bind (·.dst) with
    | some t=>(match ρ t with
      | some (.bool b)=>bif b then f (true==want) ((t,true)::kn) else f (false==want) ((t,false)::kn)
      | some _=>f false kn
      | none=>none)
    | none=>none
abbrev Z2o (S:Nat→Type) (R:Type):=List Nat→Nat→List (TV S)→Tr (Zi S)→Nat→(TV S→Tr (Zi S)→Nat→Option R)→Option R
section strict
variable {α β:Type}
def sN (n:Nat) (k:Nat→α):α:=match n with
  | 0=>k 0
  | m+1=>k (m+1)
mutual
def sV:TV S→(TV S→α)→α
  | .ptr i o,k=>sN i fun i=>sN o fun o=>k (.ptr i o)
  | .ap i b j e o,k=>sN i fun i=>sN b fun b=>sN e fun e=>sN o fun o=>k (.ap i b j e o)
  | .rptr i v j e o,k=>sN i fun i=>sN v fun v=>sN e fun e=>sN o fun o=>k (.rptr i v j e o)
  | .pub cs,k=>sVs cs fun cs=>k (.pub cs)
  | .rs i v,k=>sN i fun i=>sN v fun v=>k (.rs i v)
  | .rv i v j n e,k=>sN i fun i=>sN v fun v=>k (.rv i v j n e)
  | .slen n,k=>k (.slen n)
  | .agg cs,k=>sVs cs fun cs=>k (.agg cs)
  | .tup cs,k=>sVs cs fun cs=>k (.tup cs)
  | .fn f a c,k=>sVs a fun a=>sVs c fun c=>k (.fn f a c)
  | .map i,k=>sN i fun i=>k (.map i)
  | .iface t v,k=>sV v fun v=>k (.iface t v)
  | .iter i,k=>sN i fun i=>k (.iter i)
  | .yld i,k=>sN i fun i=>k (.yld i)
  | .bool b,k=>k (.bool b)
  | .int d n,k=>k (.int d n)
  | .str b,k=>k (.str b)
  | .nilp,k=>k .nilp
  | .nils,k=>k .nils
  | .sl0,k=>k .sl0
  | .sl t xs,k=>k (.sl t xs)
  | .arr t n a,k=>k (.arr t n a)
  | .stc i x,k=>k (.stc i x)
  | .earr ts p n a,k=>sN p fun p=>k (.earr ts p n a)
  | .narr ts n,k=>k (.narr ts n)
  | .nilfn,k=>k .nilfn
  | .nilmap,k=>k .nilmap
  | .nilif,k=>k .nilif
def sVs:List (TV S)→(List (TV S)→α)→α
  | [],k=>k []
  | c::cs,k=>sV c fun c=>sVs cs fun cs=>k (c::cs)
end
def sNs:List Nat→(List Nat→α)→α
  | [],k=>k []
  | i::is,k=>sN i fun i=>sNs is fun is=>k (i::is)
def sTr (f:β→(β→α)→α):Tr β→(Tr β→α)→α
  | .leaf,k=>k .leaf
  | .node l v r,k=>sTr f l fun l=>(match v with
    | none=>sTr f r fun r=>k (.node l none r)
    | some x=>f x fun x=>sTr f r fun r=>k (.node l (some x) r))
def sO:Zi S→(Zi S→α)→α
  | .cells t cs,k=>sVs cs fun cs=>k (.cells t cs)
  | .row e t xs p v,k=>sN v fun v=>k (.row e t xs p v)
  | .map a b m,k=>k (.map a b m)
  | .siter s p,k=>k (.siter s p)
  | .loop f b ps as bo bid ex pa po,k=>sTr sV b fun b=>k (.loop f b ps as bo bid ex pa po)
def sSt (s:StT S) (k:StT S→α):α:=sTr sV s.base fun b=>sTr sO s.objs fun o=>sN s.next fun n=>k ⟨b,o,n⟩
end strict
mutual
def Z1L:TV S→List Nat
  | .ptr i _ | .ap i _ _ _ _ | .rptr i _ _ _ _ | .rs i _ | .rv i _ _ _ _ | .map i | .iter i | .yld i=>[i]
  | .agg cs=>Z2A cs
  | .tup cs=>Z2A cs
  | .fn _ a b=>Z2A a++Z2A b
  | _=>[]
def Z2A:List (TV S)→List Nat
  | []=>[]
  | c::cs=>Z1L c++Z2A cs
end
def ZfU:Zi S→List Nat
  | .cells _ cs=>Z2A cs
  | .loop _ b _ _ _ _ _ _ _=>(b.ents 1 0).flatMap fun p=>Z1L p.2
  | _=>[]
def Z1V (h:Nat→Option (Zi S)):Nat→List Nat→List Nat→List Nat
  | 0,_,acc=>acc
  | _+1,[],acc=>acc
  | n+1,i::todo,acc=>bif acc.any (Nat.beq i) then Z1V h n todo acc else match h i with
    | some o=>Z1V h n (ZfU o++todo) (i::acc)
    | none=>Z1V h n todo acc
def Z7f (h:Nat→Option (Zi S)):List Nat→Tr (Zi S)
  | [] => .leaf
  | i::is=>(Z7f h is).set i (h i)
def Zam (o:Tr (Zi S)) (R:List Nat) (nx:Nat):List (Nat×Option (Zi S)):=(R++((o.ents 1 0).map (·.1)).filter (Nat.ble nx)).map fun i=>(i,o.get i)
def Z2z (h:Nat→Option (Zi S)):TV S→TV S
  | .rs id v=>(match h id with
    | some (.row _ t xs p u)=>bif Nat.beq p 1&&Nat.beq u v then .sl t xs else .rs id v
    | _ => .rs id v)
  | d=>d
def Z5l (h:Nat→Option (Zi S)):TV S→TV S
  | .agg cs => .agg (cs.map (Z2z h))
  | d=>Z2z h d
def Zgh (run:Tr (Zi S)→(TV S→Tr (Zi S)→Nat→Option R)→Option R) (h:Nat→Option (Zi S)) (nx:Nat) (is Rs:List Nat) (k:Zaf S→List Nat→Nat→Option R):Option R :=
  sNs Rs fun Rs=>sTr sO (Z7f h Rs) fun o=>run o fun v o n=>bif Nat.ble nx n then k ⟨some v,Zam o Rs nx⟩ (is++Rs) n else none
def Z61 (callH callY:Z2o S R) (path:List Nat) (h:Nat→Option (Zi S)) (nx:Nat) (tgt:TV S×List (TV S)) (k:Zaf S→List Nat→Nat→Option R):Option R:=match tgt with
  | (.fn (.func g) _ _,as)=>sVs (as.map (Z5l h)) fun fs=>Zgh (fun o k=>callH path g fs o nx k) h nx (Yk as) (Z1V h 4096 (Z2A fs) []) k
  | (.yld id,as)=>sVs (as.map (Z5l h)) fun fs=>Zgh (fun o k=>callY path id fs o nx k) h nx (Yk as) (Z1V h 4096 (id::Z2A fs) []) k
  | _=>none
def ZeR (X:Yb S) (cs:Z3x S R) (callH callY:Z2o S R) (path:List Nat) (V nt:Nat) (ops:Array Oper) (b:Nat):Nat→List Oper→List (Nat×Bool)→Z2b S→(Z2b S→Option R)→Option R
  | _,[],_,m,kk=>kk m
  | k,o::os,kn,m,kk =>
    Zeg ops (fun t=>ovK kn t (Z1m V m.base m.loc t)) o kn fun want kn=>bif want then
      Zee X cs (b+k) (fun t=>ovK kn t (Z1m V m.base m.loc t)) m.objs.get o.op
        (fun r=>ZeR X cs callH callY path V nt ops b (k+1) os (Z4B kn o.dst) ({ m with objs:=Z4j m.objs r.upd }.put V nt o.dst r.val) kk)
        (fun tgt=>Z61 callH callY (k::path) m.objs.get m.next tgt fun x _ n=>ZeR X cs callH callY path V nt ops b (k+1) os (Z4B kn o.dst) ({ m with objs:=Z4j m.objs x.upd,next:=n }.put V nt o.dst x.val) kk)
    else ZeR X cs callH callY path V nt ops b (k+1) os (Z4B kn o.dst) (m.put V nt o.dst (some (.tup []))) kk
structure Z1f (S:Nat→Type) where
  dst:Option Tmp
  anc:Nat
  touch:List Nat
  out:Zaf S
  new:Option (Nat×Nat)
def Z9g (ρ:Nat→Option (TV S)) (op:Op):List Nat:=op.operands.toList.flatMap fun x=>match ZO ρ x with|some d=>Z1S d|none=>[]
def Z3o (anc:Nat) (ρ:Nat→Option (TV S)):List (Nat×Z1f S)→Nat→Option (TV S)
  | [],t=>ρ t
  | (j,d)::ds,t=>bif (match d.dst with|some s=>Nat.beq s t|none=>false) then (bif Nat.testBit anc j then d.out.val else none) else Z3o anc ρ ds t
def Z3g (id:Nat):List (Nat×Option (Zi S))→Option (Option (Zi S))
  | []=>none
  | (i,x)::us=>match Z3g id us with
    | some y=>some y
    | none=>bif Nat.beq i id then some x else none
def Z4a (anc:Nat) (h:Nat→Option (Zi S)):List (Nat×Z1f S)→Nat→Option (Zi S)
  | [],id=>h id
  | (j,d)::ds,id=>match Z3g id d.out.upd with
    | some x=>bif Nat.testBit anc j then x else none
    | none=>Z4a anc h ds id
def Z4o (ops:Array Oper) (ds:List (Nat×Z1f S)) (o:Oper) (k:Nat):Nat :=
  o.after.toList.foldl (fun m e=>bif Region.binds .any e&&Nat.blt e.on k then m ||| (1 <<< e.on) ||| ((ds.find? (fun d=>Nat.beq d.1 e.on)).map (·.2.anc)).getD 0 else m) 0
def Z44 (V nt:Nat):List (Nat×Z1f S)→Z2b S→Z2b S
  | [],m=>m
  | (_,d)::ds,m=>let m:=Z44 V nt ds m;{ m with objs:=Z4j m.objs d.out.upd }.put V nt d.dst d.out.val
def Z8h (X:Yb S) (cs:Z3x S R) (callH callY:Z2o S R) (path:List Nat) (V nt:Nat) (ops:Array Oper) (b:Nat):Nat→List Oper→List (Nat×Bool)→Z2b S→List (Nat×Z1f S)→(Z2b S→Option R)→Option R
  | _,[],_,m,ds,kk=>kk (Z44 V nt ds m)
  | k,o::os,kn,m,ds,kk =>
    let anc:=Z4o ops ds o k
    let ρ0:=Z3o anc (Z1m V m.base m.loc) ds
    let h:=Z4a anc m.objs.get ds
    bif o.after.all (fun e => !Region.binds .any e||Nat.blt e.on k)&&(match o.dst with|none=>true|some t=>Nat.blt t nt)&&ds.all (fun d=>Nat.testBit anc d.1||(match o.dst with
        | none=>true
        | some t => !((ops.getD d.1 o).looksAt ops).contains t && !(match d.2.dst with|some s=>Nat.beq s t|none=>false))) then
      Zeg ops (fun t=>ovK kn t (ρ0 t)) o kn fun want kn =>
        let ρ:=fun t=>ovK kn t (ρ0 t)
        bif want then
          Zee X cs (b+k) ρ h o.op
            (fun r=>bif r.upd.all (fun u=>ds.all (fun d=>Nat.testBit anc d.1 || !d.2.touch.contains u.1&&(Z3g u.1 d.2.out.upd).isNone)) then
              Z8h X cs callH callY path V nt ops b (k+1) os (Z4B kn o.dst) m ((k,⟨o.dst,anc,Z9g ρ o.op,r,none⟩)::ds) kk
            else none)
            (fun tgt=>Z61 callH callY (k::path) h m.next tgt fun x T n =>
              bif ds.all (fun d=>Nat.testBit anc d.1||d.2.new.isNone&&x.upd.all (fun u => !d.2.touch.contains u.1&&(Z3g u.1 d.2.out.upd).isNone)) then
                Z8h X cs callH callY path V nt ops b (k+1) os (Z4B kn o.dst) { m with next:=n } ((k,⟨o.dst,anc,T,x,some (m.next,n)⟩)::ds) kk
              else none)
        else Z8h X cs callH callY path V nt ops b (k+1) os (Z4B kn o.dst) m ((k,⟨o.dst,anc,[],⟨some (.tup []),[]⟩,none⟩)::ds) kk
    else none
def ZaN (X:Yb S) (cs:Z3x S R) (callH callY:Z2o S R) (path:List Nat) (V nt:Nat) (ops:Array Oper) (draw:Bool) (s:StT S) (kk:StT S→Option R):Option R :=
  bif draw then Z8h X cs callH callY path V nt ops s.next 0 ops.toList [] ⟨s.base,[],s.objs,s.next+ops.size⟩ [] fun m=>sSt ⟨m.base,m.objs,m.next⟩ kk
  else ZeR X cs callH callY path V nt ops s.next 0 ops.toList [] ⟨s.base,[],s.objs,s.next+ops.size⟩ fun m=>sSt ⟨m.base,m.objs,m.next⟩ kk
def Zhw:TV S→Bool
  | .arr _ _ _ | .stc _ _=>true
  | _=>false
def Zak (T:TS S) (cs:List (TV S)) (off:Nat):Option (Option (TV S)):=(Z8i T cs off).bind fun
  | []=>some none
  | c::_=>bif ZQ c then (bif Zhw c&&Nat.blt 0 (wd T c) then some (some (.bool false)) else none) else some (some c)
def Zga (T:TS S) (o:Tr (Zi S)) (b0:Tr (TV S)):Acc→Option (Option (Nat×Nat))
  | .slot t _=>(match b0.get t with
    | some (.rs id v)=>some (some (id,v))
    | _=>some none)
  | .cell t off _=>(match b0.get t with
    | some (.ptr q 0)=>(match o.get q with
      | some (.cells _ cs)=>(Zak T cs off).bind fun
        | some (.rs id v)=>some (some (id,v))
        | _=>some none
      | _=>some none)
    | some (.ap _ _ _ _ _)=>none
    | _=>some none)
def Zdv (T:TS S) (o:Tr (Zi S)) (b0:Tr (TV S)):List Acc→Option (List (Option (Nat×Nat)))
  | []=>some []
  | a::as=>(Zga T o b0 a).bind fun x=>(Zdv T o b0 as).bind fun xs=>some (x::xs)
mutual
def Z36 (n0:Nat) (L:List (Option (Nat×Nat))):TV S→Option (TV S)
  | .rs id v=>match Z5k id v 0 L with
    | some j=>some (.rs (n0+j) 0)
    | none=>bif Nat.blt id n0 && !Z32 id L then some (.rs id v) else none
  | .agg cs=>(Z7A n0 L cs).bind fun cs=>some (.agg cs)
  | .tup cs=>(Z7A n0 L cs).bind fun cs=>some (.tup cs)
  | d=>bif Z9q n0 d then some d else none
def Z7A (n0:Nat) (L:List (Option (Nat×Nat))):List (TV S)→Option (List (TV S))
  | []=>some []
  | c::cs=>(Z36 n0 L c).bind fun c=>(Z7A n0 L cs).bind fun cs=>some (c::cs)
end
def Z9Z (n0:Nat) (L:List (Option (Nat×Nat))):Zi S→Option (Zi S)
  | .cells t cs=>(Z7A n0 L cs).bind fun cs=>some (.cells t cs)
  | .loop fid b ps as bo bid ex pa po=>(b.tm (fun _ d=>(Z36 n0 L d).bind fun d=>some (some d)) 1 0).bind fun b=>some (.loop fid b ps as bo bid ex pa po)
  | o=>some o
def Z3z (o:Tr (Zi S)) (n0:Nat):Nat→List (Option (Nat×Nat))→Tr (Zi S)→Option (Tr (Zi S))
  | _,[],no=>some no
  | j,none::l,no=>Z3z o n0 (j+1) l no
  | j,some (id,v)::l,no=>(match o.get id with
    | some (.row e t es p u)=>bif Nat.beq u v then Z3z o n0 (j+1) l (no.set (n0+j) (some (.row e t es p 0))) else none
    | _=>none)
def YT (X:Yb S) (n0:Nat):Nat→List Acc→Tr (TV S)×Tr (Zi S)→Option (Tr (TV S)×Tr (Zi S))
  | _,[],r=>some r
  | j,.slot t e::as,(b,no)=>(match b.get t with
    | some .nils=>(X.E.ty e).bind fun ei=>(X.code e).bind fun te=>bif Nat.blt 0 ei.size&&(no.get (n0+j)).isNone then YT X n0 (j+1) as (b.set t (some (.rs (n0+j) 0)),no.set (n0+j) (some (.row e te [] 0 0))) else none
    | _=>YT X n0 (j+1) as (b,no))
  | j,.cell t off e::as,(b,no)=>(match b.get t with
    | some (.ptr q 0)=>(match no.get q with
      | some (.cells ct cs)=>(Zak X.T cs off).bind fun
        | some .nils=>(X.E.ty e).bind fun ei=>(X.code e).bind fun te=>(Z2L X.T cs off [.rs (n0+j) 0]).bind fun cs=>bif Nat.blt 0 ei.size&&(no.get (n0+j)).isNone then YT X n0 (j+1) as (b,(no.set q (some (.cells ct cs))).set (n0+j) (some (.row e te [] 0 0))) else none
        | _=>YT X n0 (j+1) as (b,no)
      | _=>YT X n0 (j+1) as (b,no))
    | some (.ap _ _ _ _ _)=>none
    | _=>YT X n0 (j+1) as (b,no))
mutual
def YG:TV S→List (Nat×Nat)
  | .rs id v=>[(id,v)]
  | .agg cs=>Z2w cs
  | .tup cs=>Z2w cs
  | .fn _ a b=>Z2w a++Z2w b
  | .iface _ v=>YG v
  | _=>[]
def Z2w:List (TV S)→List (Nat×Nat)
  | []=>[]
  | c::cs=>YG c++Z2w cs
end
def Zd8:Zi S→List (Nat×Nat)
  | .cells _ cs=>Z2w cs
  | .loop _ b _ _ _ _ _ _ _=>(b.ents 1 0).flatMap fun p=>YG p.2
  | _=>[]
def ZaX (o:Nat→Option (Zi S)) (p:Nat×Nat):Bool:=match o p.1 with
  | some (.row _ _ _ _ u)=>Nat.beq u p.2
  | _=>false
def Zau (o:Tr (Zi S)) (b:Tr (TV S)) (n0 keep:Nat) (A:List (Option (Nat×Nat))):List (Nat×Nat) :=
  Z7O (ZaX o.get) A (((o.ents 1 0).flatMap fun p=>bif Nat.blt p.1 n0 then Zd8 p.2 else [])++((b.ents 1 0).flatMap fun p=>bif Nat.testBit keep p.1 then YG p.2 else [])) []
def ZcX (X:Yb S) (hint:Z3P) (n0:Nat) (s:StT S):Option (StT S) :=
  (Zdv X.T s.objs s.base hint.accs).bind fun A =>
  let XL:=Zau s.objs s.base n0 hint.keep A
  let L:=XL.map some++A
  bif Zcs L then
    (s.base.tm (fun t d=>bif Nat.testBit hint.keep t then (Z36 n0 L d).bind fun d=>some (some d) else some none) 1 0).bind fun b =>
    (s.objs.tm (fun i x=>bif Nat.blt i n0 && !Z32 i L then (Z9Z n0 L x).bind fun x=>some (some x) else some none) 1 0).bind fun o =>
    (Z3z s.objs n0 0 L o).bind fun o=>(YT X n0 XL.length hint.accs (b,o)).bind fun r=>some ⟨r.1,r.2,n0+XL.length+hint.accs.length⟩
  else none
def ZdV (X:Yb S) (hint:Z3P) (n0:Nat) (s:StT S):Option (StT S) :=
  (ZcX X hint n0 s).bind fun s=>some (bif hint.raw then s else { s with objs:=s.objs.mapv Zfy })
def ZbH (rnd:Option Nat) (h:Nat→Option (Zi S)):Bool:=match rnd with
  | none=>true
  | some l=>(match h l with|some (.loop ..)=>true|_=>false)
def StT.keep (m:Nat) (s:StT S):StT S:={ s with base:=s.base.filt m 1 0 }
def StT.keepX (F:FI) (id:Nat) (s:StT S):StT S:=match F.xm.find? fun p=>Nat.beq p.1 id with
  | some p=>s.keep p.2
  | none=>s
def Code.kid:Code→Nat→Option Code
  | .seq x _,0=>some x
  | .seq _ y,1=>some y
  | .cond _ x _,0=>some x
  | .cond _ _ y,1=>some y
  | .block _ c,0=>some c
  | .loop c,0=>some c
  | .scope c,0=>some c
  | .rangeFunc _ _ a _,0=>some a
  | .rangeFunc _ _ _ b,1=>some b
  | _,_=>none
def Code.sub (c:Code):List Nat→Option Code
  | []=>some c
  | i::p=>(Code.sub c p).bind fun d=>Code.kid d i
structure Key where
  path:List Nat
  fid:Nat
  rnd:Option Nat
  pos:List Nat
  bid:Nat
  n0:Nat
abbrev Z2x (S:Nat→Type) (R:Type):=Key→StT S→(Ex→StT S→Option R)→Option R
def Z1i (X:Yb S) (cs:Z3x S R) (ls:Z2x S R) (rnd:Option Nat) (fid:Nat) (F:FI) (callH callY:Z2o S R) (path:List Nat):List Nat→Nat→Code→StT S→(Ex→StT S→Option R)→Option R
  | _,_,.skip,s,k=>k .normal s
  | _,_,.region id ops draw,s,k=>ZaN X cs callH callY (id::path) F.vmask F.nt ops draw s fun s=>k .normal s
  | pos,bid,.seq x y,s,k=>Z1i X cs ls rnd fid F callH callY path (0::pos) bid x s fun ex s=>match ex with
    | .normal=>Z1i X cs ls rnd fid F callH callY path (1::pos) bid y s k
    | _=>k ex s
  | pos,bid,.cond c x y,s,k=>(match ZO s.base.get c with
    | some (.bool t)=>bif t then Z1i X cs ls rnd fid F callH callY path (0::pos) bid x s k else Z1i X cs ls rnd fid F callH callY path (1::pos) bid y s k
    | _=>none)
  | pos,_,.block id c,s,k=>Z1i X cs ls rnd fid F callH callY path (0::pos) id c s fun ex s=>match ex with
    | .exit i=>bif Nat.beq i id then k .normal s else k ex s
    | _=>k ex s
  | pos,bid,.loop _,s,k=>(F.hints.find? fun h=>Nat.beq h.bid bid).bind fun hint=>(ZdV X hint s.next s).bind fun s1=>ls ⟨path,fid,rnd,0::pos,bid,s.next⟩ s1 k
  | _,_,.exit id,s,k=>k (.exit id) (s.keepX F id)
  | pos,bid,.scope c,s,k=>Z1i X cs ls rnd fid F callH callY path (0::pos) bid c s k
  | _,_,.label _,s,k=>k .normal s
  | _,_,.ret,s,k=>k .ret (s.keep F.rm)
  | pos,bid,.rangeFunc f ps assign body,s0,k=>bif ZbH rnd s0.objs.get then Option.bind (match (F.hints.find? fun h=>Nat.beq h.bid bid:Option Z3P) with
      | some hint=>(YT X s0.next 0 hint.accs (s0.base,s0.objs)).bind fun r=>some (StT.mk r.1 r.2 (s0.next+hint.accs.length))
      | none=>some s0) fun (s:StT S)=>(ZO s.base.get f).bind fun fv=>(match fv with
    | .fn (.func g) first caps =>
      callH (bid::path) g (first++[.yld s.next]++caps) (s.objs.set s.next (some (.loop fid s.base ps.toList assign body bid .normal (bid::path) pos))) (s.next+1) fun _ objs next =>
        (match objs.get s.next with
        | some (.loop _ _ _ _ _ _ ex _ _)=>(match ex with | .busy=>none|_=>k ex { s with objs:=objs.set s.next none,next:=next })
        | _=>none)
    | _=>none) else none
  | _,_,_,_,_=>none
def Zdb (X:Yb S) (base:Nat→Option (TV S)) (h:Nat→Option (Zi S)) (rs:List ResultVar) (k:List (TV S)→Option R):Option R:=match rs with
  | []=>k []
  | .tmp t::rs=>(base t).bind fun v=>Zdb X base h rs fun vs=>k (v::vs)
  | .cell a t::rs=>(X.E.ty t).bind fun ti=>(base a).bind fun a=>ZdS X ti h a fun o=>o.val.bind fun v=>Zdb X base h rs fun vs=>k (v::vs)
def Z4G:List (TV S)→TV S
  | [v]=>v
  | vs => .tup vs
def Z1h (V:Nat):Nat→List (TV S)→Tr (TV S)→Tr (TV S)
  | _,[],b=>b
  | k,v::vs,b=>Z1h V (k+1) vs (bif Nat.testBit V k then b.set k (some v) else b)
def Z1r (V nt:Nat):List Nat→List (TV S)→Tr (TV S)→Option (Tr (TV S))
  | [],[],b=>some b
  | p::ps,v::vs,b=>bif Nat.blt p nt then Z1r V nt ps vs (bif Nat.testBit V p then b.set p (some v) else b) else none
  | _,_,_=>none
mutual
def rnT (f:Nat→Nat):TV S→TV S
  | .ptr i o => .ptr (f i) o
  | .ap i b j e o => .ap (f i) b j e o
  | .rptr i v j e o => .rptr (f i) v j e o
  | .rs i v => .rs (f i) v
  | .rv i v j n e => .rv (f i) v j n e
  | .slen n => .slen n
  | .agg cs => .agg (Z6y f cs)
  | .tup cs => .tup (Z6y f cs)
  | .fn g a c => .fn g (Z6y f a) (Z6y f c)
  | .map i => .map (f i)
  | .iface t v => .iface t (rnT f v)
  | .iter i => .iter (f i)
  | .yld i => .yld (f i)
  | .earr ts p n a => .earr ts (f p) n a
  | .narr ts n => .narr ts n
  | .bool b => .bool b
  | .int k n => .int k n
  | .str s => .str s
  | .nilp => .nilp
  | .pub cs => .pub cs
  | .nils => .nils
  | .sl0 => .sl0
  | .sl t xs => .sl t xs
  | .arr t n a => .arr t n a
  | .stc i x => .stc i x
  | .nilfn => .nilfn
  | .nilmap => .nilmap
  | .nilif => .nilif
def Z6y (f:Nat→Nat):List (TV S)→List (TV S)
  | []=>[]
  | c::cs=>rnT f c::Z6y f cs
end
mutual
def ZaF (p:Nat→Bool):TV S→Bool
  | .ptr i _ | .ap i _ _ _ _ | .rptr i _ _ _ _ | .rs i _ | .rv i _ _ _ _ | .map i | .iter i | .yld i=>p i
  | .agg cs=>Z4E p cs
  | .tup cs=>Z4E p cs
  | .fn _ a b=>Z4E p a&&Z4E p b
  | .iface _ v=>ZaF p v
  | .earr _ i _ _=>p i
  | _=>true
def Z4E (p:Nat→Bool):List (TV S)→Bool
  | []=>true
  | c::cs=>ZaF p c&&Z4E p cs
end
def Zdd (f:Nat→Nat):Zi S→Zi S
  | .cells t cs => .cells t (Z6y f cs)
  | .loop fid b ps as bo bid ex pa po => .loop fid (b.mapv (rnT f)) ps as bo bid ex pa po
  | .row e t xs p u => .row e t xs p u
  | .map k e m => .map k e m
  | .siter s pos => .siter s pos
def ZhC (p:Nat→Bool):Zi S→Bool
  | .cells _ cs=>Z4E p cs
  | .loop _ b _ _ _ _ _ _ _=>b.allV (ZaF p)
  | _=>true
def ZfI (p:Nat→Bool) (h:Nat→Option (Zi S)):List Nat→Bool
  | []=>true
  | i::is=>(match h i with|some o=>ZhC p o|none=>true)&&ZfI p h is
def Z5r (f:Nat→Nat) (h:Nat→Option (Zi S)):List Nat→Tr (Zi S)
  | [] => .leaf
  | i::is=>(Z5r f h is).set (f i) ((h i).map (Zdd f))
def Z79 (f:Nat→Nat) (h:Nat→Option (Zi S)):List Nat→List (Nat×Option (Zi S))
  | []=>[]
  | i::is=>(f i,(h i).map (Zdd f))::Z79 f h is
def ZdF (k:Nat) (v:TV S) (o:Tr (Zi S)) (kk:TV S→Tr (Zi S)→Nat→Option R):Option R :=
  sNs (geN k (Z1V o.get 4096 (Z1L v++upN 0 k) [])) fun Rs =>
    bif Z9h Rs&&(ZaF (fun j=>Nat.blt j k||Z3u j Rs) v&&ZfI (fun j=>Nat.blt j k||Z3u j Rs) o.get (upN 0 k++Rs)) then
      sV (rnT (Z2d k Rs) v) fun v=>sTr sO (Z5r (Z2d k Rs) o.get (upN 0 k++Rs)) fun o=>sN (k+Z2e Rs) fun n=>kk v o n
    else none
def ZcH (cs:Z3x S R) (g:Nat) (as:List (TV S)) (o:Tr (Zi S)) (nx:Nat) (k:TV S→Tr (Zi S)→Nat→Option R):Option R :=
  sVs (as.map fun d=>(Yx o.get d).getD d) fun fs=>sTr sO (Z4j o (Z5v o.get (Yk as))) fun o1=>sNs (Z1V o1.get 4096 (Z2A fs) []) fun Rs=>sN (Z2e Rs) fun n0 =>
    bif Z9h Rs&&(Z4E (fun i=>Z3u i Rs) fs&&ZfI (fun i=>Z3u i Rs) o1.get Rs) then
      sVs (Z6y (Z4h Rs) fs) fun fs=>sTr sO (Z5r (Z4h Rs) o1.get Rs) fun s =>
      cs.pr g fs s n0 fun v os n=>sV (rnT (ZD n0 nx Rs) v) fun v=>sTr sO (Z4j o1 (Z79 (ZD n0 nx Rs) os.get (upN 0 n))) fun o2=>sN (nx+(n-n0)) fun nx2=>k v o2 nx2
    else none
def Zft:Ex→Bool
  | .busy=>true
  | _=>false
def xK (X:Yb S) (cs:Z3x S R) (ls:Z2x S R):Nat→Bool→Z2o S R
  | 0,_,_,_,_,_,_,_=>none
  | n+1,false,path,f,args,objs,next,k =>
    (X.E.fn f).bind fun F=>bif F.can then ZcH cs f args objs next k else bif Nat.ble args.length F.nt then
      Z1i X cs ls none f F (xK X cs ls n false) (xK X cs ls n true) (f::path) [] 0 F.body ⟨Z1h F.vmask 0 args .leaf,objs,next⟩ fun ex s =>
        match ex with
        | .exit _ | .busy=>none
        | _=>Zdb X s.base.get s.objs.get F.nres fun vs=>k (Z4G vs) s.objs s.next
      else none
  | n+1,true,path,l,args,objs,next,k=>(match objs.get l with
    | some (.loop fid base ps assign body bid .normal pa po)=>(X.E.fn fid).bind fun F=>(Z1r F.vmask F.nt ps args base).bind fun b =>
        Z1i X cs ls (some l) fid F (xK X cs ls n false) (xK X cs ls n true) (l::path) (0::po) bid assign ⟨b,objs,next⟩ fun ex s=>(match ex,s.objs.get l with
        | .normal,some (.loop fid2 base2 ps2 assign2 body2 bid2 .normal pa2 po2)=>Z1i X cs ls (some l) fid F (xK X cs ls n false) (xK X cs ls n true) (l::path) (1::po) bid body { s with objs:=s.objs.set l (some (.loop fid2 base2 ps2 assign2 body2 bid2 .busy pa2 po2)) } fun ex s=>(match s.objs.get l with
          | some (.loop fid3 base3 ps3 assign3 body3 bid3 .busy pa3 po3)=>bif Zft ex then none else k (.bool (match ex with | .normal=>true|_=>false)) (s.objs.set l (some (.loop fid3 base3 ps3 assign3 body3 bid3 ex pa3 po3))) s.next
          | _=>none)
        | _,_=>none)
    | _=>none)
end ops
end
end Go.Ab
namespace Go.Ab
def plain:DV→Bool
  | .bool _ | .int _ _ | .str _ | .sl _=>true
  | _=>false
variable {S:Nat→Type}
structure TOk (T:TS S):Prop where
  cells:∀ i x,dvs T (T.cells i x)=T.dcells i x
  len:∀ i x,(T.dcells i x).length=T.size i
  rd:∀ i cs x r,T.rd i cs=some (x,r)→dvs T cs=T.dcells i x++dvs T r
  plain:∀ i x,(T.dcells i x).all plain=true
  seq:∀ i e,T.seq i=some e→∀ x y,Zg (T.dcells i x) (T.dcells i y)=some (e x y)
structure XOk (X:Yb S):Prop where
  t:TOk X.T
  zero:∀ t z ti,X.zero t=some z→X.E.ty t=some ti→dvs X.T z=ti.zero
  code:∀ t c ti,X.code t=some c→X.E.ty t=some ti→ti.size=tsz X.T c∧ti.isAgg=YO c
def Y2 (T:TS S):TV S→List DV
  | .arr t n a=>acl T t n a
  | .stc i x=>T.dcells i x
  | .earr ts pid n a=>eal ts pid n a
  | .narr _ n=>List.replicate n .nilif
  | c=>[dv T c]
theorem Zv (T:TS S) (c:TV S) (cs:List (TV S)):dvs T (c::cs)=Y2 T c++dvs T cs:=by
  cases c<;>simp [dvs,Y2]
theorem Z7Q (T:TS S):dvs T []=[]:=by simp [dvs]
theorem Z1P (T:TS S):∀ (a b:List (TV S)),dvs T (a++b)=dvs T a++dvs T b
  | [],b=>by simp [dvs]
  | c::a,b=>by rw [List.cons_append,Zv,Zv,Z1P T a b,List.append_assoc]
theorem Z5C (T:TS S):∀ (a b:List (TV S)),dvl T (a++b)=dvl T a++dvl T b
  | [],b=>by simp [dvl]
  | c::a,b=>by simp only [List.cons_append,dvl,Z5C T a b]
theorem Z4X (T:TS S):∀ (a:List (TV S)),dvl T a=a.map (dv T)
  | []=>by simp [dvl]
  | c::a=>by simp only [List.map_cons,dvl,Z4X T a]
section
variable {T:TS S} (hT:TOk T)
include hT
theorem Y8:∀ (t:Ty) (x:Val S t),(dcl T t x).length=tsz T t
  | .bool,_=>rfl
  | .int _,_=>rfl
  | .str,_=>rfl
  | .sl _,_=>by simp [dcl,tsz]
  | .st i,x=>hT.len i x
  | .arr n t,a=>by
    simp only [dcl,tsz,List.length_flatMap]
    have:(List.map (fun j=>(dcl T t (a j)).length) (List.range n))=List.map (fun _=>tsz T t) (List.range n):=List.map_congr_left fun j _=>Y8 t (a j)
    rw [this,List.map_const',List.sum_replicate_nat,List.length_range]
theorem Z2Q:∀ (t:Ty) (x:Val S t),(dcl T t x).all plain=true
  | .bool,_=>rfl
  | .int _,_=>rfl
  | .str,_=>rfl
  | .sl _,_=>by simp [dcl,plain]
  | .st i,x=>hT.plain i x
  | .arr n t,a=>by
    rw [List.all_eq_true]
    intro c hc
    simp only [dcl,List.mem_flatMap] at hc
    obtain ⟨j,_,hc⟩:=hc
    exact List.all_eq_true.1 (Z2Q t (a j)) c hc
theorem YV (t:Ty) (n:Nat) (a:Nat→Val S t):(acl T t n a).length=n*tsz T t:=Y8 hT (.arr n t) a
theorem Yl (t:Ty) (n:Nat) (a:Nat→Val S t):(acl T t n a).all plain=true:=Z2Q hT (.arr n t) a
theorem Z2M:∀ (t:Ty) (x:Val S t),dvs T (tcl T t x)=dcl T t x
  | .bool,_=>by simp [tcl,dvs,dv,dcl]
  | .int _,_=>by simp [tcl,dvs,dv,dcl]
  | .str,_=>by simp [tcl,dvs,dv,dcl]
  | .sl _,_=>by simp [tcl,dvs,dv,dcl]
  | .st i,x=>by simp only [tcl,dvs,List.append_nil,dcl]
  | .arr n t,a=>by simp only [tcl,dvs,List.append_nil];rfl
theorem Z1C:∀ (t:Ty) (x:Val S t),dv T (Z7i T t x)=YI T t x
  | .bool,_=>by simp [Z7i,dv,YI]
  | .int _,_=>by simp [Z7i,dv,YI]
  | .str,_=>by simp [Z7i,dv,YI]
  | .sl _,_=>by simp [Z7i,dv,YI]
  | .st i,x=>by simp only [Z7i,dv,YI,dvs,List.append_nil]
  | .arr n t,a=>by simp [Z7i,dv,YI,dvs]
theorem Z2P (c:TV S):(Y2 T c).length=wd T c:=by
  cases c<;>simp [Y2,wd]
  · rename_i t n a
    exact YV hT t n a
  · rename_i i x
    exact hT.len i x
  · simp [eal]
theorem ZY:∀ (cs:List (TV S)),(dvs T cs).length=wds T cs
  | []=>by simp [dvs,wds]
  | c::cs=>by rw [Zv,List.length_append,Z2P hT c,ZY cs,wds]
theorem Z5d (i:Nat) (x:S i) (r:List (TV S)):dvs T (T.cells i x++r)=dvs T (.stc i x::r):=by
  rw [Z1P,hT.cells];simp [dvs]
theorem ZgR (i:Nat) (x:S i) (r:List (TV S)):wds T (T.cells i x++r)=wds T (.stc i x::r):=by
  rw [←ZY hT,←ZY hT,Z5d hT]
theorem Z6O:∀ (f:Nat) {cs r:List (TV S)} {n:Nat},Z9F T f cs n=some r→wds T cs=n+wds T r∧(dvs T cs).drop n=dvs T r
  | 0,_,_,_,h=>by cases h
  | f+1,[],r,n,h=>by
    simp only [Z9F] at h
    obtain ⟨h1,h⟩:=Z2 h
    cases h
    have:=Nat.eq_of_beq_eq_true h1
    subst this
    simp [wds,dvs]
  | f+1,c::cs,r,n,h=>by
    simp only [Z9F] at h
    cases h0:Nat.beq n 0 with
    | true =>
      rw [h0] at h;cases h
      have:=Nat.eq_of_beq_eq_true h0
      subst this;simp
    | false =>
      rw [h0] at h
      simp only [cond_false] at h
      cases h1:Nat.ble (wd T c) n with
      | true =>
        rw [h1] at h
        simp only [cond_true] at h
        obtain ⟨h2,h3⟩:=Z6O f h
        have h1:=Nat.le_of_ble_eq_true h1
        refine ⟨by rw [wds];omega,?_⟩
        rw [Zv,←h3,List.drop_append,Z2P hT c,List.drop_eq_nil_of_le (by rw [Z2P hT c];exact h1),List.nil_append]
      | false =>
        rw [h1] at h
        simp only [cond_false] at h
        split at h
        · rename_i i x
          obtain ⟨h2,h3⟩:=Z6O f h
          rw [ZgR hT] at h2
          rw [Z5d hT] at h3
          exact ⟨h2,h3⟩
        · cases h
theorem Z1t {cs r:List (TV S)} {n:Nat} (h:Z8i T cs n=some r):wds T cs=n+wds T r∧(dvs T cs).drop n=dvs T r:=Z6O hT 400 h
theorem Z7g:∀ (f:Nat) {cs r:List (TV S)} {n:Nat},Za8 T f cs n=some r→wds T r=n∧(dvs T cs).take n=dvs T r
  | 0,_,_,_,h=>by cases h
  | f+1,[],r,n,h=>by
    simp only [Za8] at h
    obtain ⟨h1,h⟩:=Z2 h
    cases h
    have:=Nat.eq_of_beq_eq_true h1
    subst this
    simp [wds,dvs]
  | f+1,c::cs,r,n,h=>by
    simp only [Za8] at h
    cases h0:Nat.beq n 0 with
    | true =>
      rw [h0] at h;cases h
      have:=Nat.eq_of_beq_eq_true h0
      subst this;simp [wds,dvs]
    | false =>
      rw [h0] at h
      simp only [cond_false] at h
      cases h1:Nat.ble (wd T c) n with
      | true =>
        rw [h1] at h
        simp only [cond_true] at h
        obtain ⟨r',h2,h⟩:=Z0 h
        cases h
        obtain ⟨h3,h4⟩:=Z7g f h2
        have h1:=Nat.le_of_ble_eq_true h1
        refine ⟨by rw [wds];omega,?_⟩
        rw [Zv,Zv,←h4,List.take_append,Z2P hT c,List.take_of_length_le (by rw [Z2P hT c];exact h1)]
      | false =>
        rw [h1] at h
        simp only [cond_false] at h
        split at h
        · rename_i i x
          obtain ⟨h2,h3⟩:=Z7g f h
          rw [Z5d hT] at h3
          exact ⟨h2,h3⟩
        · cases h
theorem Za9 {cs r:List (TV S)} {n:Nat} (h:Zg3 T cs n=some r):wds T r=n∧(dvs T cs).take n=dvs T r:=Z7g hT 400 h
theorem Z2F:∀ (n:Nat) (cs:List (TV S)),dvs T (hdF T n cs)=dvs T cs
  | 0,cs=>by cases cs with
    | nil=>rfl
    | cons c cs=>cases c<;>rfl
  | n+1,[]=>rfl
  | n+1,c::cs=>by
    cases c<;>first|rfl|skip
    simp only [hdF]
    rw [Z2F n,Z5d hT]
theorem Z29:∀ (n:Nat) (cs:List (TV S)),dvs T (xpF T n cs)=dvs T cs
  | 0,cs=>by cases cs with
    | nil=>rfl
    | cons c cs=>cases c<;>rfl
  | n+1,[]=>rfl
  | n+1,c::cs=>by
    by_cases hc:∃ i x,c = .stc i x
    · obtain ⟨i,x,rfl⟩:=hc
      simp only [xpF]
      rw [Z29 n,Z5d hT]
    · have:xpF T (n+1) (c::cs)=c::xpF T n cs:=by
        cases c<;>first|rfl|exact absurd ⟨_,_,rfl⟩ hc
      rw [this,Zv,Zv,Z29 n]
omit hT in
theorem YP:∀ (cs:List DV) (off:Nat) (vs:List DV),off+vs.length≤cs.length→Y7 cs off vs=cs.take off++vs++cs.drop (off+vs.length)
  | cs,off,[],_=>by
    cases cs<;>simp [Y7]
  | [],off,v::vs,h=>by simp at h
  | c::cs,0,v::vs,h=>by
    simp only [Y7,List.take_zero,List.nil_append,List.cons_append,Nat.zero_add,List.length_cons,List.drop_succ_cons]
    rw [YP cs 0 vs (by simp at h;omega)]
    simp
  | c::cs,n+1,v::vs,h=>by
    simp only [Y7,List.take_succ_cons,List.cons_append]
    rw [YP cs n (v::vs) (by simp at h ⊢;omega)]
    rw [show n+1+(v::vs).length=(n+(v::vs).length)+1 by omega,List.drop_succ_cons]
theorem Z17 {cs vs r:List (TV S)} {off:Nat} (h:Z2L T cs off vs=some r):off+wds T vs≤wds T cs∧Y7 (dvs T cs) off (dvs T vs)=dvs T r:=by
  unfold Z2L at h
  obtain ⟨a,h1,h⟩:=Z0 h
  obtain ⟨b,h2,h⟩:=Z0 h
  cases h
  obtain ⟨h3,h4⟩:=Za9 hT h1
  obtain ⟨h5,h6⟩:=Z1t hT h2
  refine ⟨by omega,?_⟩
  rw [YP _ _ _ (by rw [ZY hT,ZY hT];omega),Z1P,Z1P,←h4,←h6,ZY hT vs]
omit hT in
theorem Ys (v:TV S):cellsOf (dv T v)=dvs T (Y6 v):=by
  cases v<;>simp [dv,cellsOf,Y6,dvs]
theorem Z3D {ti:TI} {cs:List (TV S)} {off:Nat} {v:TV S} (h:Z8O T ti cs off=some v):YD ti (dvs T cs) off=some (dv T v)∧ZQ v=false:=by
  unfold Z8O at h
  obtain ⟨r,h1,h⟩:=Z0 h
  obtain ⟨h2,h3⟩:=Z1t hT h1
  unfold YD
  cases ha:ti.isAgg with
  | true =>
    rw [ha] at h
    simp only [cond_true] at h ⊢
    obtain ⟨p,h4,h⟩:=Z0 h
    cases h
    obtain ⟨h5,h6⟩:=Za9 hT h4
    have hle:ti.size≤wds T r:=by
      have:=congrArg List.length h6
      rw [List.length_take,ZY hT,ZY hT] at this
      omega
    have:Nat.ble (off+ti.size) (dvs T cs).length=true:=by rw [Nat.ble_eq,ZY hT];omega
    rw [this,h3,h6]
    simp [dv,ZQ]
  | false =>
    rw [ha] at h
    simp only [cond_false] at h ⊢
    rw [←Z2F hT 10 r] at h3
    cases hr:hdF T 10 r with
    | nil=>rw [hr] at h;cases h
    | cons c r =>
      rw [hr] at h h3
      simp only at h
      cases hc:ZQ c with
      | true=>rw [hc] at h;cases h
      | false =>
        rw [hc] at h;cases h
        refine ⟨?_,hc⟩
        have:(dvs T cs)[off]? = (List.drop off (dvs T cs))[0]? := by simp
        rw [this,h3,Zv]
        cases v<;>simp [Y2,ZQ] at hc ⊢
omit hT in
theorem Z1J {t:Ty} {cs r:List (TV S)} {x:List (Val S t)} (h:Z7M t cs=some (x,r)):dvs T cs = .sl (x.map (dcl T t))::dvs T r:=by
  unfold Z7M at h
  cases cs with
  | nil=>cases h
  | cons c cs =>
    simp only at h
    obtain ⟨xs,h1,h⟩:=Z0 h
    cases h
    unfold Zh6 at h1
    split at h1
    · cases h1;simp [dvs,dv]
    · split at h1
      · rename_i e;subst e;cases h1;simp [dvs,dv]
      · cases h1
    · cases h1
omit hT in
theorem Z8S {cs r:List (TV S)} {x:Bool} (h:Z5R cs=some (x,r)):dvs T cs=[.bool x]++dvs T r:=by
  unfold Z5R at h
  split at h
  · cases h;simp [dvs,dv]
  · cases h
omit hT in
theorem ZV {k:IntKind} {cs r:List (TV S)} {x:Int} (h:YW k cs=some (x,r)):dvs T cs=[.int k x]++dvs T r:=by
  unfold YW at h
  split at h
  · obtain ⟨h1,h⟩:=Z2 h
    cases h
    have:=eq_of_beq h1
    subst this
    simp [dvs,dv]
  · cases h
omit hT in
theorem Z58 {cs r:List (TV S)} {x:ByteArray} (h:Z6s cs=some (x,r)):dvs T cs=[.str x]++dvs T r:=by
  unfold Z6s at h
  split at h
  · cases h;simp [dvs,dv]
  · cases h
omit hT in
theorem ZeK {n:Nat} {t:Ty} {cs r:List (TV S)} {x:Nat→Val S t} (h:Zc0 n t cs=some (x,r)):dvs T cs=acl T t n x++dvs T r:=by
  unfold Zc0 at h
  split at h
  · split at h
    · rename_i e
      obtain ⟨h1,h⟩:=Z2 h
      cases h
      have:=Nat.eq_of_beq_eq_true h1
      subst this e
      rw [Zv];rfl
    · cases h
  · cases h
omit hT in
theorem Z83 {T0:TS S} (hc:∀ i (x:S i),dvs T (T0.cells i x)=T.dcells i x) (i:Nat):∀ (n:Nat) (cs:List (TV S)),dvs T (Z1g T0 i n cs)=dvs T cs
  | 0,cs=>by cases cs with
    | nil=>rfl
    | cons c cs=>cases c<;>rfl
  | n+1,[]=>rfl
  | n+1,c::cs=>by
    cases c<;>first|rfl|skip
    rename_i j x
    simp only [Z1g]
    cases Nat.beq j i with
    | true=>rfl
    | false=>simp only [cond_false];rw [Z83 hc i n,Z1P,hc];rfl
theorem Z9A (i:Nat):∀ (n:Nat) (cs:List (TV S)),dvs T (Z1g T i n cs)=dvs T cs
  | 0,cs=>by cases cs with
    | nil=>rfl
    | cons c cs=>cases c<;>rfl
  | n+1,[]=>rfl
  | n+1,c::cs=>by
    cases c<;>first|rfl|skip
    rename_i j x
    simp only [Z1g]
    cases Nat.beq j i with
    | true=>rfl
    | false=>simp only [cond_false];rw [Z9A i n,Z5d hT]
omit hT in
theorem YX {i:Nat} {f:List (TV S)→Option (S i×List (TV S))} (hf:∀ cs x r,f cs=some (x,r)→dvs T cs=T.dcells i x++dvs T r) {cs r:List (TV S)} {x:S i} (h:rdW i f cs=some (x,r)):dvs T cs=T.dcells i x++dvs T r:=by
  unfold rdW at h
  split at h
  · split at h
    · rename_i e;subst e;cases h;simp [dvs]
    · cases h
  · exact hf _ _ _ h
theorem ZgT {t:Ty} {cs r:List (TV S)} {x:Val S t} (h:trd T t cs=some (x,r)):dvs T cs=dcl T t x++dvs T r:=by
  cases t with
  | bool =>
    simp only [trd,Z5R] at h
    split at h
    · cases h;simp [dvs,dv,dcl]
    · cases h
  | int k =>
    simp only [trd,YW] at h
    split at h
    · obtain ⟨h1,h⟩:=Z2 h
      cases h
      have:=eq_of_beq h1
      subst this
      simp [dvs,dv,dcl]
    · cases h
  | str =>
    simp only [trd,Z6s] at h
    split at h
    · cases h;simp [dvs,dv,dcl]
    · cases h
  | sl t =>
    simp only [trd] at h
    rw [Z1J h];rfl
  | arr n t =>
    simp only [trd,Zc0] at h
    split at h
    · split at h
      · rename_i e
        obtain ⟨h1,h⟩:=Z2 h
        cases h
        have:=Nat.eq_of_beq_eq_true h1
        subst this e
        rw [Zv];rfl
      · cases h
    · cases h
  | st i =>
    simp only [trd] at h
    rw [←Z9A hT i 6 cs,YX (fun _ _ _ h=>hT.rd i _ _ _ h) h];rfl
theorem Z2m {t:Ty} {cs:List (TV S)} {x:Val S t} (h:Z6G T t cs=some x):dvs T cs=dcl T t x:=by
  unfold Z6G at h
  obtain ⟨⟨x',r⟩,h1,h⟩:=Z0 h
  cases r with
  | nil =>
    cases h
    have:=ZgT hT h1
    rw [this,Z7Q,List.append_nil]
  | cons c r=>cases h
omit hT in
theorem Z8g {t:Ty} (x:Val S t) (h:YO t=false):dcl T t x=[YI T t x]:=by
  cases t<;>first|rfl|cases h
theorem Z3e {t:Ty} {v:TV S} {x:Val S t} (h:Z5x T t v=some x):dv T v=YI T t x:=by
  have Zdg:∀ (c:TV S),YO t=false→Z6G T t [c]=some x→dvs T [c]=[dv T c]→dv T c=YI T t x:=fun c ha hd hc=>by
    have h2:=Z2m hT hd
    rw [hc,Z8g x ha] at h2
    exact List.cons.inj h2 |>.1
  by_cases hag:∃ cs,v = .agg cs
  · obtain ⟨cs,rfl⟩:=hag
    simp only [Z5x] at h
    obtain ⟨h1,h⟩:=Z2 h
    have h2:=Z2m hT h
    cases t<;>simp only [YO,Bool.false_eq_true] at h1
    · simp only [dv,YI,h2];rfl
    · simp only [dv,YI,h2];rfl
  · have hd:(bif YO t then none else Z6G T t [v])=some x:=by
      unfold Z5x at h
      split at h
      · rename_i cs;exact absurd ⟨cs,rfl⟩ hag
      · exact h
    cases ha:YO t with
    | true=>rw [ha] at hd;cases hd
    | false =>
      rw [ha] at hd
      simp only [cond_false] at hd
      by_cases hr:ZQ v=true
      · exfalso
        cases v<;>simp only [ZQ,Bool.false_eq_true] at hr
        all_goals
          unfold Z6G at hd
          obtain ⟨q,h1,_⟩:=Z0 hd
          cases t<;>simp [YO] at ha<;>simp [trd,Z5R,YW,Z6s,Z7M,Zh6] at h1
      · refine Zdg v ha hd ?_
        rw [Zv,Z7Q,List.append_nil]
        cases v<;>simp [Y2,ZQ] at hr ⊢
theorem Zf6 {v r:TV S} {n:Nat} (h:Zf5 T v n=some r):Z1a (dv T v) n=some (dv T r):=by
  cases v<;>simp only [Zf5,reduceCtorEq] at h
  · cases h;simp [dv,Z1a]
  · cases h;simp [dv,Z1a];omega
  · cases h;simp [dv,Z1a]
  · obtain ⟨q,h1,h⟩:=Z0 h
    cases h
    simp only [dv,Z1a,(Z1t hT h1).2]
end
section
variable {T:TS S}
theorem Zd2 {c:DV} (h:plain c=true):Zb c=true:=by cases c<;>simp [plain,Zb] at h ⊢
theorem ZeG {c:DV} (n:Nat) (h:plain c=true):bdd n c=true:=by cases c<;>simp [plain,bdd] at h ⊢
theorem ZeH {c:DV} (hh:Nat→Option Z7) (h:plain c=true):frz hh c=some c:=by cases c<;>simp [plain,frz,Zb] at h ⊢
theorem Zd3 {c:DV} (h:plain c=true):Zc c=[]:=by cases c<;>simp [plain,Zc] at h ⊢
theorem ZeI {c:DV} (h:plain c=true):Zw c=[]:=by cases c<;>simp [plain,Zw] at h ⊢
theorem Zd1 {c:DV} (h:plain c=true):ZA c=true:=by cases c<;>simp [plain,ZA] at h ⊢
theorem ZeJ {c:DV} (n:Nat) (L:List (Option (Nat×Nat))) (h:plain c=true):ren n L c=some c:=by cases c<;>simp [plain,ren,bdd] at h ⊢
theorem Z4w:∀ (a b:List DV),Z9 (a++b)=(Z9 a&&Z9 b)
  | [],b=>by simp [Z9]
  | c::a,b=>by simp only [List.cons_append,Z9,Z4w a b,Bool.and_assoc]
theorem Z7m (n:Nat):∀ (a b:List DV),Z1F n (a++b)=(Z1F n a&&Z1F n b)
  | [],b=>by simp [Z1F]
  | c::a,b=>by simp only [List.cons_append,Z1F,Z7m n a b,Bool.and_assoc]
theorem Z4P:∀ (a b:List DV),Ze (a++b)=Ze a++Ze b
  | [],b=>by simp [Ze]
  | c::a,b=>by simp only [List.cons_append,Ze,Z4P a b,List.append_assoc]
theorem Z5m:∀ (a b:List DV),Zz (a++b)=Zz a++Zz b
  | [],b=>by simp [Zz]
  | c::a,b=>by simp only [List.cons_append,Zz,Z5m a b,List.append_assoc]
theorem Z7w (h:Nat→Option Z7):∀ (a b:List DV),Z1D h (a++b)=(Z1D h a).bind fun x=>(Z1D h b).bind fun y=>some (x++y)
  | [],b=>by simp [Z1D]
  | c::a,b=>by
    simp only [List.cons_append,Z1D,Z7w h a b]
    cases frz h c with
    | none=>rfl
    | some c'=>cases Z1D h a with
      | none=>rfl
      | some a'=>cases Z1D h b<;>simp
theorem Z7B (n:Nat) (L:List (Option (Nat×Nat))):∀ (a b:List DV),Z2j n L (a++b)=(Z2j n L a).bind fun x=>(Z2j n L b).bind fun y=>some (x++y)
  | [],b=>by simp [Z2j]
  | c::a,b=>by
    simp only [List.cons_append,Z2j,Z7B n L a b]
    cases ren n L c with
    | none=>rfl
    | some c'=>cases Z2j n L a with
      | none=>rfl
      | some a'=>cases Z2j n L b<;>simp
theorem Z1z:∀ {cs:List DV},cs.all plain=true→Z9 cs=true
  | [],_=>rfl
  | c::cs,h=>by
    simp only [List.all_cons,Bool.and_eq_true] at h
    simp only [Z9,Zd2 h.1,Z1z h.2,Bool.and_self]
theorem Z5M (n:Nat):∀ {cs:List DV},cs.all plain=true→Z1F n cs=true
  | [],_=>rfl
  | c::cs,h=>by
    simp only [List.all_cons,Bool.and_eq_true] at h
    simp only [Z1F,ZeG n h.1,Z5M n h.2,Bool.and_self]
theorem Z5N (hh:Nat→Option Z7):∀ {cs:List DV},cs.all plain=true→Z1D hh cs=some cs
  | [],_=>rfl
  | c::cs,h=>by
    simp only [List.all_cons,Bool.and_eq_true] at h
    simp [Z1D,ZeH hh h.1,Z5N hh h.2]
theorem Z4J:∀ {cs:List DV},cs.all plain=true→Ze cs=[]
  | [],_=>rfl
  | c::cs,h=>by
    simp only [List.all_cons,Bool.and_eq_true] at h
    simp [Ze,Zd3 h.1,Z4J h.2]
theorem Z5O:∀ {cs:List DV},cs.all plain=true→Zz cs=[]
  | [],_=>rfl
  | c::cs,h=>by
    simp only [List.all_cons,Bool.and_eq_true] at h
    simp [Zz,ZeI h.1,Z5O h.2]
theorem Z2h:∀ {cs:List DV},cs.all plain=true→cs.all ZA=true
  | [],_=>rfl
  | c::cs,h=>by
    simp only [List.all_cons,Bool.and_eq_true] at h
    simp [Zd1 h.1,Z2h h.2]
theorem Z5P (n:Nat) (L:List (Option (Nat×Nat))):∀ {cs:List DV},cs.all plain=true→Z2j n L cs=some cs
  | [],_=>rfl
  | c::cs,h=>by
    simp only [List.all_cons,Bool.and_eq_true] at h
    simp [Z2j,ZeJ n L h.1,Z5P n L h.2]
end
def dvO (T:TS S):Zi S→Z7
  | .cells t cs => .cells t (dvs T cs)
  | .row e t xs p v => .row e (xs.map (dcl T t)) p v
  | .map kt et m => .map (m.map fun p=>(YI T kt p.1,YI T et p.2))
  | .siter s pos => .siter s pos
  | .loop fid b ps as bo bid ex _ _ => .loop fid (b.mapv (dv T)) ps as bo bid ex
end Go.Ab
namespace Go.Ab
variable {S:Nat→Type}
def dvr (T:TS S) (ρ:Nat→Option (TV S)):Nat→Option DV:=fun t=>(ρ t).map (dv T)
def dvh (T:TS S) (h:Nat→Option (Zi S)):Nat→Option Z7:=fun i=>(h i).map (dvO T)
def dvu (T:TS S) (u:List (Nat×Option (Zi S))):List (Nat×Option Z7):=u.map fun p=>(p.1,p.2.map (dvO T))
def Y3 (T:TS S) (o:Zaf S):Out:=⟨o.val.map (dv T),dvu T o.upd⟩
theorem Ya {α β:Type} (f:α→β):∀ (t:Tr α) (k:Nat),(t.mapv f).get k=(t.get k).map f
  | .leaf,k=>rfl
  | .node l v r,k=>by
    simp only [Tr.mapv,Tr.get]
    cases Nat.beq k 0 with
    | true=>rfl
    | false=>cases Nat.beq (k % 2) 1 with
      | true=>exact Ya f l _
      | false=>exact Ya f r _
theorem Z2f {α β:Type} (f:α→β) (v:Option α):∀ (n:Nat) (t:Tr α) (k:Nat),(Tr.setAux n t k v).mapv f=Tr.setAux n (t.mapv f) k (v.map f)
  | 0,t,k=>rfl
  | n+1,.leaf,k=>by
    simp only [Tr.setAux,Tr.mapv]
    cases Nat.beq k 0 with
    | true=>rfl
    | false=>cases Nat.beq (k % 2) 1 with
      | true=>simp only [cond_true,cond_false,Tr.mapv,Z2f f v n .leaf];rfl
      | false=>simp only [cond_false,Tr.mapv,Z2f f v n .leaf];rfl
  | n+1,.node l x r,k=>by
    simp only [Tr.setAux,Tr.mapv]
    cases Nat.beq k 0 with
    | true=>rfl
    | false=>cases Nat.beq (k % 2) 1 with
      | true=>simp only [cond_true,cond_false,Tr.mapv,Z2f f v n l]
      | false=>simp only [cond_false,Tr.mapv,Z2f f v n r]
theorem Yu {α β:Type} (f:α→β) (t:Tr α) (k:Nat) (v:Option α):(t.set k v).mapv f=(t.mapv f).set k (v.map f):=Z2f f v _ t k
theorem ZbP {α β:Type} (f:α→β) (l:Tr α) (v:Option α) (r:Tr α):(Tr.mkn l v r).mapv f=Tr.mkn (l.mapv f) (v.map f) (r.mapv f):=by
  unfold Tr.mkn
  cases l<;>cases v<;>cases r<;>rfl
theorem Z6Z {α β:Type} (f:α→β) (m:Nat):∀ (t:Tr α) (a b:Nat),(t.filt m a b).mapv f=(t.mapv f).filt m a b
  | .leaf,a,b=>rfl
  | .node l v r,a,b=>by
    simp only [Tr.filt,Tr.mapv,ZbP,Z6Z f m l,Z6Z f m r]
    cases Nat.testBit m b<;>rfl
theorem Z6l {α β:Type} (f:α→β) (g:Nat→α→Option (Option α)) (g':Nat→β→Option (Option β)) (hg:∀ k x y,g k x=some y→g' k (f x)=some (y.map f)) :
    ∀ (t:Tr α) (a b:Nat) (r:Tr α),t.tm g a b=some r→(t.mapv f).tm g' a b=some (r.mapv f)
  | .leaf,a,b,r,h=>by simp only [Tr.tm,Option.some.injEq] at h;subst h;rfl
  | .node l v q,a,b,r,h=>by
    simp only [Tr.tm] at h
    obtain ⟨l',h1,h⟩:=Z0 h
    obtain ⟨v',h2,h⟩:=Z0 h
    obtain ⟨q',h3,h⟩:=Z0 h
    cases h
    simp only [Tr.mapv,Tr.tm,Z6l f g g' hg l _ _ _ h1,Z6l f g g' hg q _ _ _ h3,Option.bind_some,ZbP]
    cases v with
    | none=>cases h2;rfl
    | some x =>
      simp only [Option.map_some]
      rw [hg _ _ _ h2];rfl
section
variable (T:TS S)
theorem ZfH (v:Value):ZdW v=(ZcZ (S:=S) v).map (dv T):=by
  unfold ZdW ZcZ
  split<;>simp [dv]
theorem ZH (ρ:Nat→Option (TV S)) (x:Operand):ZU (dvr T ρ) x=(ZO ρ x).map (dv T):=by
  cases x with
  | tmp t=>rfl
  | const v=>exact ZfH T v
  | func f=>simp [ZU,ZO,dv,dvl]
  | global g=>rfl
theorem Z33 (ρ:Nat→Option (TV S)):∀ xs,Z1k (dvr T ρ) xs=(Z2v ρ xs).map (dvl T)
  | []=>by simp [Z1k,Z2v,dvl]
  | x::xs=>by
    simp only [Z1k,Z2v,ZH,Z33 ρ xs]
    cases ZO ρ x with
    | none=>rfl
    | some v=>cases Z2v ρ xs with
      | none=>rfl
      | some vs=>simp [dvl]
theorem Zhg (ρ:Nat→Option (TV S)) (x:Option Operand):Z24 (dvr T ρ) x=(ZgJ ρ x).map (Option.map (dv T)):=by
  cases x with
  | none=>rfl
  | some x =>
    simp only [Z24,ZgJ,ZH]
    cases ZO ρ x<;>rfl
end
def Z4A (pid:Nat):DV→Bool
  | .nilif=>true
  | .iface _ (.agg [.ptr p 0])=>Nat.beq p pid
  | _=>false
theorem Zbo (pid:Nat):∀ (ts:List TypeId) (m:Nat),Z4A pid (enD pid ts m)=true
  | ts,0=>by cases ts<;>rfl
  | [],m+1=>rfl
  | t::ts,1=>by simp [enD,Z4A]
  | t::ts,m+2=>by simp only [enD];exact Zbo pid ts (m+1)
theorem Yt (ts:List TypeId) (pid n:Nat) (a:Nat→Nat):(eal ts pid n a).all (Z4A pid)=true:=by
  rw [List.all_eq_true]
  intro c hc
  obtain ⟨j,_,rfl⟩:=List.mem_map.1 hc
  exact Zbo pid ts _
theorem Z16 (pid n:Nat):(List.replicate n DV.nilif).all (Z4A pid)=true:=by
  rw [List.all_eq_true]
  intro c hc
  rw [(List.mem_replicate.1 hc).2];rfl
theorem Z1p {pid:Nat} {d:DV} (h:Z4A pid d=true):d = .nilif∨∃ t,d = .iface t (.agg [.ptr pid 0]):=by
  unfold Z4A at h
  split at h
  · exact .inl rfl
  · rw [Nat.eq_of_beq_eq_true h];exact .inr ⟨_,rfl⟩
  · cases h
theorem Z67 {pid:Nat}:∀ {l:List DV},l.all (Z4A pid)=true→Ze l=[]
  | [],_=>rfl
  | d::l,h=>by
    simp only [List.all_cons,Bool.and_eq_true] at h
    rcases Z1p h.1 with rfl|⟨t,rfl⟩<;>simp [Ze,Zc,Z67 h.2]
theorem Z8k (h':Nat→Option Z7) {pid:Nat}:∀ {l:List DV},l.all (Z4A pid)=true→Z1D h' l=bif Z9 l then some l else none
  | [],_=>rfl
  | d::l,h=>by
    simp only [List.all_cons,Bool.and_eq_true] at h
    rcases Z1p h.1 with rfl|⟨t,rfl⟩
    · simp only [Z1D,frz,Zb,Z9,cond_true,Option.bind_some,Z8k h' h.2,Bool.true_and]
      cases Z9 l<;>rfl
    · simp [Z1D,frz,Zb,Z9]
theorem Z6w (n:Nat):Z9 (List.replicate n DV.nilif)=true:=by
  induction n with
  | zero=>rfl
  | succ n ih=>rw [List.replicate_succ];simp [Z9,Zb,ih]
theorem Ze3 (n:Nat):Zz (List.replicate n DV.nilif)=[]:=by
  induction n with
  | zero=>rfl
  | succ n ih=>rw [List.replicate_succ];simp [Zz,Zw,ih]
theorem ZcL (n:Nat) (L:List (Option (Nat×Nat))) {pid:Nat} (hp:Nat.blt pid n=true):∀ {l:List DV},l.all (Z4A pid)=true→Z2j n L l=some l
  | [],_=>rfl
  | d::l,h=>by
    simp only [List.all_cons,Bool.and_eq_true] at h
    rcases Z1p h.1 with rfl|⟨t,rfl⟩<;>simp [Z2j,ren,bdd,Z1F,hp,ZcL n L hp h.2]
theorem Ze4 (n:Nat) (L:List (Option (Nat×Nat))) (m:Nat):Z2j n L (List.replicate m DV.nilif)=some (List.replicate m DV.nilif):=by
  induction m with
  | zero=>rfl
  | succ m ih=>rw [List.replicate_succ];simp [Z2j,ren,bdd,ih]
theorem Zfm (n:Nat) {pid:Nat} (hp:Nat.blt pid n=true):∀ {l:List DV},l.all (Z4A pid)=true→Z1F n l=true
  | [],_=>rfl
  | d::l,h=>by
    simp only [List.all_cons,Bool.and_eq_true] at h
    rcases Z1p h.1 with rfl|⟨t,rfl⟩<;>simp [Z1F,bdd,hp,Zfm n hp h.2]
theorem ZgN (n m:Nat):Z1F n (List.replicate m DV.nilif)=true:=by
  induction m with
  | zero=>rfl
  | succ m ih=>rw [List.replicate_succ];simp [Z1F,bdd,ih]
section
variable {T:TS S} (hT:TOk T)
include hT
mutual
theorem Z6V:∀ v:TV S,Zb (dv T v)=Zp v
  | .bool _=>rfl | .int _ _=>rfl | .str _=>rfl | .nilp=>rfl | .nils=>rfl
  | .sl0=>by simp [dv,Zb,Zp] | .sl _ _=>by simp [dv,Zb,Zp]
  | .arr _ _ _=>by simp [dv,Zb,Zp]
  | .stc _ _=>by simp [dv,Zb,Zp]
  | .narr _ _=>by simp [dv,Zb,Zp,Z6w]
  | .earr _ _ _ _=>by simp [dv,Zb,Zp]
  | .ptr _ _=>by simp [dv,Zb,Zp] | .ap _ _ _ _ _=>by simp [dv,Zb,Zp] | .rptr _ _ _ _ _=>by simp [dv,Zb,Zp]
  | .pub _=>by simp [dv,Zb,Zp]
  | .rv _ _ _ _ _=>by simp [dv,Zb,Zp] | .slen _=>by simp [dv,Zb,Zp]
  | .rs _ _=>by simp [dv,Zb,Zp] | .map _=>by simp [dv,Zb,Zp] | .iter _=>by simp [dv,Zb,Zp] | .yld _=>by simp [dv,Zb,Zp]
  | .nilfn=>by simp [dv,Zb,Zp] | .nilmap=>by simp [dv,Zb,Zp] | .nilif=>by simp [dv,Zb,Zp]
  | .agg cs=>by simp only [dv,Zb,Zp];exact Z4x cs
  | .tup cs=>by simp only [dv,Zb,Zp];exact Z1x cs
  | .fn _ a c=>by simp only [dv,Zb,Zp,Z1x a,Z1x c]
  | .iface _ v=>by simp only [dv,Zb,Zp];exact Z6V v
theorem Z4x:∀ cs:List (TV S),Z9 (dvs T cs)=YB cs
  | []=>by simp [dvs,Z9,YB]
  | c::cs=>by
    rw [Zv,Z4w,YB,Z4x cs]
    have h:=Z6V c
    cases c<;>simp only [Y2,Z9,Bool.and_true]<;>first|rw [h]|skip
    · rw [Z1z (Yl hT _ _ _)];rfl
    · rw [Z1z (hT.plain _ _)];rfl
    · rfl
    · rw [Z6w];rfl
theorem Z1x:∀ cs:List (TV S),Z9 (dvl T cs)=YB cs
  | []=>by simp [dvl,Z9,YB]
  | c::cs=>by simp only [dvl,Z9,YB,Z6V c,Z1x cs]
end
mutual
theorem Z1N (n:Nat):∀ v:TV S,Z9q n v=true→bdd n (dv T v)=true
  | .bool _,_=>rfl | .int _ _,_=>rfl | .str _,_=>rfl | .nilp,_=>rfl | .nils,_=>rfl
  | .sl0,_=>by simp [dv,bdd] | .sl _ _,_=>by simp [dv,bdd]
  | .arr _ _ _,_=>by simp [dv,bdd]
  | .stc _ _,_=>by simp [dv,bdd]
  | .narr _ _,_=>by simp only [dv,bdd];exact ZgN n _
  | .earr _ _ _ _,h=>by simp only [dv,bdd];exact Zfm n h (Yt _ _ _ _)
  | .ptr _ _,h=>h | .ap _ _ _ _ _,h=>h | .rptr _ _ _ _ _,h=>h
  | .rv _ _ _ _ _,h=>h | .slen _,_=>by simp [dv,bdd]
  | .rs _ _,h=>h | .map _,h=>h | .iter _,h=>h | .yld _,h=>h
  | .nilfn,_=>by simp [dv,bdd] | .nilmap,_=>by simp [dv,bdd] | .nilif,_=>by simp [dv,bdd]
  | .pub cs,h=>by simp only [dv,bdd,Z9q] at h ⊢;exact Z8a n cs h
  | .agg cs,h=>by simp only [dv,bdd,Z9q] at h ⊢;exact Z8a n cs h
  | .tup cs,h=>by simp only [dv,bdd,Z9q] at h ⊢;exact Z5Z n cs h
  | .fn _ a c,h=>by
    simp only [dv,bdd,Z9q,Bool.and_eq_true] at h ⊢
    exact ⟨Z5Z n a h.1,Z5Z n c h.2⟩
  | .iface _ v,h=>by simp only [dv,bdd,Z9q] at h ⊢;exact Z1N n v h
theorem Z8a (n:Nat):∀ cs:List (TV S),Z5i n cs=true→Z1F n (dvs T cs)=true
  | [],_=>by simp [dvs,Z1F]
  | c::cs,h=>by
    simp only [Z5i,Bool.and_eq_true] at h
    rw [Zv,Z7m,Z8a n cs h.2,Bool.and_true]
    have hc:=Z1N n c h.1
    cases c<;>simp only [Y2,Z1F,Bool.and_true]<;>first|exact hc|skip
    · exact Z5M n (Yl hT _ _ _)
    · exact Z5M n (hT.plain _ _)
theorem Z5Z (n:Nat):∀ cs:List (TV S),Z5i n cs=true→Z1F n (dvl T cs)=true
  | [],_=>by simp [dvl,Z1F]
  | c::cs,h=>by
    simp only [Z5i,Bool.and_eq_true] at h
    simp only [dvl,Z1F,Z1N n c h.1,Z5Z n cs h.2,Bool.and_self]
end
mutual
theorem Z6B:∀ v:TV S,Zc (dv T v)=ZW v
  | .bool _=>rfl | .int _ _=>rfl | .str _=>rfl | .nilp=>rfl | .nils=>rfl
  | .sl0=>by simp [dv,Zc,ZW] | .sl _ _=>by simp [dv,Zc,ZW]
  | .arr _ _ _=>by simp [dv,Zc,ZW]
  | .stc _ _=>by simp [dv,Zc,ZW]
  | .narr _ _=>by simp only [dv,Zc,ZW];exact Z67 (Z16 0 _)
  | .earr _ _ _ _=>by simp only [dv,Zc,ZW];exact Z67 (Yt _ _ _ _)
  | .ptr _ _=>by simp [dv,Zc,ZW] | .ap _ _ _ _ _=>by simp [dv,Zc,ZW] | .rptr _ _ _ _ _=>by simp [dv,Zc,ZW]
  | .pub _=>by simp [dv,Zc,ZW]
  | .rv _ _ _ _ _=>by simp [dv,Zc,ZW] | .slen _=>by simp [dv,Zc,ZW]
  | .rs _ _=>by simp [dv,Zc,ZW] | .map _=>by simp [dv,Zc,ZW] | .iter _=>by simp [dv,Zc,ZW] | .yld _=>by simp [dv,Zc,ZW]
  | .nilfn=>by simp [dv,Zc,ZW] | .nilmap=>by simp [dv,Zc,ZW] | .nilif=>by simp [dv,Zc,ZW]
  | .agg cs=>by simp only [dv,Zc,ZW];exact Zcb cs
  | .tup cs=>by simp only [dv,Zc,ZW];exact Z3L cs
  | .fn _ a c=>by simp [dv,Zc,ZW]
  | .iface _ v=>by simp only [dv,Zc,ZW];exact Z6B v
theorem Zcb:∀ cs:List (TV S),Ze (dvs T cs)=Yk cs
  | []=>by simp [dvs,Ze,Yk]
  | c::cs=>by
    rw [Zv,Z4P,Yk,Zcb cs]
    have h:=Z6B c
    cases c<;>simp only [Y2,Ze,List.append_nil]<;>first|rw [h]|skip
    · rw [Z4J (Yl hT _ _ _)];rfl
    · rw [Z4J (hT.plain _ _)];rfl
    · rw [Z67 (Yt _ _ _ _)];rfl
    · rw [Z67 (Z16 0 _)];rfl
theorem Z3L:∀ cs:List (TV S),Ze (dvl T cs)=Yk cs
  | []=>by simp [dvl,Ze,Yk]
  | c::cs=>by simp only [dvl,Ze,Yk,Z6B c,Z3L cs]
end
mutual
theorem Zay:∀ v:TV S,Zw (dv T v)=Z1S v
  | .bool _=>rfl | .int _ _=>rfl | .str _=>rfl | .nilp=>rfl | .nils=>rfl
  | .sl0=>by simp [dv,Zw,Z1S] | .sl _ _=>by simp [dv,Zw,Z1S]
  | .arr _ _ _=>by simp [dv,Zw,Z1S]
  | .stc _ _=>by simp [dv,Zw,Z1S]
  | .narr _ _=>by simp [dv,Zw,Z1S,Ze3]
  | .earr _ _ _ _=>by simp [dv,Zw,Z1S]
  | .ptr _ _=>by simp [dv,Zw,Z1S] | .ap _ _ _ _ _=>by simp [dv,Zw,Z1S] | .rptr _ _ _ _ _=>by simp [dv,Zw,Z1S]
  | .pub _=>by simp [dv,Zw,Z1S]
  | .rv _ _ _ _ _=>by simp [dv,Zw,Z1S] | .slen _=>by simp [dv,Zw,Z1S]
  | .rs _ _=>by simp [dv,Zw,Z1S] | .map _=>by simp [dv,Zw,Z1S] | .iter _=>by simp [dv,Zw,Z1S] | .yld _=>by simp [dv,Zw,Z1S]
  | .nilfn=>by simp [dv,Zw,Z1S] | .nilmap=>by simp [dv,Zw,Z1S] | .nilif=>by simp [dv,Zw,Z1S]
  | .agg cs=>by simp only [dv,Zw,Z1S];exact ZdL cs
  | .tup cs=>by simp only [dv,Zw,Z1S];exact Z7T cs
  | .fn _ a c=>by simp only [dv,Zw,Z1S,Z7T a,Z7T c]
  | .iface _ v=>by simp only [dv,Zw,Z1S];exact Zay v
theorem ZdL:∀ cs:List (TV S),Zz (dvs T cs)=Z4y cs
  | []=>by simp [dvs,Zz,Z4y]
  | c::cs=>by
    rw [Zv,Z5m,Z4y,ZdL cs]
    have h:=Zay c
    cases c<;>simp only [Y2,Zz,List.append_nil]<;>first|rw [h]|skip
    · rw [Z5O (Yl hT _ _ _)];rfl
    · rw [Z5O (hT.plain _ _)];rfl
    · rfl
    · rw [Ze3];rfl
theorem Z7T:∀ cs:List (TV S),Zz (dvl T cs)=Z4y cs
  | []=>by simp [dvl,Zz,Z4y]
  | c::cs=>by simp only [dvl,Zz,Z4y,Zay c,Z7T cs]
end
mutual
theorem Z5H (h:Nat→Option (Zi S)):∀ v:TV S,frz (dvh T h) (dv T v)=(Yx h v).map (dv T)
  | .bool _=>by simp [dv,frz,Yx,Zb,Zp] | .int _ _=>by simp [dv,frz,Yx,Zb,Zp] | .str _=>by simp [dv,frz,Yx,Zb,Zp]
  | .nilp=>by simp [dv,frz,Yx,Zb,Zp] | .nils=>by simp [dv,frz,Yx]
  | .sl0=>by simp [dv,frz,Yx,Zb,Zp] | .sl _ _=>by simp [dv,frz,Yx,Zb,Zp]
  | .arr _ _ _=>by simp [dv,frz,Yx,Zb,Zp]
  | .stc _ _=>by simp [dv,frz,Yx,Zb,Zp]
  | .narr _ _=>by simp [dv,frz,Yx,Zp,Z8k _ (Z16 0 _),Z6w]
  | .earr ts pid n a=>by
    simp only [dv,frz,Yx,Zp,Z8k _ (Yt _ _ _ _)]
    cases Z9 (eal ts pid n a)<;>simp [dv]
  | .ptr _ _=>by simp [dv,frz,Yx,Zb,Zp] | .ap _ _ _ _ _=>by simp [dv,frz,Yx,Zb,Zp] | .rptr _ _ _ _ _=>by simp [dv,frz,Yx,Zb,Zp]
  | .pub _=>by simp [dv,frz,Yx,Zb,Zp]
  | .rs id v=>by
    simp only [dv,frz,Yx,dvh]
    cases h id with
    | none=>rfl
    | some o =>
      cases o<;>simp only [Option.map_some,Option.bind_some,dvO,Option.map_none]
      rename_i e t xs p u
      cases Nat.beq u v<;>simp [dv]
  | .rv _ _ _ _ _=>by simp [dv,frz,Yx,Zb,Zp] | .slen _=>by simp [dv,frz,Yx,Zb,Zp]
  | .map _=>by simp [dv,frz,Yx,Zb,Zp] | .iter _=>by simp [dv,frz,Yx,Zb,Zp] | .yld _=>by simp [dv,frz,Yx,Zb,Zp]
  | .nilfn=>by simp [dv,frz,Yx,Zb,Zp] | .nilmap=>by simp [dv,frz,Yx,Zb,Zp] | .nilif=>by simp [dv,frz,Yx,Zb,Zp]
  | .agg cs=>by
    simp only [dv,frz,Yx,Z8z h cs]
    cases Z1M h cs<;>simp [dv]
  | .tup cs=>by
    simp only [dv,frz,Yx,ZbC h cs]
    cases Z1M h cs<;>simp [dv]
  | .fn f a c=>by
    simp only [dv,frz,Yx,Zb,Zp,Z1x hT a,Z1x hT c]
    cases YB a&&YB c<;>simp [dv]
  | .iface t v=>by
    simp only [dv,frz,Yx,Z5H h v]
    cases Yx h v<;>simp [dv]
theorem Z8z (h:Nat→Option (Zi S)):∀ cs:List (TV S),Z1D (dvh T h) (dvs T cs)=(Z1M h cs).map (dvs T)
  | []=>by simp [dvs,Z1D,Z1M]
  | c::cs=>by
    rw [Zv,Z7w,Z8z h cs,Z1M]
    have hc:=Z5H h c
    by_cases ha:ZQ c=true
    · cases c<;>simp only [ZQ,Bool.false_eq_true] at ha
      · simp only [Y2,Yx,Zp,cond_true,Option.bind_some]
        rw [Z5N _ (Yl hT _ _ _)]
        cases Z1M h cs<;>simp [dvs]
      · simp only [Y2,Yx,Zp,cond_true,Option.bind_some]
        rw [Z5N _ (hT.plain _ _)]
        cases Z1M h cs<;>simp [dvs]
      · rename_i ts pid n a
        simp only [Y2,Yx,Zp]
        rw [Z8k _ (Yt _ _ _ _)]
        cases Z9 (eal ts pid n a)
        · rfl
        · cases Z1M h cs<;>simp [dvs]
      · simp only [Y2,Yx,Zp,cond_true,Option.bind_some]
        rw [Z8k _ (Z16 0 _),Z6w]
        cases Z1M h cs<;>simp [dvs]
    · have h1:Y2 T c=[dv T c]:=by cases c<;>simp [Y2,ZQ] at ha ⊢
      rw [h1]
      simp only [Z1D,hc]
      cases hf:Yx h c with
      | none=>rfl
      | some c' =>
        have ha':ZQ c'=false:=by
          cases c<;>simp [ZQ] at ha<;>simp only [Yx,Zp,cond_true,cond_false,reduceCtorEq,Option.some.injEq] at hf<;>first|(subst hf;rfl)|skip
          · cases ho:h _ with
            | none=>rw [ho] at hf;cases hf
            | some o =>
              rw [ho] at hf
              cases o<;>simp only [Option.bind_some,reduceCtorEq] at hf
              obtain ⟨_,hf⟩:=Z2 hf
              cases hf;rfl
          · obtain ⟨_,_,hf⟩:=Z0 hf;cases hf;rfl
          · obtain ⟨_,_,hf⟩:=Z0 hf;cases hf;rfl
          · obtain ⟨_,hf⟩:=Z2 hf;cases hf;rfl
          · obtain ⟨_,_,hf⟩:=Z0 hf;cases hf;rfl
        have h2:∀ l,dvs T (c'::l)=dv T c'::dvs T l:=fun l=>by
          rw [Zv]
          cases c'<;>simp [Y2,ZQ] at ha' ⊢
        cases Z1M h cs<;>simp [h2]
theorem ZbC (h:Nat→Option (Zi S)):∀ cs:List (TV S),Z1D (dvh T h) (dvl T cs)=(Z1M h cs).map (dvl T)
  | []=>by simp [dvl,Z1D,Z1M]
  | c::cs=>by
    simp only [dvl,Z1D,Z1M,Z5H h c,ZbC h cs]
    cases Yx h c with
    | none=>rfl
    | some c'=>cases Z1M h cs<;>simp [dvl]
end
theorem Zgr (E:Env) (h:Nat→Option (Zi S)) (v:TV S):Z8w E (dvh T h) (dv T v)=(ZbA E h v).map (dv T):=by
  cases v with
  | rv id ver i n e =>
    simp only [dv,Z8w,ZbA,dvh]
    cases h id with
    | none=>rfl
    | some o =>
      cases o<;>simp only [Option.map_some,Option.bind_some,dvO,Option.map_none]
      rename_i t te xs p u
      cases Nat.beq u ver&&Nat.beq (match E.ty t with|some ti=>ti.size|none=>0) e<;>simp [dv,List.map_drop,List.map_take]
  | _=>first|exact Z5H hT h _|(simp only [dv,Z8w,ZbA];exact Z5H hT h _)
theorem Z6T (E:Env) (h:Nat→Option (Zi S)):∀ cs:List (TV S),Z3C E (dvh T h) (dvl T cs)=(Z6S E h cs).map (dvl T)
  | []=>by simp [dvl,Z3C,Z6S]
  | c::cs=>by
    simp only [dvl,Z3C,Z6S,Zgr hT E h c,Z6T E h cs]
    cases ZbA E h c with
    | none=>rfl
    | some c'=>cases Z6S E h cs<;>simp [dvl]
omit hT in
theorem Z86:∀ cs:List (TV S),(dvl T cs).any Zfu=cs.any ZdM
  | []=>by simp [dvl]
  | c::cs=>by
    simp only [dvl,List.any_cons,Z86 cs]
    cases c<;>simp [dv,Zfu,ZdM]
omit hT in
mutual
theorem Zei:∀ {v v':TV S},Zeh v=some v'→Yo (dv T v)=some (dv T v')
  | .bool _,_,h=>by cases h;simp [dv,Yo]
  | .int _ _,_,h=>by cases h;simp [dv,Yo]
  | .str _,_,h=>by cases h;simp [dv,Yo]
  | .sl0,_,h=>by cases h;simp [dv,Yo]
  | .sl _ _,_,h=>by cases h;simp [dv,Yo]
  | .tup vs,_,h=>by
    simp only [Zeh] at h
    obtain ⟨vs',h1,h⟩:=Z0 h
    cases h
    simp only [dv,Yo,Zcv h1,Option.bind_some]
theorem Zcv:∀ {vs vs':List (TV S)},Zb8 vs=some vs'→Z4W (dvl T vs)=some (dvl T vs')
  | [],_,h=>by cases h;simp [dvl,Z4W]
  | c::cs,_,h=>by
    simp only [Zb8] at h
    obtain ⟨c',h1,h⟩:=Z0 h
    obtain ⟨cs',h2,h⟩:=Z0 h
    cases h
    simp only [dvl,Z4W,Zei h1,Zcv h2,Option.bind_some]
end
mutual
theorem ZaP (n:Nat) (L:List (Option (Nat×Nat))):∀ (v v':TV S),Z36 n L v=some v'→ren n L (dv T v)=some (dv T v')
  | .rs id v,v',h=>by
    simp only [dv,ren,Z36] at h ⊢
    cases hj:Z5k id v 0 L with
    | some j=>rw [hj] at h;cases h;rfl
    | none =>
      rw [hj] at h
      obtain ⟨h1,h⟩:=Z2 h
      cases h
      simp only [h1,cond_true];rfl
  | .agg cs,v',h=>by
    simp only [Z36] at h
    obtain ⟨cs',h1,h⟩:=Z0 h
    cases h
    simp only [dv,ren,Z8X n L cs cs' h1,Option.bind_some]
  | .tup cs,v',h=>by
    simp only [Z36] at h
    obtain ⟨cs',h1,h⟩:=Z0 h
    cases h
    simp only [dv,ren,Zc2 n L cs cs' h1,Option.bind_some]
  | .narr ts m,v',h=>by
    simp only [Z36] at h
    obtain ⟨_,h⟩:=Z2 h
    cases h
    simp only [dv,ren,Ze4 n L m,Option.bind_some]
  | .earr ts pid m a,v',h=>by
    simp only [Z36] at h
    obtain ⟨h1,h⟩:=Z2 h
    cases h
    simp only [dv,ren,ZcL n L h1 (Yt _ _ _ _),Option.bind_some]
  | .bool _,v',h=>by cases h;simp [dv,ren,bdd] | .int _ _,v',h=>by cases h;simp [dv,ren,bdd] | .str _,v',h=>by cases h;simp [dv,ren,bdd]
  | .nilp,v',h=>by cases h;simp [dv,ren,bdd] | .nils,v',h=>by cases h;simp [dv,ren,bdd]
  | .sl0,v',h=>by cases h;simp [dv,ren,bdd] | .sl _ _,v',h=>by cases h;simp [dv,ren,bdd]
  | .arr _ _ _,v',h=>by cases h;simp [dv,ren,bdd]
  | .stc _ _,v',h=>by cases h;simp [dv,ren,bdd]
  | .nilfn,v',h=>by cases h;simp [dv,ren,bdd] | .nilmap,v',h=>by cases h;simp [dv,ren,bdd] | .nilif,v',h=>by cases h;simp [dv,ren,bdd]
  | .ptr i o,v',h=>by
    simp only [Z36] at h;obtain ⟨h1,h⟩:=Z2 h;cases h
    have:=Z1N hT n (.ptr i o) h1
    simp only [dv,ren] at this ⊢;rw [this];rfl
  | .ap i b j e o,v',h=>by
    simp only [Z36] at h;obtain ⟨h1,h⟩:=Z2 h;cases h
    have:=Z1N hT n (.ap i b j e o) h1
    simp only [dv,ren] at this ⊢;rw [this];rfl
  | .rptr i w j e o,v',h=>by
    simp only [Z36] at h;obtain ⟨h1,h⟩:=Z2 h;cases h
    have:=Z1N hT n (.rptr i w j e o) h1
    simp only [dv,ren] at this ⊢;rw [this];rfl
  | .rv i w j m e,v',h=>by
    simp only [Z36] at h;obtain ⟨h1,h⟩:=Z2 h;cases h
    have:=Z1N hT n (.rv i w j m e) h1
    simp only [dv,ren] at this ⊢;rw [this];rfl
  | .slen _,v',h=>by cases h;simp [dv,ren,bdd]
  | .pub cs,v',h=>by
    simp only [Z36] at h;obtain ⟨h1,h⟩:=Z2 h;cases h
    have:=Z1N hT n (.pub cs) h1
    simp only [dv,ren] at this ⊢;rw [this];rfl
  | .map i,v',h=>by
    simp only [Z36] at h;obtain ⟨h1,h⟩:=Z2 h;cases h
    have:=Z1N hT n (.map i) h1
    simp only [dv,ren] at this ⊢;rw [this];rfl
  | .iter i,v',h=>by
    simp only [Z36] at h;obtain ⟨h1,h⟩:=Z2 h;cases h
    have:=Z1N hT n (.iter i) h1
    simp only [dv,ren] at this ⊢;rw [this];rfl
  | .yld i,v',h=>by
    simp only [Z36] at h;obtain ⟨h1,h⟩:=Z2 h;cases h
    have:=Z1N hT n (.yld i) h1
    simp only [dv,ren] at this ⊢;rw [this];rfl
  | .fn f a c,v',h=>by
    simp only [Z36] at h;obtain ⟨h1,h⟩:=Z2 h;cases h
    have:=Z1N hT n (.fn f a c) h1
    simp only [dv,ren] at this ⊢;rw [this];rfl
  | .iface t v,v',h=>by
    simp only [Z36] at h;obtain ⟨h1,h⟩:=Z2 h;cases h
    have:=Z1N hT n (.iface t v) h1
    simp only [dv,ren] at this ⊢;rw [this];rfl
theorem Z8X (n:Nat) (L:List (Option (Nat×Nat))):∀ (cs cs':List (TV S)),Z7A n L cs=some cs'→Z2j n L (dvs T cs)=some (dvs T cs')
  | [],cs',h=>by cases h;simp [dvs,Z2j]
  | c::cs,r,h=>by
    simp only [Z7A] at h
    obtain ⟨c',h1,h⟩:=Z0 h
    obtain ⟨cs',h2,h⟩:=Z0 h
    cases h
    rw [Zv,Z7B,Z8X n L cs cs' h2,Zv]
    have hc:=ZaP n L c c' h1
    by_cases ha:ZQ c=true
    · cases c<;>simp only [ZQ,Bool.false_eq_true] at ha
      · cases h1
        simp only [Y2,Option.bind_some]
        rw [Z5P n L (Yl hT _ _ _)];rfl
      · cases h1
        simp only [Y2,Option.bind_some]
        rw [Z5P n L (hT.plain _ _)];rfl
      · simp only [Z36] at h1
        obtain ⟨h3,h1⟩:=Z2 h1
        cases h1
        simp only [Y2,Option.bind_some]
        rw [ZcL n L h3 (Yt _ _ _ _)];rfl
      · simp only [Z36] at h1
        obtain ⟨h3,h1⟩:=Z2 h1
        cases h1
        simp only [Y2,Option.bind_some]
        rw [Ze4 n L];rfl
    · have e1:Y2 T c=[dv T c]:=by cases c<;>simp [Y2,ZQ] at ha ⊢
      have ha':ZQ c'=false:=by
        cases c<;>simp [ZQ] at ha<;>simp only [Z36,Z9q,cond_true,Option.some.injEq] at h1<;>first|(subst h1;rfl)|(obtain ⟨_,h1⟩:=Z2 h1;cases h1;rfl)|(obtain ⟨_,_,h1⟩:=Z0 h1;cases h1;rfl)|skip
        rename_i id v
        cases hj:Z5k id v 0 L with
        | some j=>rw [hj] at h1;cases h1;rfl
        | none=>rw [hj] at h1;obtain ⟨_,h1⟩:=Z2 h1;cases h1;rfl
      have e2:Y2 T c'=[dv T c']:=by cases c'<;>simp [Y2,ZQ] at ha' ⊢
      rw [e1,e2]
      simp only [Z2j,hc,Option.bind_some]
theorem Zc2 (n:Nat) (L:List (Option (Nat×Nat))):∀ (cs cs':List (TV S)),Z7A n L cs=some cs'→Z2j n L (dvl T cs)=some (dvl T cs')
  | [],cs',h=>by cases h;simp [dvl,Z2j]
  | c::cs,r,h=>by
    simp only [Z7A] at h
    obtain ⟨c',h1,h⟩:=Z0 h
    obtain ⟨cs',h2,h⟩:=Z0 h
    cases h
    simp only [dvl,Z2j,ZaP n L c c' h1,Zc2 n L cs cs' h2,Option.bind_some]
end
omit hT in
theorem Z6D (h:Nat→Option (Zi S)):∀ is,Zo (dvh T h) is=dvu T (Z5v h is)
  | []=>rfl
  | i::is=>by
    simp only [Zo,Z5v,Z6D h is,dvh,dvu,List.map_append]
    cases h i with
    | none=>rfl
    | some o =>
      cases o with
      | row e t xs p u=>simp only [Option.map_some,dvO];cases Nat.beq p 1<;>simp [dvO]
      | _=>simp [dvO]
end
end Go.Ab
namespace Go.Ab
variable {S:Nat→Type} {R:Type}
def ZcR:Option (Zi S)→Bool
  | some (.loop ..)=>true
  | _=>false
def Z5y (u:List (Nat×Option (Zi S))):Prop:=∀ p∈u,ZcR p.2=false
theorem ZP:Z5y (S:=S) []:=fun _ h=>by cases h
theorem ZR {i:Nat} {x:Option (Zi S)} {u:List (Nat×Option (Zi S))} (hx:ZcR x=false) (h:Z5y u):Z5y ((i,x)::u):=fun p hp=>by
  rcases List.mem_cons.1 hp with e|hp
  · subst e;exact hx
  · exact h p hp
theorem Z2g (h:Nat→Option (Zi S)):∀ is,Z5y (Z5v h is)
  | []=>ZP
  | i::is=>fun p hp=>by
    simp only [Z5v,List.mem_append] at hp
    rcases hp with hp|hp
    · cases hi:h i with
      | none=>rw [hi] at hp;simp at hp
      | some o =>
        rw [hi] at hp
        cases o with
        | row e t xs p1 u =>
          simp only at hp
          cases hb:Nat.beq p1 1 with
          | true=>rw [hb] at hp;cases hp
          | false=>rw [hb] at hp;simp only [cond_false,List.mem_singleton] at hp;subst hp;rfl
        | _=>cases hp
    · exact Z2g h is p hp
def Sim (T:TS S) (e:Option Out) (k:Z2q S R) (r:R):Prop:=∃ o:Zaf S,e=some (Y3 T o)∧Z5y o.upd∧k o=some r
theorem Zs {T:TS S} {k:Z2q S R} {r:R} {v:TV S} {e:Option Out} (h:ZJ v k=some r) (he:e=ret (dv T v)):Sim T e k r:=⟨⟨some v,[]⟩,by rw [he];rfl,ZP,h⟩
theorem Z1I:∀ {x y x' y':List DV},Za x y=true→Za (x++x') (y++y')=Za x' y'
  | [],[],_,_,_=>rfl
  | [],_::_,_,_,h=>by simp [Za] at h
  | a::x,[],_,_,h=>by cases a<;>simp [Za] at h
  | a::x,b::y,x',y',h=>by
    cases a<;>cases b<;>simp only [Za,Bool.and_eq_true,Bool.false_eq_true] at h<;>simp only [List.cons_append,Za]
    · exact Z1I h
    · rw [h.1,Z1I h.2,Bool.true_and]
    · exact Z1I h
theorem Z12:∀ {x y x' y':List DV} {p q:Bool},Zg x y=some p→Zg x' y'=some q→Zg (x++x') (y++y')=some (p&&q)
  | [],[],_,_,p,q,h,h'=>by simp [Zg] at h;subst h;simpa using h'
  | [],_::_,_,_,_,_,h,_=>by simp [Zg] at h
  | a::x,[],_,_,_,_,h,_=>by cases a<;>simp [Zg] at h
  | a::x,b::y,x',y',p,q,h,h'=>by
    cases a<;>cases b<;>simp only [Zg,reduceCtorEq] at h<;>simp only [List.cons_append,Zg]
    · obtain ⟨r,h1,h⟩:=Z0 h
      cases h
      rw [Z12 h1 h'];simp [Bool.and_assoc]
    · obtain ⟨h0,h⟩:=Z2 h
      obtain ⟨r,h1,h⟩:=Z0 h
      cases h
      rw [h0,Z12 h1 h'];simp [Bool.and_assoc]
    · obtain ⟨r,h1,h⟩:=Z0 h
      cases h
      rw [Z12 h1 h'];simp [Bool.and_assoc]
section
variable (T:TS S)
theorem Zdh {t:Ty} (hs:(Z3w (S:=S) t).isSome=true) (x y:Val S t):Za (dcl T t x) (dcl T t y)=true:=by
  cases t<;>simp [Z3w] at hs<;>simp [dcl,Za]
theorem ZgQ {t:Ty} {e:Val S t→Val S t→Bool} (hs:Z3w t=some e) (x y:Val S t):Zg (dcl T t x) (dcl T t y)=some (e x y):=by
  cases t<;>simp only [Z3w,reduceCtorEq] at hs<;>cases hs<;>simp [dcl,Zg]
theorem Z9z {t:Ty} (hs:(Z3w (S:=S) t).isSome=true) (a b:Nat→Val S t):∀ l:List Nat,Za (l.flatMap fun j=>dcl T t (a j)) (l.flatMap fun j=>dcl T t (b j))=true
  | []=>rfl
  | j::l=>by
    simp only [List.flatMap_cons]
    rw [Z1I (Zdh T hs _ _)]
    exact Z9z hs a b l
theorem Zf4 {t:Ty} {e:Val S t→Val S t→Bool} (hs:Z3w t=some e) (a b:Nat→Val S t):∀ l:List Nat,Zg (l.flatMap fun j=>dcl T t (a j)) (l.flatMap fun j=>dcl T t (b j))=some (l.all fun j=>e (a j) (b j))
  | []=>rfl
  | j::l=>by
    simp only [List.flatMap_cons,List.all_cons]
    exact Z12 (ZgQ T hs _ _) (Zf4 hs a b l)
theorem Z1T:∀ {z a:List (TV S)},Z2Z z a=true→Za (dvs T z) (dvs T a)=true
  | [],[],_=>by simp [dvs,Za]
  | [],_::_,h=>by simp [Z2Z] at h
  | z::zs,[],h=>by cases z<;>simp [Z2Z] at h
  | z::zs,a::as,h=>by
    cases z<;>cases a<;>simp only [Z2Z,Bool.and_eq_true,Bool.false_eq_true] at h<;>simp only [dvs,dv,Za]
    · exact Z1T h
    · rw [h.1,Z1T h.2];rfl
    · exact Z1T h
    · obtain ⟨⟨⟨h1,h2⟩,h3⟩,h4⟩:=h
      have h1:=of_decide_eq_true h1
      have h2:=Nat.eq_of_beq_eq_true h2
      subst h1 h2
      exact (Z1I (Z9z T h3 _ _ (List.range _))).trans (Z1T h4)
theorem Z1u:∀ {a b:List (TV S)} {r:Bool},Z11 a b=some r→Zg (dvs T a) (dvs T b)=some r
  | [],[],r,h=>by simp [Z11] at h;subst h;simp [dvs,Zg]
  | [],_::_,_,h=>by simp [Z11] at h
  | z::zs,[],_,h=>by cases z<;>simp [Z11] at h
  | z::zs,a::as,r,h=>by
    cases z<;>cases a<;>simp only [Z11,reduceCtorEq] at h<;>simp only [dvs,dv,Zg]
    · obtain ⟨q,h1,h⟩:=Z0 h
      rw [Z1u h1];exact h
    · obtain ⟨h0,h⟩:=Z2 h
      obtain ⟨q,h1,h⟩:=Z0 h
      rw [h0,Z1u h1];exact h
    · obtain ⟨q,h1,h⟩:=Z0 h
      rw [Z1u h1];exact h
    · split at h
      · rename_i e
        obtain ⟨h0,h⟩:=Z2 h
        obtain ⟨eq,h1,h⟩:=Z0 h
        obtain ⟨q,h2,h⟩:=Z0 h
        cases h
        have h0:=Nat.eq_of_beq_eq_true h0
        subst e h0
        exact Z12 (Zf4 T h1 _ _ _) (Z1u h2)
      · cases h
end
variable {X:Yb S} (hX:XOk X)
include hX
theorem Zge {op:BinOp} {t:TypeId} {x y:TV S} {k:Z2q S R} {r:R} (h:Zh7 X op t x y k=some r):Sim X.T ((Zaj X.E op t (dv X.T x) (dv X.T y)).bind ret) k r:=by
  unfold Zh7 at h
  split at h
  · rename_i kd a kd' b
    simp only [dv,Zaj]
    cases op<;>simp only [reduceCtorEq] at h<;>simp only [Z53,cond_false,cond_true,Zgt,Zb3,Zgf,ZdA]
    case shl =>
      cases hb:decide (b<0) with
      | true=>rw [hb] at h;cases h
      | false=>rw [hb] at h;exact Zs h rfl
    case shr =>
      cases hb:decide (b<0) with
      | true=>rw [hb] at h;cases h
      | false=>rw [hb] at h;exact Zs h rfl
    case quo =>
      obtain ⟨h0,h⟩:=Z2 h
      rw [h0]
      cases hb:b==0 with
      | true=>rw [hb] at h;cases h
      | false=>rw [hb] at h;exact Zs h rfl
    case rem =>
      obtain ⟨h0,h⟩:=Z2 h
      rw [h0]
      cases hb:b==0 with
      | true=>rw [hb] at h;cases h
      | false=>rw [hb] at h;exact Zs h rfl
    all_goals
      obtain ⟨h0,h⟩:=Z2 h
      rw [h0]
      exact Zs h rfl
  · rename_i a b
    simp only [dv,Zaj,ZgS]
    cases op<;>simp only [reduceCtorEq] at h
    case add =>
      obtain ⟨h0,h⟩:=Z2 h
      rw [h0]
      exact Zs h rfl
    all_goals exact Zs h rfl
  · rename_i a b
    obtain ⟨ti,h1,h⟩:=Z0 h
    simp only [dv,Zaj,h1,Option.bind_some]
    cases hk:ti.k<;>rw [hk] at h<;>first|(cases h;done)|skip
    cases op<;>simp only [reduceCtorEq] at h<;>exact Zs h rfl
  · rename_i a b
    obtain ⟨ti,h1,h⟩:=Z0 h
    obtain ⟨z,h2,h⟩:=Z0 h
    obtain ⟨h3,h⟩:=Z2 h
    simp only [Bool.and_eq_true] at h3
    simp only [dv,Zaj,h1,Option.bind_some]
    have hz:=hX.zero t z ti h2 h1
    have k1:=Z1T X.T h3.1.2
    have k2:=Z1T X.T h3.2
    rw [Z29 hX.t,Z29 hX.t] at k1 k2
    rw [h3.1.1,←hz,k1,k2]
    simp only [Bool.and_self,cond_true]
    split at h
    · obtain ⟨q,h4,h⟩:=Z0 h
      have k3:=Z1u X.T h4
      rw [Z29 hX.t,Z29 hX.t] at k3
      rw [k3];exact Zs h rfl
    · obtain ⟨q,h4,h⟩:=Z0 h
      have k3:=Z1u X.T h4
      rw [Z29 hX.t,Z29 hX.t] at k3
      rw [k3];exact Zs h rfl
    · cases h
  · rename_i tt xs
    obtain ⟨ti,h1,h⟩:=Z0 h
    cases xs with
    | nil =>
      cases hk:ti.k<;>rw [hk] at h<;>first|(cases h;done)|skip
      cases op<;>simp at h
    | cons c cs =>
      simp only [dv,List.map_cons,Zaj,h1,Option.bind_some]
      cases hk:ti.k<;>rw [hk] at h<;>first|(cases h;done)|skip
      cases op<;>simp only [reduceCtorEq] at h<;>exact Zs h rfl
  · cases h
omit hX in
theorem Zhq {T:TS S} {op:UnOp} {x:TV S} {k:Z2q S R} {r:R} (h:unK op x k=some r):Sim T ((unD op (dv T x)).bind ret) k r:=by
  unfold unK at h
  split at h
  · split at h
    · exact Zs h rfl
    · cases h
  · split at h
    · exact Zs h rfl
    · cases h
  · cases h
omit hX in
theorem Z52 {T:TS S} {n:Nat} {x:TV S} {k:Nat→Option R} {r:R} (h:ZbF n x k=some r):∃ i,Z2Y n (dv T x)=some i∧i<n∧k i=some r:=by
  unfold ZbF at h
  split at h
  · rename_i kd i
    obtain ⟨h1,h⟩:=Z2 h
    have h2:=h1
    simp only [Bool.and_eq_true,decide_eq_true_eq] at h2
    refine ⟨i.toNat,?_,by omega,h⟩
    simp only [dv,Z2Y]
    rw [h1];rfl
  · cases h
omit hX in
theorem Z2O {T:TS S} {d:Option (TV S)} {dflt y:Nat} {k:Nat→Option R} {r:R} (h:Z4r d dflt y k=some r):∃ i,Z2s (d.map (dv T)) dflt y=some i∧k i=some r:=by
  unfold Z4r at h
  split at h
  · exact ⟨dflt,rfl,h⟩
  · rename_i kd i
    obtain ⟨h1,h⟩:=Z2 h
    refine ⟨i.toNat,?_,h⟩
    simp only [Option.map_some,dv,Z2s]
    rw [h1];rfl
  · cases h
omit hX in
theorem ZeA {T:TS S} (h:Nat→Option (Zi S)) (d:TV S):Z2X (dvh T h) (dv T d)=Z6e h d:=by
  cases d with
  | rs id v =>
    simp only [dv,Z2X,Z6e,dvh]
    cases h id with
    | none=>rfl
    | some o=>cases o<;>rfl
  | _=>simp [dv,Z2X,Z6e]
omit hX in
theorem Z6P {T:TS S} {t:Ty} {h:Nat→Option (Zi S)} {x:TV S} {xs:List (Val S t)} (he:Zap t h x=some xs):ZZ (dvh T h) (dv T x)=some (xs.map (dcl T t)):=by
  unfold Zap at he
  split at he
  · cases he;rfl
  · cases he;simp [dv,ZZ]
  · split at he
    · rename_i e;subst e;cases he;simp [dv,ZZ]
    · cases he
  · rename_i id v
    obtain ⟨o,ho,he⟩:=Z0 he
    simp only [dv,ZZ,dvh,ho,Option.map_some,Option.bind_some]
    cases o<;>simp only [reduceCtorEq] at he
    obtain ⟨h1,he⟩:=Z2 he
    split at he
    · rename_i e;subst e;cases he
      simp only [dvO,h1,cond_true]
    · cases he
  · cases he
omit hX in
theorem Z3G {i n:Nat} (h:i<n):List.range n=List.range i++(i::List.range' (i+1) (n-(i+1))):=by
  rw [List.range_eq_range',List.range_eq_range',←List.range'_succ,show n-(i+1)+1=n-i by omega]
  have:=(List.range'_append_1 (s:=0) (m:=i) (n:=n-i))
  rw [Nat.zero_add,show i+(n-i)=n by omega] at this
  exact this.symm
omit hX in
theorem Zbp {T:TS S} {pid m:Nat} {k:Z2q S R} {r:R}:∀ {ts:List TypeId} {j:Nat},Zgl pid m ts j k=some r→j≤m→∃ v:TV S,dv T v=enD pid ts (m-j+1)∧ZJ v k=some r
  | [],_,h,_=>by cases h
  | t::ts,j,h,hj=>by
    simp only [Zgl] at h
    cases hq:Nat.beq m j with
    | true =>
      rw [hq] at h
      have:=Nat.eq_of_beq_eq_true hq
      subst this
      refine ⟨_,?_,h⟩
      rw [Nat.sub_self];simp [dv,dvs,enD]
    | false =>
      rw [hq] at h
      have hne:m≠j:=fun e=>by subst e;rw [Nat.beq_refl] at hq;cases hq
      obtain ⟨v,h1,h2⟩:=Zbp h (by omega)
      refine ⟨v,?_,h2⟩
      rw [h1,show m-j+1=(m-(j+1))+2 by omega]
      simp [enD]
omit hX in
theorem Zgm {T:TS S} {ts:List TypeId} {pid m:Nat} {k:Z2q S R} {r:R} (h:enK ts pid m k=some r):∃ v:TV S,dv T v=enD pid ts m∧ZJ v k=some r:=by
  unfold enK at h
  cases hq:Nat.beq m 0 with
  | true =>
    rw [hq] at h
    have:=Nat.eq_of_beq_eq_true hq
    subst this
    exact ⟨.nilif,by cases ts<;>rfl,h⟩
  | false =>
    rw [hq] at h
    have hne:m≠0:=fun e=>by subst e;cases hq
    obtain ⟨v,h1,h2⟩:=Zbp (T:=T) h (by omega)
    exact ⟨v,by rw [h1,show m-1+1=m by omega],h2⟩
theorem Z8j {cs:List (TV S)} {base n pid:Nat} {ts:List TypeId} {a:Nat→Nat} (h:Zao X.T cs base=some (ts,pid,n,a)):∃ q,base+n≤(dvs X.T cs).length∧(dvs X.T cs).drop base=eal ts pid n a++q:=by
  unfold Zao at h
  obtain ⟨q,h1,h⟩:=Z0 h
  split at h
  · rename_i ts' pid' n' a' q' hq'
    cases h
    obtain ⟨h5,h6⟩:=Z1t hX.t h1
    rw [←Z2F hX.t 10 q,hq',Zv] at h6
    refine ⟨dvs X.T q',?_,h6⟩
    have:=congrArg List.length h6
    simp [Y2,eal] at this
    rw [ZY hX.t]
    rw [ZY hX.t] at this
    omega
  · cases h
theorem ZbM {ti:TI} {h:Nat→Option (Zi S)} {a:TV S} {k:Z2q S R} {r:R} (hk:ZdS X ti h a k=some r):Sim X.T ((Z30 ti (dvh X.T h) (dv X.T a)).bind ret) k r:=by
  unfold ZdS at hk
  split at hk
  · rename_i id off
    obtain ⟨o,ho,hk⟩:=Z0 hk
    simp only [dv,Z30,dvh,ho,Option.map_some,Option.bind_some]
    cases o<;>simp only [reduceCtorEq] at hk
    obtain ⟨v,h1,hk⟩:=Z0 hk
    simp only [dvO,(Z3D hX.t h1).1]
    exact Zs hk rfl
  · rename_i id base i e off
    obtain ⟨o,ho,hk⟩:=Z0 hk
    simp only [dv,Z30,dvh,ho,Option.map_some,Option.bind_some]
    cases o<;>simp only [reduceCtorEq] at hk
    rename_i ct cs
    split at hk
    · rename_i ts pid n a hE
      obtain ⟨h1,hk1⟩:=Z2 hk
      obtain ⟨h2,hk2⟩:=Z2 hk1
      clear hk hk1
      simp only [Bool.and_eq_true,Bool.not_eq_true'] at h1
      obtain ⟨⟨h3,h4⟩,h5⟩:=h1
      have h3:=Nat.eq_of_beq_eq_true h3
      have h4:=Nat.eq_of_beq_eq_true h4
      subst h3 h4
      have h2:i<n:=by simpa [Tr.blt_dec] using h2
      obtain ⟨v,h6,h7⟩:=Zgm (T:=X.T) hk2
      obtain ⟨q,h8,h9⟩:=Z8j hX hE
      have hp:YD ti (dvs X.T cs) (base+i*1+0)=some (dv X.T v):=by
        unfold YD
        rw [h5]
        simp only [cond_false]
        have:(dvs X.T cs)[base+i*1+0]? = ((dvs X.T cs).drop base)[i]? := by simp
        rw [this,h9,List.getElem?_append_left (by simp [eal];exact h2),h6]
        simp [eal,h2]
      simp only [dvO,hp]
      exact Zs h7 rfl
    obtain ⟨A,hA,hk⟩:=Z0 hk
    obtain ⟨t,n,a⟩:=A
    simp only at hk
    obtain ⟨h1,hk1⟩:=Z2 hk
    obtain ⟨h2,hk2⟩:=Z2 hk1
    obtain ⟨v,h3,hk3⟩:=Z0 hk2
    clear hk hk1 hk2
    have h1:=Nat.eq_of_beq_eq_true h1
    have h2:i<n:=by simpa [Tr.blt_dec] using h2
    subst h1
    unfold Z88 at hA
    obtain ⟨q,h4,hA⟩:=Z0 hA
    split at hA
    · rename_i t' n' a' q' hq'
      cases hA
      obtain ⟨h5,h6⟩:=Z1t hX.t h4
      rw [←Z2F hX.t 10 q,hq'] at h6
      rw [←ZY hX.t q,←Z2F hX.t 10 q,hq',ZY hX.t] at h5
      obtain ⟨h7,h8⟩:=Z3D hX.t h3
      rw [Z2M hX.t] at h7
      have h9:YD ti (dvs X.T cs) (base+i*tsz X.T t+off)=some (dv X.T v):=by
        have hcut:∀ m,(dvs X.T cs).drop (base+m)=(acl X.T t n a++dvs X.T q').drop m:=fun m=>by
          rw [←List.drop_drop,h6,Zv];rfl
        have hlen:=ZY hX.t cs
        rw [h5] at hlen
        simp only [wds,wd] at hlen
        have hin:(i+1)*tsz X.T t≤n*tsz X.T t:=Nat.mul_le_mul_right _ h2
        have hpart:∀ m,m≤tsz X.T t→∃ rest,(acl X.T t n a++dvs X.T q').drop (i*tsz X.T t+m)=(dcl X.T t (a i)).drop m++rest:=fun m hm=>by
          refine ⟨((List.range' (i+1) (n-(i+1))).flatMap fun j=>dcl X.T t (a j))++dvs X.T q',?_⟩
          have hsplit:acl X.T t n a=((List.range i).flatMap fun j=>dcl X.T t (a j))++(dcl X.T t (a i)++(List.range' (i+1) (n-(i+1))).flatMap fun j=>dcl X.T t (a j)):=by
            unfold acl
            rw [Z3G h2,List.flatMap_append,List.flatMap_cons]
          have hl:((List.range i).flatMap fun j=>dcl X.T t (a j)).length=i*tsz X.T t:=YV hX.t t i a
          rw [hsplit,List.append_assoc,List.drop_append,hl,List.drop_eq_nil_of_le (by rw [hl];omega),List.nil_append,Nat.add_sub_cancel_left,List.append_assoc,List.drop_append_of_le_length (by rw [Y8 hX.t];exact hm)]
        unfold YD at h7 ⊢
        cases hag:ti.isAgg with
        | true =>
          rw [hag] at h7
          simp only [cond_true] at h7 ⊢
          obtain ⟨h10,h11⟩:=Z2 h7
          rw [Nat.ble_eq,Y8 hX.t] at h10
          obtain ⟨rest,hr⟩:=hpart off (by omega)
          have hle:Nat.ble (base+i*tsz X.T t+off+ti.size) (dvs X.T cs).length=true:=by
            rw [Nat.ble_eq,hlen]
            rw [Nat.add_mul,Nat.one_mul] at hin
            omega
          rw [hle,Nat.add_assoc,hcut,hr]
          simp only [cond_true]
          rw [List.take_append_of_le_length (by rw [List.length_drop,Y8 hX.t];omega)]
          exact h11
        | false =>
          rw [hag] at h7
          simp only [cond_false] at h7 ⊢
          have hlt:=(List.getElem?_eq_some_iff.1 h7).1
          rw [Y8 hX.t] at hlt
          obtain ⟨rest,hr⟩:=hpart off (by omega)
          have:(dvs X.T cs)[base+i*tsz X.T t+off]? = ((dvs X.T cs).drop (base+(i*tsz X.T t+off)))[0]? := by simp [Nat.add_assoc]
          rw [this,hcut,hr,List.getElem?_append_left (by rw [List.length_drop,Y8 hX.t];omega)]
          simpa using h7
      simp only [dvO,h9]
      exact Zs hk3 rfl
    · cases hA
  · rename_i id v i e off
    obtain ⟨o,ho,hk⟩:=Z0 hk
    simp only [dv,Z30,dvh,ho,Option.map_some,Option.bind_some]
    cases o<;>simp only [reduceCtorEq] at hk
    rename_i re t xs p u
    obtain ⟨h1,hk⟩:=Z2 hk
    obtain ⟨h2,hk⟩:=Z2 hk
    obtain ⟨q,h3,hk⟩:=Z0 hk
    have h2:i<xs.length:=by simpa [Tr.blt_dec] using h2
    simp only [Bool.and_eq_true] at h1
    have h4:=Nat.eq_of_beq_eq_true h1.2
    have h5:=(Z3D hX.t h3).1
    rw [Z2M hX.t] at h5
    have h6:xs.getD i (tdf X.T t)=xs[i]:=by simp [List.getD_eq_getElem?_getD,h2]
    rw [h6] at h5
    simp only [dvO,List.getElem?_map,List.getElem?_eq_getElem h2,Option.map_some,Option.bind_some]
    have h7:Nat.beq (dcl X.T t xs[i]).length e=true:=by rw [Y8 hX.t,←h4];exact Nat.beq_refl _
    rw [h1.1,h7,h5]
    exact Zs hk rfl
  · rename_i cs
    obtain ⟨v,h1,hk⟩:=Z0 hk
    simp only [dv,Z30,(Z3D hX.t h1).1]
    exact Zs hk rfl
  · cases hk
end Go.Ab
namespace Go.Ab
variable {S:Nat→Type} {R:Type}
theorem Z3y {T:TS S} {t:Ty} {n i:Nat} (h:i<n) (a:Nat→Val S t) :
    acl T t n a=((List.range i).flatMap fun j=>dcl T t (a j))++(dcl T t (a i)++(List.range' (i+1) (n-(i+1))).flatMap fun j=>dcl T t (a j)):=by
  unfold acl
  rw [Z3G h,List.flatMap_append,List.flatMap_cons]
theorem Zdw {T:TS S} {t:Ty} {n i:Nat} (h:i<n) (a:Nat→Val S t) (x:Val S t) :
    acl T t n (fun j=>bif Nat.beq j i then x else a j)=((List.range i).flatMap fun j=>dcl T t (a j))++(dcl T t x++(List.range' (i+1) (n-(i+1))).flatMap fun j=>dcl T t (a j)):=by
  rw [Z3y h]
  have e1:∀ j∈List.range i,dcl T t ((fun j=>bif Nat.beq j i then x else a j) j)=dcl T t (a j):=fun j hj=>by
    have:j<i:=List.mem_range.1 hj
    have hb:Nat.beq j i=false:=by rw [Tr.beq_dec];simp;omega
    simp [hb]
  have e2:∀ j∈List.range' (i+1) (n-(i+1)),dcl T t ((fun j=>bif Nat.beq j i then x else a j) j)=dcl T t (a j):=fun j hj=>by
    have:=List.mem_range'_1.1 hj
    have hb:Nat.beq j i=false:=by rw [Tr.beq_dec];simp;omega
    simp [hb]
  have e3:Nat.beq i i=true:=Nat.beq_refl i
  simp only [e3,cond_true]
  congr 1
  · rw [List.flatMap_def,List.flatMap_def,List.map_congr_left e1]
  · congr 1
    rw [List.flatMap_def,List.flatMap_def,List.map_congr_left e2]
variable {X:Yb S} (hX:XOk X)
include hX
theorem Z56 (t:TypeId) (cs:List (TV S)):dvs X.T (Z9S X t cs)=dvs X.T cs:=by
  unfold Z9S
  cases X.code t with
  | none=>rfl
  | some c =>
    simp only
    cases hd:Z6G X.T c cs with
    | none=>rfl
    | some x=>simp only;rw [Z2M hX.t,Z2m hX.t hd]
omit hX in
theorem ZdD {pid:Nat} {l:List DV} (h:l.all (Z4A pid)=true):l.all ZA=true:=by
  rw [List.all_eq_true] at h ⊢
  intro d hd
  rcases Z1p (h d hd) with rfl|⟨t,rfl⟩<;>rfl
theorem Z7n {v:TV S} (h:(Y6 v).all Z7V=true):(cellsOf (dv X.T v)).all ZA=true:=by
  rw [Ys]
  generalize Y6 v=cs at h
  induction cs with
  | nil=>simp [dvs]
  | cons c cs ih =>
    simp only [List.all_cons,Bool.and_eq_true] at h
    rw [Zv,List.all_append,ih h.2,Bool.and_true]
    cases c<;>simp only [Z7V,Bool.false_eq_true] at h<;>simp only [Y2,dv,List.all_cons,List.all_nil,ZA,Bool.and_true]
    · exact Z2h (Yl hX.t _ _ _)
    · exact Z2h (hX.t.plain _ _)
    · exact ZdD (Yt _ _ _ _)
    · exact ZdD (Z16 0 _)
    · exact absurd h.1 (by simp)
    · exact absurd h.1 (by simp)
omit hX in
theorem Zgk {ts:List TypeId} {pid n i m:Nat} {ar:Nat→Nat} (h:i<n):eal ts pid n (fun j=>bif Nat.beq j i then m else ar j)=(eal ts pid n ar).take i++[enD pid ts m]++(eal ts pid n ar).drop (i+1):=by
  have hb:∀ j,j≠i→Nat.beq j i=false:=fun j hj=>by
    cases hq:Nat.beq j i with
    | false=>rfl
    | true=>exact absurd (Nat.eq_of_beq_eq_true hq) hj
  have h1:(eal ts pid n ar).take i=(List.range i).map fun j=>enD pid ts (ar j):=by
    unfold eal
    rw [Z3G h,List.map_append,List.take_left' (by simp)]
  have h2:(eal ts pid n ar).drop (i+1)=(List.range' (i+1) (n-(i+1))).map fun j=>enD pid ts (ar j):=by
    unfold eal
    rw [Z3G h,List.map_append,List.map_cons,List.drop_append]
    simp
  rw [h1,h2]
  unfold eal
  rw [Z3G h,List.map_append,List.map_cons]
  simp only [Nat.beq_refl,cond_true]
  have e1:(List.range i).map (fun j=>enD pid ts (bif Nat.beq j i then m else ar j))=(List.range i).map fun j=>enD pid ts (ar j):=List.map_congr_left fun j hj=>by
    rw [hb j (by have:=List.mem_range.1 hj;omega)];rfl
  have e2:(List.range' (i+1) (n-(i+1))).map (fun j=>enD pid ts (bif Nat.beq j i then m else ar j))=(List.range' (i+1) (n-(i+1))).map fun j=>enD pid ts (ar j):=List.map_congr_left fun j hj=>by
    rw [hb j (by have:=List.mem_range'_1.1 hj;omega)];rfl
  rw [e1,e2]
  simp
omit hX in
theorem ZbG {pid:Nat} {t:TypeId}:∀ {ts:List TypeId} {j m:Nat},Zgs t ts j=some m→j≤m∧enD pid ts (m-j+1) = .iface t (.agg [.ptr pid 0])
  | [],_,_,h=>by cases h
  | u::ts,j,m,h=>by
    simp only [Zgs] at h
    cases hq:Nat.beq u t with
    | true =>
      rw [hq] at h;cases h
      have:=Nat.eq_of_beq_eq_true hq
      subst this
      exact ⟨Nat.le_refl _,by rw [Nat.sub_self];simp [enD]⟩
    | false =>
      rw [hq] at h
      obtain ⟨h1,h2⟩:=ZbG (pid:=pid) h
      refine ⟨by omega,?_⟩
      rw [show m-j+1=(m-(j+1))+2 by omega]
      simpa [enD] using h2
omit hX in
theorem Zfl {ts:List TypeId} {pid m:Nat} {v:TV S} (h:Zh8 ts pid v=some m):dvs X.T (Y6 v)=[enD pid ts m]∧Y6 v=[v]∧wds X.T (Y6 v)=1:=by
  unfold Zh8 at h
  split at h
  · cases h
    exact ⟨by cases ts<;>simp [Y6,dvs,dv,enD],rfl,rfl⟩
  · rename_i t p
    obtain ⟨h1,hi⟩:=Z2 h
    have hp:=Nat.eq_of_beq_eq_true h1
    obtain ⟨h2,h3⟩:=ZbG (pid:=pid) hi
    refine ⟨?_,rfl,rfl⟩
    rw [show m=m-1+1 by omega,h3,hp]
    simp [Y6,dvs,dv]
  · cases h
theorem ZeV {ti:TI} {h:Nat→Option (Zi S)} {a v:TV S} {k:Z2q S R} {r:R} (hk:Zdl X ti h a v k=some r) :
    Sim X.T ((Z4T ti (dvh X.T h) (dv X.T a) (dv X.T v)).bind fun u=>some ⟨some (.tup []),u⟩) k r:=by
  unfold Zdl at hk
  have h0:=(Z2 hk).1
  replace hk:=(Z2 hk).2
  simp only [Bool.and_eq_true] at h0
  have hc:(Nat.beq (cellsOf (dv X.T v)).length ti.size&&(cellsOf (dv X.T v)).all ZA)=true:=by
    rw [Z7n hX h0.2,Ys,ZY hX.t,h0.1];rfl
  have hsz:=Nat.eq_of_beq_eq_true h0.1
  unfold Z4T
  rw [hc]
  simp only [cond_true]
  cases a with
  | ptr id off =>
    simp only at hk
    obtain ⟨o,ho,hk⟩:=Z0 hk
    cases o<;>simp only [reduceCtorEq] at hk
    rename_i ct cs
    obtain ⟨cs',h1,hk⟩:=Z0 hk
    obtain ⟨h2,h3⟩:=Z17 hX.t h1
    have hle:Nat.ble (off+ti.size) (dvs X.T cs).length=true:=by rw [Nat.ble_eq,ZY hX.t];omega
    refine ⟨_,?_,?_,hk⟩
    · simp only [dv,dvh,ho,Option.map_some,Option.bind_some,dvO,hle,cond_true,Ys,h3]
      simp [Y3,dvu,dvO,dv,dvl,Z56 hX]
    · exact ZR rfl ZP
  | ap id base i e off =>
    simp only at hk
    obtain ⟨o,ho,hk⟩:=Z0 hk
    cases o<;>simp only [reduceCtorEq] at hk
    rename_i ct cs
    split at hk
    · rename_i ts pid n ar hE
      obtain ⟨h1,hk1⟩:=Z2 hk
      obtain ⟨h2,hk2⟩:=Z2 hk1
      obtain ⟨m,hm,hk3⟩:=Z0 hk2
      obtain ⟨cs',h5,hk4⟩:=Z0 hk3
      clear hk hk1 hk2 hk3
      simp only [Bool.and_eq_true] at h1
      obtain ⟨h3,h4⟩:=h1
      have h3:=Nat.eq_of_beq_eq_true h3
      have h4:=Nat.eq_of_beq_eq_true h4
      subst h3 h4
      have h2:i<n:=by simpa [Tr.blt_dec] using h2
      obtain ⟨q,h8,h9⟩:=Z8j hX hE
      obtain ⟨hv,_,hw⟩:=Zfl (X:=X) hm
      have hts:ti.size=1:=by rw [←hsz,hw]
      obtain ⟨g1,g2⟩:=Z17 hX.t h5
      have hle:Nat.ble (base+i*1+0+ti.size) (dvs X.T cs).length=true:=by rw [Nat.ble_eq,hts];omega
      have hnew:Y7 (dvs X.T cs) (base+i*1+0) (dvs X.T (Y6 v))=dvs X.T cs':=by
        rw [←g2,hv]
        have harr:dvs X.T [.earr ts pid n (fun j=>bif Nat.beq j i then m else ar j)]=eal ts pid n (fun j=>bif Nat.beq j i then m else ar j):=by simp [dvs]
        have hl1:(eal ts pid n (fun j=>bif Nat.beq j i then m else ar j)).length=n:=by simp [eal]
        have hl2:(eal ts pid n ar).length=n:=by simp [eal]
        rw [harr,YP _ _ _ (by simp;omega),YP _ _ _ (by rw [hl1];exact h8),hl1]
        have e1:(dvs X.T cs).take (base+i*1+0)=(dvs X.T cs).take base++(eal ts pid n ar).take i:=by
          rw [Nat.mul_one,Nat.add_zero,List.take_add,h9,List.take_append_of_le_length (by rw [hl2];omega)]
        have e2:(dvs X.T cs).drop (base+i*1+0+[enD pid ts m].length)=(eal ts pid n ar).drop (i+1)++(dvs X.T cs).drop (base+n):=by
          have hq:(dvs X.T cs).drop (base+n)=q:=by
            rw [←List.drop_drop,h9,List.drop_append,hl2,Nat.sub_self,List.drop_eq_nil_of_le (by rw [hl2];exact Nat.le_refl _)];rfl
          rw [hq,show base+i*1+0+[enD pid ts m].length=base+(i+1) by simp;omega,←List.drop_drop,h9,List.drop_append_of_le_length (by rw [hl2];omega)]
        have e3:eal ts pid n (fun j=>bif Nat.beq j i then m else ar j)=(eal ts pid n ar).take i++[enD pid ts m]++(eal ts pid n ar).drop (i+1):=by
          exact Zgk h2
        rw [e1,e2,e3]
        simp only [List.append_assoc]
      refine ⟨_,?_,ZR rfl ZP,hk4⟩
      simp only [dv,dvh,ho,Option.map_some,Option.bind_some,dvO,hle,cond_true,Ys,hnew]
      simp [Y3,dvu,dvO,dv,dvl]
    obtain ⟨A,hA,hk⟩:=Z0 hk
    obtain ⟨t,n,ar⟩:=A
    simp only at hk
    obtain ⟨h1,hk⟩:=Z2 hk
    obtain ⟨h2,hk⟩:=Z2 hk
    obtain ⟨c,h3,hk⟩:=Z0 hk
    obtain ⟨x,h4,hk⟩:=Z0 hk
    obtain ⟨cs',h5,hk⟩:=Z0 hk
    have h1:=Nat.eq_of_beq_eq_true h1
    have h2:i<n:=by simpa [Tr.blt_dec] using h2
    obtain ⟨h6,h7⟩:=Z17 hX.t h3
    obtain ⟨h8,h9⟩:=Z17 hX.t h5
    rw [Z2M hX.t,Z2m hX.t h4] at h7
    unfold Z88 at hA
    obtain ⟨q,h10,hA⟩:=Z0 hA
    split at hA
    · rename_i t' n' a' q' hq'
      cases hA
      obtain ⟨h11,h12⟩:=Z1t hX.t h10
      rw [←Z2F hX.t 10 q,hq'] at h12
      rw [←ZY hX.t q,←Z2F hX.t 10 q,hq',ZY hX.t] at h11
      have hlenT:wds X.T (tcl X.T t (ar i))=tsz X.T t:=by rw [←ZY hX.t,Z2M hX.t,Y8 hX.t]
      rw [hlenT] at h6
      have hlen:=ZY hX.t cs
      rw [h11] at hlen
      simp only [wds,wd] at hlen
      have hin:i*tsz X.T t+tsz X.T t≤n*tsz X.T t:=by
        have:=Nat.mul_le_mul_right (tsz X.T t) h2
        rw [Nat.succ_mul] at this;exact this
      have hle:Nat.ble (base+i*e+off+ti.size) (dvs X.T cs).length=true:=by rw [Nat.ble_eq,h1];omega
      have hnew:Y7 (dvs X.T cs) (base+i*e+off) (dvs X.T (Y6 v))=dvs X.T cs':=by
        rw [←h9]
        have hv2:(dvs X.T (Y6 v)).length=wds X.T (Y6 v):=ZY hX.t _
        rw [YP _ _ _ (by rw [hv2,h1];omega)]
        have hcut:∀ m,(dvs X.T cs).drop (base+m)=(acl X.T t n ar++dvs X.T q').drop m:=fun m=>by
          rw [←List.drop_drop,h12,Zv];rfl
        have hal:(acl X.T t n (fun j=>bif Nat.beq j i then x else ar j)).length=n*tsz X.T t:=YV hX.t t n _
        have harr:dvs X.T [.arr t n (fun j=>bif Nat.beq j i then x else ar j)]=acl X.T t n (fun j=>bif Nat.beq j i then x else ar j):=by simp [dvs]
        rw [harr,YP _ _ _ (by rw [hal];omega),hal]
        have hpre:(dvs X.T cs).take (base+i*e+off)=(dvs X.T cs).take base++(acl X.T t n ar++dvs X.T q').take (i*e+off):=by
          have:=hcut 0
          rw [Nat.add_zero,List.drop_zero] at this
          rw [←this,Nat.add_assoc,List.take_add]
        have hq:(dvs X.T cs).drop (base+n*tsz X.T t)=dvs X.T q':=by
          rw [hcut,List.drop_append,YV hX.t,Nat.sub_self,List.drop_eq_nil_of_le (by rw [YV hX.t];exact Nat.le_refl _)];rfl
        rw [hpre,hq,Nat.add_assoc base,Nat.add_assoc base,hcut,hv2,Zdw h2 ar x,←h7,YP _ _ _ (by rw [hv2,Y8 hX.t];omega),Z3y h2 ar,hv2]
        have hl:((List.range i).flatMap fun j=>dcl X.T t (ar j)).length=i*tsz X.T t:=YV hX.t t i ar
        have hd:=Y8 hX.t t (ar i)
        generalize ((List.range i).flatMap fun j=>dcl X.T t (ar j))=P1 at *
        generalize ((List.range' (i+1) (n-(i+1))).flatMap fun j=>dcl X.T t (ar j))=P2 at *
        generalize dcl X.T t (ar i)=M at *
        generalize dvs X.T (Y6 v)=Vv at *
        have e1:((P1++(M++P2))++dvs X.T q').take (i*e+off)=P1++M.take off:=by
          rw [List.append_assoc,List.take_append,hl,h1,List.take_of_length_le (by rw [hl];omega),Nat.add_sub_cancel_left,List.append_assoc,List.take_append_of_le_length (by rw [hd];omega)]
        have e2:((P1++(M++P2))++dvs X.T q').drop (i*e+off+wds X.T (Y6 v))=M.drop (off+wds X.T (Y6 v))++P2++dvs X.T q':=by
          rw [List.append_assoc,List.drop_append,hl,h1,List.drop_eq_nil_of_le (by rw [hl];omega),List.nil_append,show i*tsz X.T t+off+wds X.T (Y6 v)-i*tsz X.T t=off+wds X.T (Y6 v) by omega,List.append_assoc,List.drop_append_of_le_length (by rw [hd];omega),List.append_assoc]
        rw [e1,e2]
        simp only [List.append_assoc]
      refine ⟨_,?_,?_,hk⟩
      · simp only [dv,dvh,ho,Option.map_some,Option.bind_some,dvO,hle,cond_true,Ys,hnew]
        simp [Y3,dvu,dvO,dv,dvl,Z56 hX]
      · exact ZR rfl ZP
    · cases hA
  | rptr id v' i e off =>
    simp only at hk
    obtain ⟨o,ho,hk⟩:=Z0 hk
    cases o<;>simp only [reduceCtorEq] at hk
    rename_i et t xs p u
    obtain ⟨h1,hk⟩:=Z2 hk
    obtain ⟨h2,hk⟩:=Z2 hk
    obtain ⟨c,h3,hk⟩:=Z0 hk
    obtain ⟨x,h4,hk⟩:=Z0 hk
    simp only [Bool.and_eq_true] at h1
    obtain ⟨⟨⟨hu,he⟩,hp⟩,hf⟩:=h1
    have h2:i<xs.length:=by simpa [Tr.blt_dec] using h2
    have he':=Nat.eq_of_beq_eq_true he
    obtain ⟨h6,h7⟩:=Z17 hX.t h3
    have hw:wds X.T (tcl X.T t (xs.getD i (tdf X.T t)))=tsz X.T t:=by rw [←ZY hX.t,Z2M hX.t,Y8 hX.t]
    rw [hw] at h6
    rw [Z2M hX.t,Z2m hX.t h4] at h7
    have hget:(xs.map (dcl X.T t))[i]? = some (dcl X.T t (xs.getD i (tdf X.T t))):=by
      rw [List.getElem?_map,List.getElem?_eq_getElem h2,List.getD_eq_getElem?_getD,List.getElem?_eq_getElem h2];rfl
    have hle:Nat.ble (off+ti.size) (dcl X.T t (xs.getD i (tdf X.T t))).length=true:=by rw [Nat.ble_eq,Y8 hX.t];omega
    have hb:(Nat.beq u v'&&Nat.beq (dcl X.T t (xs.getD i (tdf X.T t))).length e&&Nat.beq p 0&&Z9 (cellsOf (dv X.T v))&&Nat.ble (off+ti.size) (dcl X.T t (xs.getD i (tdf X.T t))).length)=true:=by
      rw [hle,hu,Y8 hX.t,he,hp,Ys,Z4x hX.t,hf];rfl
    refine ⟨_,?_,ZR rfl ZP,hk⟩
    simp only [dv,dvh,ho,Option.map_some,Option.bind_some,dvO,hget,hb,cond_true]
    rw [Ys,h7]
    simp [Y3,dvu,dvO,dv,dvl,List.map_set]
  | _=>cases hk
end Go.Ab
namespace Go.Ab
variable {S:Nat→Type} {R:Type} {X:Yb S} (hX:XOk X)
include hX
theorem Z3m {t:Ty} {n:Nat} (hn:tsz X.T t=n) (xs:List (Val S t)):(xs.map (dcl X.T t)).all (fun c=>Nat.beq c.length n)=true:=by
  rw [List.all_eq_true]
  intro c hc
  obtain ⟨x,_,rfl⟩:=List.mem_map.1 hc
  rw [Y8 hX.t,hn];exact Nat.beq_refl n
theorem ZcD {nid:Nat} {h:Nat→Option (Zi S)} {t:TypeId} {s x:TV S} {k:Z2q S R} {r:R} (hk:Zag X nid h t s x k=some r) :
    Sim X.T (Z3i X.E nid (dvh X.T h) t (dv X.T s) (dv X.T x)) k r:=by
  unfold Zag at hk
  obtain ⟨ti,h1,hk⟩:=Z0 hk
  unfold Z3i
  rw [h1]
  simp only [Option.bind_some]
  split at hk
  · rename_i e he
    simp only [he]
    obtain ⟨ei,h2,hk⟩:=Z0 hk
    obtain ⟨te,h3,hk⟩:=Z0 hk
    obtain ⟨xs,h4,hk⟩:=Z0 hk
    obtain ⟨h5,hk⟩:=Z2 hk
    have hsz:=(hX.code e te ei h3 h2).1
    rw [h2,Z6P h4]
    simp only [Option.bind_some,h5,cond_true]
    cases s with
    | nils =>
      cases xs with
      | nil=>exact Zs hk rfl
      | cons y ys =>
        simp only at hk
        obtain ⟨h6,hk⟩:=Z2 hk
        refine ⟨_,?_,ZR rfl ZP,hk⟩
        simp only [dv,List.map_cons]
        rw [←List.map_cons,Z3m hX hsz.symm,List.length_map,h6]
        simp [Y3,dvu,dvO,dv]
    | rs id v =>
      simp only at hk
      obtain ⟨o,ho,hk⟩:=Z0 hk
      cases o<;>simp only [reduceCtorEq] at hk
      rename_i e' te' es p u
      obtain ⟨h6,hk⟩:=Z2 hk
      split at hk
      · rename_i q
        subst q
        obtain ⟨h7,hk⟩:=Z2 hk
        refine ⟨_,?_,ZR rfl ZP,hk⟩
        simp only [dv,dvh,ho,Option.map_some,Option.bind_some,dvO]
        rw [h6,Z3m hX hsz.symm,List.length_map,List.length_map,h7]
        simp [Y3,dvu,dvO,dv]
      · cases hk
    | _=>cases hk
  · cases hk
theorem Z73 (ρ:Nat→Option (TV S)):∀ {ps:List (Nat×Operand)} {vs:List (Nat×TV S)},Z8Q ρ ps=some vs→Z1U (dvr X.T ρ) ps=some (vs.map fun p=>(p.1,dv X.T p.2))
  | [],vs,h=>by cases h;rfl
  | (i,x)::ps,vs,h=>by
    simp only [Z8Q] at h
    obtain ⟨v,h1,h⟩:=Z0 h
    obtain ⟨vs',h2,h⟩:=Z0 h
    cases h
    simp only [Z1U,ZH,h1,Option.map_some,Option.bind_some,Z73 ρ h2,List.map_cons]
theorem Z8q {fs:List (Nat×Nat)}:∀ {ps:List (Nat×TV S)} {cs r:List (TV S)},Z7S X fs ps cs=some r→Z14 fs X.E (ps.map fun p=>(p.1,dv X.T p.2)) (dvs X.T cs)=some (dvs X.T r)
  | [],cs,r,h=>by cases h;rfl
  | (i,v)::ps,cs,r,h=>by
    simp only [Z7S] at h
    obtain ⟨⟨ft,off⟩,h1,h⟩:=Z0 h
    obtain ⟨ti,h2,h⟩:=Z0 h
    obtain ⟨h3,h⟩:=Z2 h
    obtain ⟨cs',h4,h⟩:=Z0 h
    simp only at h2 h4
    obtain ⟨h5,h6⟩:=Z17 hX.t h4
    have h7:=Nat.eq_of_beq_eq_true h3
    have hle:Nat.ble (off+ti.size) (dvs X.T cs).length=true:=by rw [Nat.ble_eq,ZY hX.t];omega
    simp only [List.map_cons,Z14,h1,Option.bind_some,h2,Ys,ZY hX.t (Y6 v),h3,hle,Bool.and_self,cond_true,h6]
    exact Z8q h
theorem Z8p {t:Ty} {n:Nat}:∀ {ps:List (Nat×TV S)} {a a':Nat→Val S t},Z7R X t n ps a=some a'→Z1w (tsz X.T t) (ps.map fun p=>(p.1,dv X.T p.2)) (acl X.T t n a)=some (acl X.T t n a')
  | [],a,a',h=>by cases h;rfl
  | (i,v)::ps,a,a',h=>by
    simp only [Z7R] at h
    obtain ⟨x,h1,h⟩:=Z0 h
    obtain ⟨h2,h⟩:=Z2 h
    have h2:i<n:=by simpa [Tr.blt_dec] using h2
    have h3:cellsOf (dv X.T v)=dcl X.T t x:=by
      rw [Z3e hX.t h1]
      cases t<;>rfl
    have hin:i*tsz X.T t+tsz X.T t≤n*tsz X.T t:=by
      have:=Nat.mul_le_mul_right (tsz X.T t) h2
      rw [Nat.succ_mul] at this;exact this
    have h4:Y7 (acl X.T t n a) (i*tsz X.T t) (dcl X.T t x)=acl X.T t n (fun j=>bif Nat.beq j i then x else a j):=by
      rw [YP _ _ _ (by rw [YV hX.t,Y8 hX.t];exact hin),Zdw h2,Z3y h2,Y8 hX.t]
      have hl:((List.range i).flatMap fun j=>dcl X.T t (a j)).length=i*tsz X.T t:=YV hX.t t i a
      generalize ((List.range i).flatMap fun j=>dcl X.T t (a j))=P1 at *
      rw [List.take_append_of_le_length (by omega),List.take_of_length_le (by omega),List.drop_append,List.drop_eq_nil_of_le (by omega),List.nil_append,hl,Nat.add_sub_cancel_left,List.drop_append,List.drop_eq_nil_of_le (by rw [Y8 hX.t];exact Nat.le_refl _),Y8 hX.t,Nat.sub_self,List.drop_zero,List.nil_append,List.append_assoc]
    have hb:Nat.beq (dcl X.T t x).length (tsz X.T t)=true:=by rw [Y8 hX.t];exact Nat.beq_refl _
    have hle:Nat.ble (i*tsz X.T t+tsz X.T t) (acl X.T t n a).length=true:=by rw [Nat.ble_eq,YV hX.t];exact hin
    simp only [List.map_cons,Z1w,h3,hb,hle,Bool.and_self,cond_true,h4]
    exact Z8p h
theorem Zcc {h:Nat→Option (Zi S)} {t:Ty}:∀ {k:Nat} {ps:List (Nat×TV S)} {xs:List (Val S t)},Ze7 X h t k ps=some xs→Z5s (dvh X.T h) (tsz X.T t) k (ps.map fun p=>(p.1,dv X.T p.2))=some (xs.map (dcl X.T t))
  | _,[],xs,hr=>by cases hr;rfl
  | k,(i,v)::ps,xs,hr=>by
    simp only [Ze7] at hr
    obtain ⟨h1,hr⟩:=Z2 hr
    obtain ⟨c,h2,hr⟩:=Z0 hr
    obtain ⟨x,h3,hr⟩:=Z0 hr
    obtain ⟨r,h4,hr⟩:=Z0 hr
    cases hr
    have h5:=Z2m hX.t h3
    simp only [List.map_cons,Z5s,Ys,ZY hX.t,h1,cond_true,Z8z hX.t,h2,Option.map_some,Option.bind_some,h5,Z2h (Z2Q hX.t t x),Zcc h4]
theorem Z5t:∀ (vs:List (Nat×TV S)),Ze ((vs.map fun p=>(p.1,dv X.T p.2)).map (·.2))=Yk (vs.map (·.2))
  | []=>rfl
  | v::vs=>by simp only [List.map_cons,Ze,Yk,Z6B hX.t,Z5t vs]
theorem Zem {cs:List (TV S)} {base n:Nat} {t:Ty} {a:Nat→Val S t} (h:Z88 X.T cs base=some ⟨t,n,a⟩):∃ q,base+n*tsz X.T t≤(dvs X.T cs).length∧(dvs X.T cs).drop base=acl X.T t n a++q:=by
  unfold Z88 at h
  obtain ⟨q,h1,h⟩:=Z0 h
  split at h
  · rename_i t' n' a' q' hq'
    cases h
    obtain ⟨h5,h6⟩:=Z1t hX.t h1
    rw [←Z2F hX.t 10 q,hq',Zv] at h6
    refine ⟨dvs X.T q',?_,h6⟩
    have hl:=congrArg List.length h6
    rw [List.length_drop,List.length_append] at hl
    simp only [Y2] at hl
    rw [YV hX.t] at hl
    by_cases h0:n*tsz X.T t=0
    · have:wds X.T cs=base+wds X.T q:=h5
      rw [ZY hX.t];omega
    · omega
  · cases h
theorem Z8d (t:Ty):∀ (n:Nat) (a:Nat→Val S t) (q:List DV),Z1O (tsz X.T t) n (acl X.T t n a++q)=((List.range n).map a).map (dcl X.T t)
  | 0,_,_=>rfl
  | n+1,a,q=>by
    have h1:acl X.T t (n+1) a=dcl X.T t (a 0)++acl X.T t n (fun j=>a (j+1)):=by
      unfold acl
      rw [List.range_succ_eq_map,List.flatMap_cons,List.flatMap_map]
    have hd:=Y8 hX.t t (a 0)
    unfold Z1O
    rw [h1,List.append_assoc,←hd,List.take_left,List.drop_left,hd,Z8d t n,List.range_succ_eq_map,List.map_cons,List.map_cons,List.map_map,List.map_map,List.map_map]
    rfl
theorem Z8E {t:Ty} {e:Val S t→Val S t→Bool} (hs:Z8D X.T t=some e) (x y:Val S t):Z6i (YI X.T t x) (YI X.T t y)=some (e x y):=by
  cases t with
  | st i =>
    have hs':X.T.seq i=some e:=hs
    have h:=hX.t.seq i e hs' x y
    show Zg (X.T.dcells i x) (X.T.dcells i y)=some (e x y)
    exact h
  | bool=>cases hs;rfl
  | int k=>cases hs;simp [YI,Z6i]
  | str=>cases hs;rfl
  | sl t=>cases hs
  | arr n t=>cases hs
theorem Z9O {kt et:Ty} {e:Val S kt→Val S kt→Bool} (hs:Z8D X.T kt=some e) (key:Val S kt):∀ m:List (Val S kt×Val S et),
    Z2H (YI X.T kt key) (m.map fun p=>(YI X.T kt p.1,YI X.T et p.2))=some ((Z8K e key m).map (YI X.T et))
  | []=>rfl
  | (k',v)::m=>by
    simp only [List.map_cons,Z2H,Z8E hX hs,Option.bind_some,Z8K]
    cases e key k' with
    | true=>rfl
    | false=>simp only [cond_false];exact Z9O hs key m
theorem ZbS {kt et:Ty} {e:Val S kt→Val S kt→Bool} (hs:Z8D X.T kt=some e) (key:Val S kt) (x:Val S et):∀ m:List (Val S kt×Val S et),
    Z4D (YI X.T kt key) (YI X.T et x) (m.map fun p=>(YI X.T kt p.1,YI X.T et p.2))=some ((ZgG e key x m).map fun p=>(YI X.T kt p.1,YI X.T et p.2))
  | []=>rfl
  | (k',v)::m=>by
    simp only [List.map_cons,Z4D,Z8E hX hs,Option.bind_some,ZgG]
    cases e key k' with
    | true=>simp
    | false=>simp only [cond_false,ZbS hs key x m,Option.bind_some,List.map_cons]
theorem Z7y {ki:TI} {kt:TypeId} (hki:X.E.ty kt=some ki) {t:Ty} {x:Val S t} (h:Z6j X.T ki (X.zero kt) t x=true):Yh ki (YI X.T t x)=true:=by
  unfold Z6j at h
  split at h
  · rename_i k n x hk;simp [YI,Yh,hk]
  · rename_i x hk;simp [YI,Yh,hk]
  · rename_i x hk;simp [YI,Yh,hk]
  · rename_i fs i x hk
    simp only [Bool.and_eq_true] at h
    obtain ⟨⟨h1,h2⟩,h3⟩:=h
    cases hz:X.zero kt with
    | none=>rw [hz] at h3;cases h3
    | some z =>
      rw [hz] at h3
      simp only at h3
      have h4:=Z1T X.T h3
      rw [Z29 hX.t,Z29 hX.t,hX.zero kt z ki hz hki] at h4
      simp only [dvs,List.append_nil] at h4
      simp [YI,Yh,hk,h1,h2,h4]
  · cases h
omit hX in
theorem Zeu {T:TS S} {t:Ty} (h:YO t=false) (x:Val S t):ZA (YI T t x)=true∧Zb (YI T t x)=true:=by
  cases t<;>simp [YO] at h<;>simp [YI,ZA,Zb]
theorem Zgz {k:TK} {h:Nat→Option (Zi S)} {d v:TV S} (hl:Zhc k h d=some v):Z5f k (dvh X.T h) (dv X.T d)=some (dv X.T v):=by
  unfold Zhc at hl
  split at hl<;>first|(cases hl;done)|skip
  · cases hl;simp [dv,Z5f]
  · cases hl;simp [dv,Z5f]
  · obtain ⟨o,ho,hl⟩:=Z0 hl
    cases o<;>simp only [reduceCtorEq] at hl
    cases hl
    simp [dv,Z5f,dvh,ho,dvO]
  · cases hl;simp [dv,Z5f,ZZ]
  · cases hl;simp [dv,Z5f,ZZ]
  · cases hl;simp [dv,Z5f]
  · cases hl;simp [dv,Z5f,ZZ]
  · obtain ⟨o,ho,hl⟩:=Z0 hl
    cases o<;>simp only [reduceCtorEq] at hl
    obtain ⟨h1,hl⟩:=Z2 hl
    cases hl
    simp [dv,Z5f,dvh,ho,dvO,ZZ,h1]
  · cases hl;simp [dv,Z5f]
theorem Z8u {f:TV S→TV S→Option (TV S)} {g:DV→DV→Option DV} (hf:∀ x y z,f x y=some z→g (dv X.T x) (dv X.T y)=some (dv X.T z)):∀ {xs:List (TV S)} {x z:TV S},Zbv f x xs=some z→Z6c g (dv X.T x) (dvl X.T xs)=some (dv X.T z)
  | [],x,z,h=>by cases h;simp [dvl,Z6c]
  | y::ys,x,z,h=>by
    simp only [Zbv] at h
    obtain ⟨w,h1,h⟩:=Z0 h
    simp only [dvl,Z6c,hf _ _ _ h1,Option.bind_some]
    exact Z8u hf h
theorem ZgE (x y z:TV S) (h:ZfE x y=some z):ZbR (dv X.T x) (dv X.T y)=some (dv X.T z):=by
  unfold ZfE at h
  split at h
  · cases h;simp [dv,ZbR]
  · cases h
theorem ZgD (x y z:TV S) (h:ZfC x y=some z):ZbQ (dv X.T x) (dv X.T y)=some (dv X.T z):=by
  unfold ZfC at h
  split at h
  · cases h;simp [dv,ZbQ]
  · cases h
omit hX in
theorem Zfb (s:ByteArray) (i:Nat) (hi:i<s.size):(s[i]?).bind (fun b=>ret (.int .u8 b.toNat))=ret (.int .u8 (s.toList.getD i 0).toNat):=by
  have h1:s[i]? = some s[i]:=by simp [hi]
  rw [h1]
  have h2:s.toList.getD i 0=s[i]:=by
    rw [List.getD_eq_getElem?_getD]
    simp [ByteArray.toList_eq,hi]
    rfl
  rw [h2];rfl
end Go.Ab
namespace Go.Ab
variable {S:Nat→Type} {R:Type} {X:Yb S} (hX:XOk X)
include hX
theorem Z3S {nid:Nat} {ρ:Nat→Option (TV S)} {h:Nat→Option (Zi S)} {op:Op} {k:Z2q S R} {r:R} (hk:opK X nid ρ h op k=some r)
    (hop:(∃ t ps,op = .build t ps)∨(∃ t n ps,op = .buildSlice t n ps)∨(∃ t x lo hi,op = .slice t x lo hi none)∨(∃ t x i,op = .indexAddr t x i)∨(∃ t x i,op = .index t x i)∨(∃ t m x ok,op = .lookup t m x ok)∨(∃ t m x v,op = .mapUpdate t m x v)) :
    Sim X.T (Zy X.E nid (dvr X.T ρ) (dvh X.T h) op) k r:=by
  rcases hop with ⟨t,ps,rfl⟩|⟨t,n,ps,rfl⟩|⟨t,x,lo,hi,rfl⟩|⟨t,x,i,rfl⟩|⟨t,x,i,rfl⟩|⟨t,m,x,ok,rfl⟩|⟨t,m,x,v,rfl⟩
  · simp only [opK] at hk
    obtain ⟨ti,h1,hkk⟩:=Z0 hk;replace hk:=hkk;clear hkk
    obtain ⟨vs,h2,hkk⟩:=Z0 hk;replace hk:=hkk;clear hkk
    obtain ⟨z,h3,hkk⟩:=Z0 hk;replace hk:=hkk;clear hkk
    have hz:=hX.zero t z ti h3 h1
    simp only [Zy,h1,Option.bind_some,Z73 hX ρ h2]
    split at hk
    · rename_i fs he
      obtain ⟨cs,h4,hkk⟩:=Z0 hk;replace hk:=hkk;clear hkk
      simp only [he]
      rw [←hz,Z8q hX h4]
      exact Zs hk rfl
    · rename_i len e he
      obtain ⟨ei,hei,hkk⟩:=Z0 hk;replace hk:=hkk;clear hkk
      obtain ⟨te,h4,hkk⟩:=Z0 hk;replace hk:=hkk;clear hkk
      split at hk
      · rename_i te' n a
        split at hk
        · rename_i q
          subst q
          obtain ⟨a',h5,hkk⟩:=Z0 hk;replace hk:=hkk;clear hkk
          simp only [he]
          have hsz:=(hX.code e te' ei h4 hei).1
          have hz':ti.zero=acl X.T te' n a:=by rw [←hz];simp [dvs]
          simp only [hei,Option.bind_some]
          rw [hz',hsz,Z8p hX h5]
          refine Zs hk ?_
          simp [dv,dvs,ret]
        · cases hk
      · cases hk
    · cases hk
  · simp only [opK] at hk
    obtain ⟨ti,h1,hkk⟩:=Z0 hk;replace hk:=hkk;clear hkk
    simp only [Zy,h1,Option.bind_some]
    split at hk
    · rename_i e he
      obtain ⟨ei,h2,hkk⟩:=Z0 hk;replace hk:=hkk;clear hkk
      obtain ⟨te,h3,hkk⟩:=Z0 hk;replace hk:=hkk;clear hkk
      obtain ⟨vs,h4,hkk⟩:=Z0 hk;replace hk:=hkk;clear hkk
      obtain ⟨es,h5,hkk⟩:=Z0 hk;replace hk:=hkk;clear hkk
      obtain ⟨h6,hkk⟩:=Z2 hk;replace hk:=hkk;clear hkk
      have hsz:=(hX.code e te ei h3 h2).1
      simp only [he,h2,Option.bind_some,Z73 hX ρ h4]
      rw [hsz,Zcc hX h5]
      simp only [Option.bind_some,List.length_map]
      rw [hsz] at h6
      rw [h6]
      refine ⟨_,?_,ZR rfl (Z2g _ _),hk⟩
      simp only [cond_true,Y3,dvu,List.map_cons,Option.map_some,dvO,dv,Z6D,Z5t hX]
    · cases hk
  · simp only [opK] at hk
    obtain ⟨ti,h1,hkk⟩:=Z0 hk;replace hk:=hkk;clear hkk
    obtain ⟨d,h2,hkk⟩:=Z0 hk;replace hk:=hkk;clear hkk
    obtain ⟨lo',h3,hkk⟩:=Z0 hk;replace hk:=hkk;clear hkk
    obtain ⟨hi',h4,hkk⟩:=Z0 hk;replace hk:=hkk;clear hkk
    simp only [Zy,h1,Option.bind_some,ZH,h2,Option.map_some,Zhg,h3,h4]
    split at hk
    · rename_i s he
      simp only [he,dv]
      obtain ⟨hh,h5,hkk⟩:=Z2O (T:=X.T) hk;replace hk:=hkk;clear hkk
      obtain ⟨l,h6,hkk⟩:=Z2O (T:=X.T) hk;replace hk:=hkk;clear hkk
      simp only [Zdo,h5,h6,Option.bind_some]
      exact Zs hk rfl
    · rename_i n e id off he
      obtain ⟨ei,h5,hkk⟩:=Z0 hk;replace hk:=hkk;clear hkk
      obtain ⟨o,ho,hkk⟩:=Z0 hk;replace hk:=hkk;clear hkk
      cases o<;>simp only [reduceCtorEq] at hk
      rename_i ct cs
      obtain ⟨A,hA,hkk⟩:=Z0 hk;replace hk:=hkk;clear hkk
      obtain ⟨h8,hkk⟩:=Z2 hk;replace hk:=hkk;clear hkk
      obtain ⟨hh,h9,hkk⟩:=Z2O (T:=X.T) hk;replace hk:=hkk;clear hkk
      obtain ⟨l,h10,hkk⟩:=Z2O (T:=X.T) hk;replace hk:=hkk;clear hkk
      obtain ⟨t,m,a⟩:=A
      simp only [Bool.and_eq_true] at h8
      obtain ⟨⟨e1,e2⟩,e3⟩:=h8
      have e1:=Nat.eq_of_beq_eq_true e1
      have e2:=Nat.eq_of_beq_eq_true e2
      subst e1
      obtain ⟨q,g1,g2⟩:=Zem hX hA
      have hal:=YV hX.t t m a
      have hdl:=congrArg List.length g2
      rw [List.length_drop,List.length_append,hal] at hdl
      have c1:Nat.ble (off+m*ei.size) (dvs X.T cs).length=true:=by rw [Nat.ble_eq,←e2];omega
      have c2:Z9 (((dvs X.T cs).drop off).take (m*ei.size))=true:=by
        rw [g2,←e2,←hal,List.take_left]
        exact Z1z (Yl hX.t t m a)
      have c3:Z1O ei.size m ((dvs X.T cs).drop off)=((List.range m).map a).map (dcl X.T t):=by
        rw [g2,←e2];exact Z8d hX t m a q
      simp only [he,dv,h5,Option.bind_some,dvh,ho,Option.map_some,dvO,c1,c2,e3,Bool.and_self,cond_true,c3,Z7G,List.length_map,List.length_range,h9,h10]
      refine ⟨_,?_,ZR rfl ZP,hk⟩
      simp [Y3,dvu,dv,List.map_drop,List.map_take]
    · rename_i d _ d' e he
      obtain ⟨ei,h5,hkk⟩:=Z0 hk;replace hk:=hkk;clear hkk
      obtain ⟨te,h6,hkk⟩:=Z0 hk;replace hk:=hkk;clear hkk
      obtain ⟨es,h7,hkk⟩:=Z0 hk;replace hk:=hkk;clear hkk
      obtain ⟨h8,hkk⟩:=Z2 hk;replace hk:=hkk;clear hkk
      obtain ⟨hh,h9,hkk⟩:=Z2O (T:=X.T) hk;replace hk:=hkk;clear hkk
      obtain ⟨l,h10,hkk⟩:=Z2O (T:=X.T) hk;replace hk:=hkk;clear hkk
      have hsz:=(hX.code e te ei h6 h5).1
      have hhid:=ZeA (T:=X.T) h d
      cases hvw:ti.view&&Z6e h d with
      | true =>
        rw [hvw] at hk
        simp only [cond_true] at hk
        unfold Zh2 at hk
        split at hk
        · unfold ZJ at hk
          have he7:=Z6P (T:=X.T) h7
          simp only [dv] at he7 hhid
          simp only [he,h5,Option.bind_some,dv,he7,Z3m hX hsz.symm,h8,Bool.and_self,cond_true,hhid,hvw,Zef,List.length_map,h9,h10]
          refine ⟨_,?_,ZP,hk⟩
          simp [ret,Y3,dvu,dv]
        · cases hk
      | false =>
      rw [hvw] at hk
      simp only [cond_false] at hk
      simp only [he,h5,Option.bind_some,Z6P h7,Z3m hX hsz.symm,h8,Bool.and_self,cond_true,hhid,hvw,cond_false,Z7G,List.length_map,h9,h10]
      refine ⟨_,?_,Z2g _ _,hk⟩
      simp only [Y3,Option.map_some,dv,List.map_drop,List.map_take,Z6D,Z6B hX.t]
    · cases hk
  · simp only [opK] at hk
    obtain ⟨ti,h1,hkk⟩:=Z0 hk;replace hk:=hkk;clear hkk
    obtain ⟨d,h2,hkk⟩:=Z0 hk;replace hk:=hkk;clear hkk
    obtain ⟨i',h3,hkk⟩:=Z0 hk;replace hk:=hkk;clear hkk
    simp only [Zy,h1,Option.bind_some,ZH,h2,Option.map_some,h3]
    split at hk
    · rename_i len e he
      obtain ⟨ei,h4,hkk⟩:=Z0 hk;replace hk:=hkk;clear hkk
      simp only [he,h4,Option.bind_some]
      cases d with
      | ptr id o =>
        simp only at hk
        obtain ⟨j,h5,h6,hkk⟩:=Z52 (T:=X.T) hk;replace hk:=hkk;clear hkk
        obtain ⟨_,hkk⟩:=Z2 hk;replace hk:=hkk;clear hkk
        simp only [h5,Option.bind_some,dv,Z1a]
        exact Zs hk (by simp [dv,ret])
      | pub cs0 =>
        simp only at hk
        split at hk
        · rename_i t' n a cs hcs
          obtain ⟨h5,hkk⟩:=Z2 hk;replace hk:=hkk;clear hkk
          obtain ⟨j,h6,h7,hkk⟩:=Z52 (T:=X.T) hk;replace hk:=hkk;clear hkk
          simp only [Bool.and_eq_true] at h5
          have e1:=Nat.eq_of_beq_eq_true h5.1
          have e2:=Nat.eq_of_beq_eq_true h5.2
          subst e1
          have hl:((List.range j).flatMap fun j=>dcl X.T t' (a j)).length=j*tsz X.T t':=YV hX.t t' j a
          have hcut:(dvs X.T cs0).drop (j*ei.size)=dvs X.T (tcl X.T t' (a j) ++ .arr t' (n-(j+1)) (fun m=>a (j+1+m))::cs):=by
            rw [←Z2F hX.t 10 cs0,hcs,Z1P,Zv,Zv,Z2M hX.t,←e2]
            simp only [Y2]
            rw [Z3y h7,List.append_assoc,List.drop_append,hl,Nat.sub_self,List.drop_eq_nil_of_le (by omega),List.nil_append,List.drop_zero,List.append_assoc]
            congr 2
            unfold acl
            rw [List.range'_eq_map_range,List.flatMap_map]
          simp only [h6,Option.bind_some,dv,Z1a,hcut]
          exact Zs hk (by simp [dv,ret])
        · cases hk
      | _=>cases hk
    · rename_i e he
      obtain ⟨ei,h4,hkk⟩:=Z0 hk;replace hk:=hkk;clear hkk
      simp only [he,h4,Option.bind_some]
      cases d with
      | sl te xs =>
        simp only at hk
        obtain ⟨h5,hkk⟩:=Z2 hk;replace hk:=hkk;clear hkk
        obtain ⟨j,h6,h7,hkk⟩:=Z52 (T:=X.T) hk;replace hk:=hkk;clear hkk
        simp only [Bool.and_eq_true] at h5
        have e1:=Nat.eq_of_beq_eq_true h5.1
        have hg:xs.getD j (tdf X.T te)=xs[j]:=by simp [List.getD_eq_getElem?_getD,h7]
        rw [hg] at hk
        simp only [dv,List.length_map,h6,Option.bind_some,List.getElem?_map,List.getElem?_eq_getElem h7,Option.map_some]
        have h8:Nat.beq (dcl X.T te xs[j]).length ei.size=true:=by rw [Y8 hX.t,e1];exact Nat.beq_refl _
        rw [h8,h5.2]
        exact Zs hk (by simp [dv,Z2M hX.t,ret])
      | rs id v =>
        simp only at hk
        obtain ⟨o,ho,hkk⟩:=Z0 hk;replace hk:=hkk;clear hkk
        cases o<;>simp only [reduceCtorEq] at hk
        obtain ⟨h5,hkk⟩:=Z2 hk;replace hk:=hkk;clear hkk
        obtain ⟨j,h6,h7,hkk⟩:=Z52 (T:=X.T) hk;replace hk:=hkk;clear hkk
        simp only [dv,dvh,ho,Option.map_some,Option.bind_some,dvO,List.length_map,h6,h5,cond_true]
        exact Zs hk rfl
      | _=>cases hk
    · cases hk
  · simp only [opK] at hk
    obtain ⟨ti,h1,hkk⟩:=Z0 hk;replace hk:=hkk;clear hkk
    obtain ⟨d,h2,hkk⟩:=Z0 hk;replace hk:=hkk;clear hkk
    obtain ⟨i',h3,hkk⟩:=Z0 hk;replace hk:=hkk;clear hkk
    simp only [Zy,h1,Option.bind_some,ZH,h2,Option.map_some,h3]
    split at hk
    · rename_i len e te n a he
      obtain ⟨ei,h4,hkk⟩:=Z0 hk;replace hk:=hkk;clear hkk
      obtain ⟨h5,hkk⟩:=Z2 hk;replace hk:=hkk;clear hkk
      obtain ⟨j,h6,h7,hkk⟩:=Z52 (T:=X.T) hk;replace hk:=hkk;clear hkk
      simp only [Bool.and_eq_true] at h5
      have e1:=Nat.eq_of_beq_eq_true h5.1.1
      have e2:=Nat.eq_of_beq_eq_true h5.1.2
      have e3:=eq_of_beq h5.2
      subst e1
      simp only [he,h4,Option.bind_some,dv,h6]
      have hp:YD ei (dvs X.T [.arr te n a]) (j*ei.size)=some (YI X.T te (a j)):=by
        have hl:((List.range j).flatMap fun j=>dcl X.T te (a j)).length=j*tsz X.T te:=YV hX.t te j a
        have hd:=Y8 hX.t te (a j)
        have hal:=YV hX.t te n a
        have hin:j*tsz X.T te+tsz X.T te≤n*tsz X.T te:=by
          have:=Nat.mul_le_mul_right (tsz X.T te) h7
          rw [Nat.succ_mul] at this;exact this
        simp only [dvs,List.append_nil]
        unfold YD
        rw [←e2,e3]
        have hle:Nat.ble (j*tsz X.T te+tsz X.T te) (acl X.T te n a).length=true:=by rw [Nat.ble_eq,hal];exact hin
        have hdrop:(acl X.T te n a).drop (j*tsz X.T te)=dcl X.T te (a j)++(List.range' (j+1) (n-(j+1))).flatMap fun j=>dcl X.T te (a j):=by
          rw [Z3y h7,List.drop_append,hl,Nat.sub_self,List.drop_eq_nil_of_le (by omega)];rfl
        cases hag:YO te with
        | true =>
          simp only [cond_true,hle,hdrop]
          rw [List.take_append_of_le_length (by omega),List.take_of_length_le (by omega)]
          cases te<;>simp [YO] at hag<;>rfl
        | false =>
          simp only [cond_false]
          have:(acl X.T te n a)[j*tsz X.T te]? = ((acl X.T te n a).drop (j*tsz X.T te))[0]? := by simp
          rw [this,hdrop,Z8g _ hag];rfl
      rw [hp]
      exact Zs hk (by rw [Z1C hX.t];rfl)
    · rename_i s he
      obtain ⟨j,h6,h7,hkk⟩:=Z52 (T:=X.T) hk;replace hk:=hkk;clear hkk
      simp only [he,dv,h6,Option.bind_some,Zfb s j h7]
      exact Zs hk rfl
    · cases hk
  · simp only [opK] at hk
    obtain ⟨ti,h1,hkk⟩:=Z0 hk;replace hk:=hkk;clear hkk
    obtain ⟨mv,h2,hkk⟩:=Z0 hk;replace hk:=hkk;clear hkk
    obtain ⟨kv,h3,hkk⟩:=Z0 hk;replace hk:=hkk;clear hkk
    simp only [Zy,h1,Option.bind_some,ZH,h2,Option.map_some,h3]
    split at hk
    · rename_i kt e id he
      obtain ⟨ei,h4,hkk⟩:=Z0 hk;replace hk:=hkk;clear hkk
      obtain ⟨ki,h5,hkk⟩:=Z0 hk;replace hk:=hkk;clear hkk
      obtain ⟨z,h6,hkk⟩:=Z0 hk;replace hk:=hkk;clear hkk
      obtain ⟨o,ho,hkk⟩:=Z0 hk;replace hk:=hkk;clear hkk
      cases o<;>simp only [reduceCtorEq] at hk
      rename_i kc ec es
      obtain ⟨key,h8,hkk⟩:=Z0 hk;replace hk:=hkk;clear hkk
      obtain ⟨h7,hkk⟩:=Z2 hk;replace hk:=hkk;clear hkk
      obtain ⟨zv,h9,hkk⟩:=Z0 hk;replace hk:=hkk;clear hkk
      obtain ⟨eq,h10,hkk⟩:=Z0 hk;replace hk:=hkk;clear hkk
      simp only [Bool.and_eq_true,Bool.not_eq_true'] at h7
      obtain ⟨⟨⟨q1,q2⟩,q3⟩,q4⟩:=h7
      have hz:=hX.zero e z ei h6 h4
      have hkey:=Z3e hX.t h8
      have hzd:ei.zero=[YI X.T ec zv]:=by rw [←hz,Z2m hX.t h9,Z8g _ q4]
      simp only [he,h4,h5,Option.bind_some,dv,dvh,ho,Option.map_some,dvO,hkey,Z7y hX h5 q1,q2,q3,Bool.not_false,Bool.and_self,cond_true,Z9O hX h10,hzd]
      cases hm:Z8K eq key es with
      | none =>
        rw [hm] at hk
        cases ok
        · exact Zs hk (by simp [Z1C hX.t])
        · exact Zs hk (by simp [dv,dvl,Z1C hX.t])
      | some v =>
        rw [hm] at hk
        cases ok
        · exact Zs hk (by simp [Z1C hX.t])
        · exact Zs hk (by simp [dv,dvl,Z1C hX.t])
    · cases hk
  · simp only [opK] at hk
    obtain ⟨ti,h1,hkk⟩:=Z0 hk;replace hk:=hkk;clear hkk
    obtain ⟨mv,h2,hkk⟩:=Z0 hk;replace hk:=hkk;clear hkk
    obtain ⟨kv,h3,hkk⟩:=Z0 hk;replace hk:=hkk;clear hkk
    obtain ⟨vv,h3',hkk⟩:=Z0 hk;replace hk:=hkk;clear hkk
    simp only [Zy,h1,Option.bind_some,ZH,h2,Option.map_some,h3,h3']
    split at hk
    · rename_i kt e id he
      obtain ⟨ki,h5,hkk⟩:=Z0 hk;replace hk:=hkk;clear hkk
      obtain ⟨o,ho,hkk⟩:=Z0 hk;replace hk:=hkk;clear hkk
      cases o<;>simp only [reduceCtorEq] at hk
      rename_i kc ec es
      obtain ⟨key,h8,hkk⟩:=Z0 hk;replace hk:=hkk;clear hkk
      obtain ⟨h7,hkk⟩:=Z2 hk;replace hk:=hkk;clear hkk
      obtain ⟨_,_,hkk⟩:=Z0 hk;replace hk:=hkk;clear hkk
      obtain ⟨xv,h9,hkk⟩:=Z0 hk;replace hk:=hkk;clear hkk
      obtain ⟨eq,h10,hkk⟩:=Z0 hk;replace hk:=hkk;clear hkk
      simp only [Bool.and_eq_true,Bool.not_eq_true'] at h7
      obtain ⟨q1,q4⟩:=h7
      have hkey:=Z3e hX.t h8
      have hval:=Z3e hX.t h9
      obtain ⟨c1,c2⟩:=Zeu q4 xv
      simp only [he,h5,Option.bind_some,dv,dvh,ho,Option.map_some,dvO,hkey,hval,Z7y hX h5 q1,c1,c2,Bool.and_self,cond_true,ZbS hX h10]
      refine ⟨_,?_,ZR rfl ZP,hk⟩
      rw [c1,c2]
      simp [Y3,dvu,dvO,dv,dvl]
    · cases hk
omit hX in
theorem Z59 {T:TS S} (nid:Nat):∀ cs:List (TV S),dvs T (Z8W nid cs)=dvs T cs
  | []=>rfl
  | c::cs=>by
    cases c<;>first|(simp only [Z8W,Zv,Z59 nid cs];done)|skip
    rename_i ts n
    simp only [Z8W,Zv,Z59 nid cs]
    congr 1
    simp only [Y2,eal]
    have e:enD nid ts 0 = .nilif:=by cases ts<;>rfl
    rw [e,List.map_const',List.length_range]
theorem ZeZ {t:TypeId} {ti:TI} {z:TV S} (h1:X.E.ty t=some ti) (h:zeroT X t ti=some z):Z18 ti=some (dv X.T z):=by
  unfold zeroT at h
  obtain ⟨zs,h2,h⟩:=Z0 h
  have hz:=hX.zero t zs ti h2 h1
  unfold Z18
  cases ha:ti.isAgg with
  | true =>
    rw [ha] at h
    simp only [cond_true,Option.some.injEq] at h ⊢
    subst h
    rw [←hz];simp [dv]
  | false =>
    rw [ha] at h
    simp only [cond_false] at h ⊢
    split at h
    · rename_i c
      cases hc:ZQ c with
      | true=>rw [hc] at h;cases h
      | false =>
        rw [hc] at h
        cases h
        rw [←hz]
        have:dvs X.T [z]=[dv X.T z]:=by
          rw [Zv,Z7Q,List.append_nil]
          cases z<;>simp [Y2,ZQ] at hc ⊢
        rw [this];rfl
    · cases h
theorem Zhf {nid:Nat} {ρ:Nat→Option (TV S)} {h:Nat→Option (Zi S)} {op:Op} {k:Z2q S R} {r:R} (hk:opK X nid ρ h op k=some r) :
    Sim X.T (Zy X.E nid (dvr X.T ρ) (dvh X.T h) op) k r:=by
  cases op with
  | build t ps=>exact Z3S hX hk (.inl ⟨_,_,rfl⟩)
  | buildSlice t n ps=>exact Z3S hX hk (.inr (.inl ⟨_,_,_,rfl⟩))
  | slice t x lo hi mx =>
    cases mx with
    | none=>exact Z3S hX hk (.inr (.inr (.inl ⟨_,_,_,_,rfl⟩)))
    | some _=>cases hk
  | indexAddr t x i=>exact Z3S hX hk (.inr (.inr (.inr (.inl ⟨_,_,_,rfl⟩))))
  | index t x i=>exact Z3S hX hk (.inr (.inr (.inr (.inr (.inl ⟨_,_,_,rfl⟩)))))
  | lookup t m x ok=>exact Z3S hX hk (.inr (.inr (.inr (.inr (.inr (.inl ⟨_,_,_,_,rfl⟩))))))
  | mapUpdate t m x v=>exact Z3S hX hk (.inr (.inr (.inr (.inr (.inr (.inr ⟨_,_,_,_,rfl⟩))))))
  | makeInterface t x =>
    obtain ⟨ti,h1,hk⟩:=Z0 hk
    obtain ⟨v,h2,hk⟩:=Z0 hk
    cases ha:ZQ v with
    | true=>rw [ha] at hk;cases hk
    | false =>
      rw [ha] at hk
      simp only [cond_false] at hk
      simp only [Zy,h1,Option.bind_some,ZH,h2,Option.map_some]
      cases hk2:ti.k<;>rw [hk2] at hk<;>first|exact Zs hk rfl|cases hk
  | typeAssert x xt t ok =>
    obtain ⟨ti,h1,hk⟩:=Z0 hk
    obtain ⟨v,h2,hk⟩:=Z0 hk
    simp only [Zy,h1,Option.bind_some,ZH,h2,Option.map_some]
    have hf:∀ {r:R},(bif ok then (zeroT X t ti).bind fun z=>ZJ (.tup [z,.bool false]) k else none)=some r→Sim X.T (bif ok then (Z18 ti).bind fun z=>ret (.tup [z,.bool false]) else none) k r:=fun h=>by
      cases ok with
      | false=>cases h
      | true =>
        obtain ⟨z,h3,h⟩:=Z0 h
        simp only [cond_true,ZeZ hX h1 h3,Option.bind_some]
        exact Zs h (by simp [dv,dvl])
    cases v with
    | nilif=>cases hk2:ti.k<;>rw [hk2] at hk<;>first|exact hf hk|cases hk
    | iface t' w =>
      have h3:(bif Nat.beq t' t then ZJ (bif ok then .tup [w,.bool true] else w) k else bif ok then (zeroT X t ti).bind fun z=>ZJ (.tup [z,.bool false]) k else none)=some r∧ti.k ≠ .iface:=by
        cases hk2:ti.k<;>rw [hk2] at hk<;>first|exact ⟨hk,by simp⟩|cases hk
      obtain ⟨h3,hni⟩:=h3
      have h4:Sim X.T (bif Nat.beq t' t then ret (bif ok then .tup [dv X.T w,.bool true] else dv X.T w) else bif ok then (Z18 ti).bind fun z=>ret (.tup [z,.bool false]) else none) k r:=by
        cases hq:Nat.beq t' t with
        | true =>
          rw [hq] at h3
          cases ok
          · exact Zs h3 rfl
          · exact Zs h3 (by simp [dv,dvl])
        | false=>rw [hq] at h3;exact hf h3
      simp only [dv]
      cases hk2:ti.k<;>first|exact h4|exact absurd hk2 hni
    | _=>cases hk2:ti.k<;>rw [hk2] at hk<;>cases hk
  | makeSlice t l c =>
    obtain ⟨ti,h1,hk⟩:=Z0 hk
    obtain ⟨dl,h2,hk⟩:=Z0 hk
    obtain ⟨dc,h3,hk⟩:=Z0 hk
    simp only [Zy,h1,Option.bind_some,ZH,h2,h3,Option.map_some]
    cases he:ti.k with
    | slice e =>
      rw [he] at hk
      obtain ⟨k1,n,rfl⟩:∃ k n,dl = .int k n:=by cases dl<;>first|exact ⟨_,_,rfl⟩|cases hk
      obtain ⟨k2,n',rfl⟩:∃ k n,dc = .int k n:=by cases dc<;>first|exact ⟨_,_,rfl⟩|cases hk
      simp only at hk
      obtain ⟨ei,h4,hk⟩:=Z0 hk
      obtain ⟨te,h5,hk⟩:=Z0 hk
      obtain ⟨z,h6,hk⟩:=Z0 hk
      obtain ⟨zv,h7,hk⟩:=Z0 hk
      obtain ⟨h8,hk⟩:=Z2 hk
      have hz:=hX.zero e z ei h6 h4
      have hzd:ei.zero=dcl X.T te zv:=by rw [←hz,Z2m hX.t h7]
      have hfree:Z9 ei.zero=true:=by rw [hzd];exact Z1z (Z2Q hX.t te zv)
      simp only [dv,h4,Option.bind_some,h8,hfree,Bool.and_self,cond_true]
      refine ⟨_,?_,ZR rfl ZP,hk⟩
      simp [Y3,dvu,dvO,dv,hzd,List.map_replicate]
    | _=>rw [he] at hk;cases hk
  | move x =>
    obtain ⟨v,h1,hk⟩:=Z0 hk
    simp only [Zy,ZH,h1,Option.map_some,Option.bind_some]
    exact Zs hk rfl
  | assign x =>
    obtain ⟨v,h1,hk⟩:=Z0 hk
    simp only [Zy,ZH,h1,Option.map_some,Option.bind_some]
    exact Zs hk rfl
  | pick c a b =>
    obtain ⟨v,h1,hk⟩:=Z0 hk
    cases v<;>simp only [reduceCtorEq] at hk
    rename_i c
    simp only [Zy,ZH,h1,Option.map_some,Option.bind_some,dv]
    unfold Zh0 at hk
    split at hk
    · rename_i x y ha hb
      rw [ha,hb]
      cases c<;>exact Zs hk rfl
    · cases c with
      | true =>
        simp only [cond_true] at hk ⊢
        obtain ⟨v,h2,hk⟩:=Z0 hk
        rw [h2];exact Zs hk rfl
      | false =>
        simp only [cond_false] at hk ⊢
        obtain ⟨v,h2,hk⟩:=Z0 hk
        rw [h2];exact Zs hk rfl
  | alloc t =>
    obtain ⟨ti,h1,hk⟩:=Z0 hk
    obtain ⟨z,h2,hk⟩:=Z0 hk
    refine ⟨_,?_,ZR rfl ZP,hk⟩
    simp only [Zy,h1,Option.bind_some,Y3,dvu,List.map_cons,List.map_nil,Option.map_some,dv,dvO,Z56 hX,Z59,hX.zero t z ti h2 h1]
  | box t x =>
    obtain ⟨v,h1,hk⟩:=Z0 hk
    obtain ⟨h2,hk⟩:=Z2 hk
    refine ⟨_,?_,ZR rfl ZP,hk⟩
    have h3:=Z7n hX h2
    rw [Ys] at h3
    simp only [Zy,ZH,h1,Option.map_some,Option.bind_some,Ys,h3,cond_true,Y3,dvu,List.map_cons,List.map_nil,dv,dvO,Z56 hX,Z59]
  | load t a =>
    obtain ⟨ti,h1,hk⟩:=Z0 hk
    obtain ⟨v,h2,hk⟩:=Z0 hk
    simp only [Zy,h1,ZH,h2,Option.map_some,Option.bind_some]
    exact ZbM hX hk
  | store t a x =>
    obtain ⟨ti,h1,hk⟩:=Z0 hk
    obtain ⟨v,h2,hk⟩:=Z0 hk
    obtain ⟨u,h3,hk⟩:=Z0 hk
    simp only [Zy,h1,ZH,h2,h3,Option.map_some,Option.bind_some]
    exact ZeV hX hk
  | nilCheck x =>
    obtain ⟨v,h1,hk⟩:=Z0 hk
    simp only [Zy,ZH,h1,Option.map_some,Option.bind_some]
    cases v<;>simp only [reduceCtorEq] at hk<;>exact Zs hk rfl
  | binOp op t x y u =>
    obtain ⟨a,h1,hk⟩:=Z0 hk
    obtain ⟨b,h2,hk⟩:=Z0 hk
    simp only [Zy,ZH,h1,h2,Option.map_some,Option.bind_some]
    exact Zge hX hk
  | unOp op t x =>
    obtain ⟨a,h1,hk⟩:=Z0 hk
    simp only [Zy,ZH,h1,Option.map_some,Option.bind_some]
    exact Zhq hk
  | convert s d x =>
    obtain ⟨ts,h1,hk⟩:=Z0 hk
    obtain ⟨td,h2,hk⟩:=Z0 hk
    obtain ⟨v,h3,hk⟩:=Z0 hk
    simp only [Zy,h1,h2,ZH,h3,Option.map_some,Option.bind_some]
    split at hk
    · rename_i he;simp only [he,dv];exact Zs hk rfl
    · rename_i he;simp only [he,dv];exact Zs hk rfl
    · cases hk
  | makeFunc f a c =>
    obtain ⟨as,h1,hk⟩:=Z0 hk
    obtain ⟨bs,h2,hk⟩:=Z0 hk
    simp only [Zy,Z33,h1,h2,Option.map_some,Option.bind_some]
    exact Zs hk (by simp [dv,ret])
  | makeMap t sz =>
    cases sz with
    | some _=>cases hk
    | none =>
      obtain ⟨ti,h1,hk⟩:=Z0 hk
      split at hk
      · obtain ⟨kt,h2,hk⟩:=Z0 hk
        obtain ⟨et,h3,hk⟩:=Z0 hk
        refine ⟨_,?_,ZR rfl ZP,hk⟩
        simp [Zy,Y3,dvu,dv,dvO]
      · cases hk
  | fieldAddr s x f =>
    obtain ⟨ti,h1,hk⟩:=Z0 hk
    obtain ⟨v,h2,hk⟩:=Z0 hk
    simp only [Zy,h1,ZH,h2,Option.map_some,Option.bind_some]
    split at hk
    · rename_i fs he
      obtain ⟨⟨ft,off⟩,h3,hk⟩:=Z0 hk
      obtain ⟨fi,h4,hk⟩:=Z0 hk
      obtain ⟨h5,hk⟩:=Z2 hk
      obtain ⟨w,h6,hk⟩:=Z0 hk
      simp only at h4 h6
      simp only [he,h3,h4,Option.bind_some,h5,cond_true,Zf6 hX.t h6]
      exact Zs hk rfl
    · cases hk
  | field s x f =>
    obtain ⟨ti,h1,hk⟩:=Z0 hk
    obtain ⟨v,h2,hk⟩:=Z0 hk
    simp only [Zy,h1,ZH,h2,Option.map_some,Option.bind_some]
    split at hk
    · rename_i fs cs he
      obtain ⟨⟨ft,off⟩,h3,hk⟩:=Z0 hk
      obtain ⟨fi,h4,hk⟩:=Z0 hk
      obtain ⟨w,h6,hk⟩:=Z0 hk
      simp only at h4 h6
      simp only [he,dv,h3,h4,Option.bind_some,(Z3D hX.t h6).1]
      exact Zs hk rfl
    · cases hk
  | range t x =>
    obtain ⟨ti,h1,hk⟩:=Z0 hk
    obtain ⟨v,h2,hk⟩:=Z0 hk
    simp only [Zy,h1,ZH,h2,Option.map_some,Option.bind_some]
    split at hk
    · rename_i s he
      refine ⟨_,?_,ZR rfl ZP,hk⟩
      simp [he,Y3,dvu,dv,dvO]
    · cases hk
  | next it b =>
    cases b with
    | false=>cases hk
    | true =>
      obtain ⟨v,h1,hk⟩:=Z0 hk
      cases v<;>simp only [reduceCtorEq] at hk
      rename_i id
      obtain ⟨o,ho,hk⟩:=Z0 hk
      cases o<;>simp only [reduceCtorEq] at hk
      rename_i s pos
      simp only [Zy,ZH,h1,Option.map_some,Option.bind_some,dv,dvh,ho,dvO]
      cases hp:decide (pos<s.size) with
      | true =>
        rw [hp] at hk
        refine ⟨_,?_,ZR rfl ZP,hk⟩
        simp [Y3,dvu,dv,dvl,dvO]
      | false =>
        rw [hp] at hk
        exact Zs hk (by simp [dv,dvl])
  | extract t i =>
    obtain ⟨v,h1,hk⟩:=Z0 hk
    cases v<;>simp only [reduceCtorEq] at hk
    rename_i vs
    obtain ⟨w,h2,hk⟩:=Z0 hk
    simp only [Zy,ZH,h1,Option.map_some,Option.bind_some,dv,Z4X,List.getElem?_map,h2]
    exact Zs hk rfl
  | call c =>
    simp only [opK] at hk
    split at hk
    · rename_i hc
      split at hk
      · rename_i x t ts hx ht
        obtain ⟨ti,h1,hk⟩:=Z0 hk
        obtain ⟨v,h2,hk⟩:=Z0 hk
        obtain ⟨w,h3,hk⟩:=Z0 hk
        simp only [Zy,hc,hx,ht,h1,ZH,h2,Option.map_some,Option.bind_some,Zgz hX h3]
        exact Zs hk rfl
      · cases hk
    · rename_i hc
      split at hk
      · rename_i s x t t' hx ht
        obtain ⟨h0,hk⟩:=Z2 hk
        obtain ⟨v,h2,hk⟩:=Z0 hk
        obtain ⟨w,h3,hk⟩:=Z0 hk
        simp only [Zy,hc,hx,ht,h0,cond_true,ZH,h2,h3,Option.map_some,Option.bind_some]
        exact ZcD hX hk
      · cases hk
    · rename_i hc
      obtain ⟨vs,h1,hk⟩:=Z0 hk
      simp only [Zy,hc,Z33,h1,Option.map_some,Option.bind_some]
      split at hk
      · obtain ⟨w,h2,hk⟩:=Z0 hk
        simp only [dvl,Z8u hX (ZgE hX) h2,Option.bind_some]
        exact Zs hk rfl
      · cases hk
    · rename_i hc
      obtain ⟨vs,h1,hk⟩:=Z0 hk
      simp only [Zy,hc,Z33,h1,Option.map_some,Option.bind_some]
      split at hk
      · obtain ⟨w,h2,hk⟩:=Z0 hk
        simp only [dvl,Z8u hX (ZgD hX) h2,Option.bind_some]
        exact Zs hk rfl
      · cases hk
    · cases hk
  | _=>cases hk
end Go.Ab
namespace Go.Ab
variable {S:Nat→Type} {R:Type}
theorem Z1Q {α β:Type} (f:α→β):∀ (t:Tr α) (a b:Nat),(t.mapv f).ents a b=(t.ents a b).map fun p=>(p.1,f p.2)
  | .leaf,_,_=>rfl
  | .node l v r,a,b=>by
    simp only [Tr.mapv,Tr.ents,Z1Q f l,Z1Q f r,List.map_append]
    cases v<;>rfl
theorem Z7D:∀ (a b:List DV),Z1l (a++b)=Z1l a++Z1l b
  | [],b=>by simp [Z1l]
  | c::a,b=>by simp only [List.cons_append,Z1l,Z7D a b,List.append_assoc]
theorem Z5Q:∀ {cs:List DV},cs.all plain=true→Z1l cs=[]
  | [],_=>rfl
  | c::cs,h=>by
    simp only [List.all_cons,Bool.and_eq_true] at h
    simp only [Z1l,Z5Q h.2,List.append_nil]
    cases c<;>simp [plain] at h<;>simp [rid]
theorem Z8l {pid:Nat}:∀ {cs:List DV},cs.all (Z4A pid)=true→Z1l cs=[]
  | [],_=>rfl
  | c::cs,h=>by
    simp only [List.all_cons,Bool.and_eq_true] at h
    simp only [Z1l,Z8l h.2,List.append_nil]
    cases c<;>simp [Z4A] at h<;>simp [rid]
theorem Z5L (h:Nat→Option Z7):∀ {cs:List DV},cs.all plain=true→cs.map (Z5G h)=cs
  | [],_=>rfl
  | c::cs,hp=>by
    simp only [List.all_cons,Bool.and_eq_true] at hp
    rw [List.map_cons,Z5L h hp.2]
    cases c<;>simp [plain] at hp<;>simp [Z5G]
theorem Z65 (h:Nat→Option Z7) {pid:Nat}:∀ {cs:List DV},cs.all (Z4A pid)=true→cs.map (Z5G h)=cs
  | [],_=>rfl
  | c::cs,hp=>by
    simp only [List.all_cons,Bool.and_eq_true] at hp
    rw [List.map_cons,Z65 h hp.2]
    cases c<;>simp [Z4A] at hp<;>simp [Z5G]
section
variable {T:TS S} (hT:TOk T)
include hT
mutual
theorem ZaS:∀ v:TV S,rid (dv T v)=Z1L v
  | .bool _=>rfl | .int _ _=>rfl | .str _=>rfl | .nilp=>rfl | .nils=>rfl
  | .sl0=>by simp [dv,rid,Z1L] | .sl _ _=>by simp [dv,rid,Z1L]
  | .arr _ _ _=>by simp [dv,rid,Z1L]
  | .stc _ _=>by simp [dv,rid,Z1L]
  | .narr _ n=>by simp only [dv,rid,Z1L];exact Z8l (Z16 0 n)
  | .earr ts pid n a=>by simp only [dv,rid,Z1L];exact Z8l (Yt ts pid n a)
  | .ptr _ _=>by simp [dv,rid,Z1L] | .ap _ _ _ _ _=>by simp [dv,rid,Z1L] | .rptr _ _ _ _ _=>by simp [dv,rid,Z1L]
  | .pub _=>by simp [dv,rid,Z1L]
  | .rv _ _ _ _ _=>by simp [dv,rid,Z1L] | .slen _=>by simp [dv,rid,Z1L]
  | .rs _ _=>by simp [dv,rid,Z1L] | .map _=>by simp [dv,rid,Z1L] | .iter _=>by simp [dv,rid,Z1L] | .yld _=>by simp [dv,rid,Z1L]
  | .nilfn=>by simp [dv,rid,Z1L] | .nilmap=>by simp [dv,rid,Z1L] | .nilif=>by simp [dv,rid,Z1L]
  | .agg cs=>by simp only [dv,rid,Z1L];exact ZaT cs
  | .tup cs=>by simp only [dv,rid,Z1L];exact Z48 cs
  | .fn _ a c=>by simp only [dv,rid,Z1L,Z48 a,Z48 c]
  | .iface _ v=>by simp only [dv,rid,Z1L]
theorem ZaT:∀ cs:List (TV S),Z1l (dvs T cs)=Z2A cs
  | []=>by simp [dvs,Z1l,Z2A]
  | c::cs=>by
    rw [Zv,Z7D,Z2A,ZaT cs]
    have h:=ZaS c
    cases c<;>simp only [Y2,Z1l,List.append_nil]<;>first|rw [h]|skip
    · rw [Z5Q (Yl hT _ _ _)];rfl
    · rw [Z5Q (hT.plain _ _)];rfl
    · rw [Z8l (Yt _ _ _ _)];rfl
    · rw [Z8l (Z16 0 _)];rfl
theorem Z48:∀ cs:List (TV S),Z1l (dvl T cs)=Z2A cs
  | []=>by simp [dvl,Z1l,Z2A]
  | c::cs=>by simp only [dvl,Z1l,Z2A,ZaS c,Z48 cs]
end
theorem ZgO (o:Zi S):Zhj (dvO T o)=ZfU o:=by
  cases o<;>simp only [dvO,Zhj,ZfU]
  · exact ZaT hT _
  · rw [Z1Q,List.flatMap_map]
    congr 1
    funext p
    exact ZaS hT p.2
theorem Z35 (h:Nat→Option (Zi S)):∀ (n:Nat) (todo acc:List Nat),Z1b (dvh T h) n todo acc=Z1V h n todo acc
  | 0,_,_=>by simp [Z1b,Z1V]
  | n+1,[],_=>by simp [Z1b,Z1V]
  | n+1,i::todo,acc=>by
    simp only [Z1b,Z1V,dvh]
    cases acc.any (Nat.beq i) with
    | true=>exact Z35 h n todo acc
    | false =>
      simp only [cond_false]
      cases hi:h i with
      | none=>exact Z35 h n todo acc
      | some o =>
        simp only [Option.map_some,ZgO hT]
        exact Z35 h n _ _
omit hT in
theorem Z9d (h:Nat→Option (Zi S)):∀ (is:List Nat),Z2l (dvh T h) is=(Z7f h is).mapv (dvO T)
  | []=>rfl
  | i::is=>by
    simp only [Z2l,Z7f,Z9d h is,Yu,dvh]
omit hT in
theorem Z9D (o:Tr (Zi S)) (Rs:List Nat) (nx:Nat):Z4t (o.mapv (dvO T)) Rs nx=dvu T (Zam o Rs nx):=by
  unfold Z4t Zam dvu
  rw [Z1Q,List.map_map,List.map_map]
  have e:((fun x=>x.1)∘fun (p:Nat×Zi S)=>(p.1,dvO T p.2))=fun p=>p.1:=rfl
  rw [e]
  congr 1
  funext i
  simp only [Function.comp,Ya]
theorem ZdK (h:Nat→Option (Zi S)) (v:TV S):Z5G (dvh T h) (dv T v)=dv T (Z2z h v):=by
  cases v<;>simp only [dv,Z5G,Z2z]
  rename_i id ver
  simp only [dvh]
  cases h id with
  | none=>rfl
  | some o =>
    cases o<;>simp only [Option.map_some,dvO,dv]
    rename_i e t xs p u
    cases Nat.beq p 1&&Nat.beq u ver<;>simp [dv]
theorem Zbz (h:Nat→Option (Zi S)):∀ cs:List (TV S),(dvs T cs).map (Z5G (dvh T h))=dvs T (cs.map (Z2z h))
  | []=>by simp [dvs]
  | c::cs=>by
    rw [Zv,List.map_append,List.map_cons,Zv,Zbz h cs]
    congr 1
    have hc:=ZdK hT h c
    by_cases ha:ZQ c=true
    · cases c<;>simp only [ZQ,Bool.false_eq_true] at ha<;>simp only [Y2,Z2z]
      · exact Z5L _ (Yl hT _ _ _)
      · exact Z5L _ (hT.plain _ _)
      · exact Z65 _ (Yt _ _ _ _)
      · exact Z65 _ (Z16 0 _)
    · have h1:Y2 T c=[dv T c]:=by cases c<;>simp [Y2,ZQ] at ha ⊢
      have h2:Y2 T (Z2z h c)=[dv T (Z2z h c)]:=by
        have ha':ZQ (Z2z h c)=false:=by
          cases c<;>simp [ZQ] at ha<;>simp only [Z2z]<;>first|rfl|skip
          split
          · rename_i p u _
            cases Nat.beq p 1&&Nat.beq u _<;>rfl
          · rfl
        cases hq:Z2z h c<;>rw [hq] at ha'<;>simp [ZQ] at ha'<;>simp [Y2]
      rw [h1,h2,List.map_cons,List.map_nil,hc]
theorem Zgq (h:Nat→Option (Zi S)) (v:TV S):Z3h (dvh T h) (dv T v)=dv T (Z5l h v):=by
  cases v with
  | agg cs=>simp only [dv,Z3h,Z5l,Zbz hT]
  | arr t n a=>simp only [dv,Z3h,Z5l,Z2z,Z5G]
  | stc i x=>simp only [dv,Z3h,Z5l,Z2z,Z5G]
  | earr ts pid n a =>
    simp only [dv,Z3h,Z5l,Z2z]
    rw [Z65 _ (Yt ts pid n a)]
  | narr ts n =>
    simp only [dv,Z3h,Z5l,Z2z]
    rw [Z65 _ (Z16 0 n)]
  | rs id ver=>exact ZdK hT h (.rs id ver)
  | _=>simp only [dv,Z3h,Z5l,Z2z,Z5G]
theorem Z8v (h:Nat→Option (Zi S)):∀ vs:List (TV S),(dvl T vs).map (Z3h (dvh T h))=dvl T (vs.map (Z5l h))
  | []=>by simp [dvl]
  | c::cs=>by simp only [dvl,List.map_cons,Zgq hT,Z8v h cs]
end
theorem Z3a {α:Type} (n:Nat) (k:Nat→α):sN n k=k n:=by cases n<;>rfl
mutual
theorem Za3 {α:Type}:∀ (v:TV S) (k:TV S→α),sV v k=k v
  | .ptr _ _,_=>by simp only [sV,Z3a]
  | .ap _ _ _ _ _,_=>by simp only [sV,Z3a]
  | .rptr _ _ _ _ _,_=>by simp only [sV,Z3a]
  | .pub cs,_=>by simp only [sV,Z3c cs]
  | .rs _ _,_=>by simp only [sV,Z3a]
  | .rv _ _ _ _ _,_=>by simp only [sV,Z3a]
  | .slen _,_=>by simp only [sV]
  | .agg cs,_=>by simp only [sV,Z3c cs]
  | .tup cs,_=>by simp only [sV,Z3c cs]
  | .fn _ a c,_=>by simp only [sV,Z3c a,Z3c c]
  | .map _,_=>by simp only [sV,Z3a]
  | .iface _ v,_=>by simp only [sV,Za3 v]
  | .iter _,_=>by simp only [sV,Z3a]
  | .yld _,_=>by simp only [sV,Z3a]
  | .bool _,_=>by simp only [sV]
  | .int _ _,_=>by simp only [sV]
  | .str _,_=>by simp only [sV]
  | .nilp,_=>by simp only [sV]
  | .nils,_=>by simp only [sV]
  | .sl0,_=>by simp only [sV]
  | .sl _ _,_=>by simp only [sV]
  | .arr _ _ _,_=>by simp only [sV]
  | .stc _ _,_=>by simp only [sV]
  | .earr _ _ _ _,_=>by simp only [sV,Z3a]
  | .narr _ _,_=>by simp only [sV]
  | .nilfn,_=>by simp only [sV]
  | .nilmap,_=>by simp only [sV]
  | .nilif,_=>by simp only [sV]
theorem Z3c {α:Type}:∀ (v:List (TV S)) (k:List (TV S)→α),sVs v k=k v
  | [],_=>by simp only [sVs]
  | c::cs,_=>by simp only [sVs,Za3 c,Z3c cs]
end
theorem Z3b {α β:Type} {f:β→(β→α)→α} (hf:∀ v k,f v k=k v):∀ (t:Tr β) (k:Tr β→α),sTr f t k=k t
  | .leaf,_=>rfl
  | .node l v r,k=>by
    simp only [sTr,Z3b hf l,Z3b hf r]
    cases v with
    | none=>rfl
    | some x=>simp only [hf]
theorem Z97 {α:Type} (v:Zi S) (k:Zi S→α):sO v k=k v:=by
  cases v<;>simp only [sO,Z3c,Z3a,Z3b Za3]
theorem ZfY {α:Type} (s:StT S) (k:StT S→α):sSt s k=k s:=by
  unfold sSt
  rw [Z3b Za3,Z3b Z97,Z3a]
theorem Z96 {α:Type}:∀ (v:List Nat) (k:List Nat→α),sNs v k=k v
  | [],_=>rfl
  | i::is,k=>by simp only [sNs,Z3a,Z96 is]
end Go.Ab
namespace Go.Ab
variable {S:Nat→Type} {R:Type}
def Evt (p:Nat→Prop):Prop:=∃ N,∀ n,N≤n→p n
theorem Evt.and {p q:Nat→Prop} (hp:Evt p) (hq:Evt q):Evt fun n=>p n∧q n:=by
  obtain ⟨a,ha⟩:=hp
  obtain ⟨b,hb⟩:=hq
  exact ⟨max a b,fun n hn=>⟨ha n (by omega),hb n (by omega)⟩⟩
theorem Evt.mono {p q:Nat→Prop} (hp:Evt p) (h:∀ n,p n→q n):Evt q:=by
  obtain ⟨a,ha⟩:=hp
  exact ⟨a,fun n hn=>h n (ha n hn)⟩
theorem Evt.of {p:Nat→Prop} (h:∀ n,p n):Evt p:=⟨0,fun n _=>h n⟩
theorem Evt.succ {p:Nat→Prop} (hp:Evt fun n=>p (n+1)):Evt p:=by
  obtain ⟨a,ha⟩:=hp
  refine ⟨a+1,fun n hn => ?_⟩
  cases n with
  | zero=>omega
  | succ n=>exact ha n (by omega)
def WfL (E:Env) (o:Option (Zi S)):Prop:=match o with
  | some (.loop fid _ ps as bo _ _ _ po)=>∃ F f,E.fn fid=some F∧Code.sub F.body po=some (.rangeFunc f ps.toArray as bo)
  | _=>True
def WfO (E:Env) (o:Tr (Zi S)):Prop:=∀ i,WfL E (o.get i)
theorem Z9l {E:Env} {x:Option (Zi S)} (h:ZcR x=false):WfL E x:=by
  cases x with
  | none=>trivial
  | some o=>cases o<;>first|trivial|cases h
theorem WfO.set {E:Env} {o:Tr (Zi S)} (h:WfO E o) {i:Nat} {x:Option (Zi S)} (hx:WfL E x):WfO E (o.set i x):=fun j=>by
  rw [Tr.get_set]
  split
  · exact hx
  · exact h j
theorem WfO.upd {E:Env}:∀ {u:List (Nat×Option (Zi S))} {o:Tr (Zi S)},WfO E o→Z5y u→WfO E (Z4j o u)
  | [],_,h,_=>h
  | (i,x)::u,o,h,hu=>by
    simp only [Z4j]
    exact WfO.upd (h.set (Z9l (hu (i,x) (by simp)))) (fun p hp=>hu p (by simp [hp]))
theorem WfO.updW {E:Env}:∀ {u:List (Nat×Option (Zi S))} {o:Tr (Zi S)},WfO E o→(∀ p∈u,WfL E p.2)→WfO E (Z4j o u)
  | [],_,h,_=>h
  | (i,x)::u,o,h,hu=>by
    simp only [Z4j]
    exact WfO.updW (h.set (hu (i,x) (by simp))) (fun p hp=>hu p (by simp [hp]))
def ZfM (E:Env) (n:Nat):Yi:=Z92 E (fun g as=>(evX E n false g as .leaf 0).bind fun x=>frz x.2.1.get x.1) (evX E n false) (evX E n true) n
structure Z7N (X:Yb S) (cs:Z3x S R):Prop where
  fn:∀ g as k r,cs.fn g as k=some r→∃ d,Evt (fun n=>evF X.E n g (dvl X.T as)=some (dv X.T d))∧k d=some r
  pr:∀ g as s n0 k r,cs.pr g as s n0 k=some r→WfO X.E s→∃ v os n',
    Evt (fun n=>(ZfM X.E n g (dvl X.T as) (s.mapv (dvO X.T)) n0).bind (Z7s n0)=some (dv X.T v,os.mapv (dvO X.T),n'))∧WfO X.E os∧k v os n'=some r
def Z2p (X:Yb S) (b:Bool) (callH:Z2o S R):Prop:=∀ path g as objs next k r,callH path g as objs next k=some r→WfO X.E objs →
  ∃ v objs' next',Evt (fun n=>evX X.E n b g (dvl X.T as) (objs.mapv (dvO X.T)) next=some (dv X.T v,objs'.mapv (dvO X.T),next'))∧WfO X.E objs'∧k v objs' next'=some r
def Zbm (T:TS S) (l:List (Nat×Option (TV S))):Loc:=l.map fun p=>(p.1,p.2.map (dv T))
def dvM (T:TS S) (m:Z2b S):Mid:=⟨m.base.mapv (dv T),Zbm T m.loc,m.objs.mapv (dvO T),m.next⟩
def ZS (T:TS S) (s:StT S):St:=⟨s.base.mapv (dv T),s.objs.mapv (dvO T),s.next⟩
section
variable (T:TS S)
theorem ZdH:∀ (l:List (Nat×Option (TV S))) (t:Nat),Loc.find (Zbm T l) t=(Z8s l t).map (Option.map (dv T))
  | [],t=>rfl
  | (s,v)::l,t=>by
    simp only [Zbm,List.map_cons,Loc.find,Z8s]
    cases Nat.beq s t with
    | true=>rfl
    | false=>exact ZdH l t
theorem Zb5 (V:Nat) (b:Tr (TV S)) (l:List (Nat×Option (TV S))):ZX V (b.mapv (dv T)) (Zbm T l)=dvr T (Z1m V b l):=by
  funext t
  unfold ZX Z1m dvr
  cases hv:Nat.testBit V t with
  | true=>simp only [hv,cond_true];exact Ya _ _ _
  | false =>
    simp only [hv,cond_false,ZdH]
    cases Z8s l t with
    | none=>rfl
    | some v=>rfl
theorem Z9j:∀ (u:List (Nat×Option (Zi S))) (o:Tr (Zi S)),Y1 (o.mapv (dvO T)) (dvu T u)=(Z4j o u).mapv (dvO T)
  | [],o=>rfl
  | (i,x)::u,o=>by
    simp only [dvu,List.map_cons,Y1,Z4j]
    rw [←Yu]
    exact Z9j u _
theorem Zd7 (V nt:Nat) (m:Z2b S) (dst:Option Tmp) (v:Option (TV S)):(dvM T m).put V nt dst (v.map (dv T))=dvM T (m.put V nt dst v):=by
  unfold Mid.put Z2b.put
  cases dst with
  | none=>rfl
  | some d =>
    simp only
    cases (!Nat.blt d nt) with
    | true=>rfl
    | false =>
      cases Nat.testBit V d with
      | true=>simp only [cond_false,cond_true,dvM,Yu]
      | false=>simp only [cond_false,dvM,Zbm,List.map_cons]
theorem Ze0 (V nt:Nat) (m:Z2b S) (dst:Option Tmp) (o:Zaf S):({ dvM T m with objs:=Y1 (dvM T m).objs (Y3 T o).upd }:Mid).put V nt dst (Y3 T o).val=dvM T (({ m with objs:=Z4j m.objs o.upd }:Z2b S).put V nt dst o.val):=by
  rw [←Zd7]
  simp only [dvM,Y3,Z9j]
theorem Z8L (m:Z2b S):(dvM T m).objs.get=dvh T m.objs.get:=funext fun i=>Ya _ _ _
end
theorem Z57 (V nt:Nat) (m:Z2b S) (dst:Option Tmp) (v:Option (TV S)):(m.put V nt dst v).objs=m.objs:=by
  unfold Z2b.put
  cases dst with
  | none=>rfl
  | some d =>
    simp only
    cases (!Nat.blt d nt) with
    | true=>rfl
    | false=>cases Nat.testBit V d<;>rfl
theorem ZeU (V nt:Nat) (m:Z2b S) (dst:Option Tmp) (v:Option (TV S)) (t:Nat) :
    Z1m V (m.put V nt dst v).base (m.put V nt dst v).loc t=if dst=some t∧t<nt then v else Z1m V m.base m.loc t:=by
  unfold Z2b.put
  cases dst with
  | none=>simp
  | some d =>
    simp only [Tr.blt_dec]
    by_cases hl:d<nt
    · simp only [hl,decide_true,Bool.not_true,cond_false]
      cases hv:Nat.testBit V d with
      | true =>
        simp only [cond_true]
        unfold Z1m
        by_cases e:d=t
        · subst e;simp [hv,hl,Tr.get_set]
        · have:¬ t=d:=fun h=>e h.symm
          simp [e,Tr.get_set,this]
      | false =>
        simp only [cond_false]
        unfold Z1m
        by_cases e:d=t
        · subst e;simp [hv,hl,Z8s]
        · simp [e,Z8s,Tr.beq_dec]
    · simp only [hl,decide_false,Bool.not_false,cond_true]
      by_cases e:d=t
      · subst e;simp [hl]
      · simp [e]
def Z9p (kn:List (Nat×Bool)) (ρ:Nat→Option (TV S)):Prop:=∀ t b0 b,knF kn t=some b0→ρ t=some (.bool b)→b=b0
theorem ZaJ {kn:List (Nat×Bool)} {ρ:Nat→Option (TV S)} (h:Z9p kn ρ):(fun t=>ovK kn t (ρ t))=ρ:=by
  funext t
  unfold ovK
  cases kn with
  | nil=>rfl
  | cons p l =>
    simp only
    cases hv:ρ t with
    | none=>rfl
    | some v =>
      cases v<;>simp only
      rename_i b
      cases hk:knF (p::l) t with
      | none=>rfl
      | some b0=>rw [h t b0 b hk hv]
theorem Zgw (kn:List (Nat×Bool)) (d t:Nat):knF (Z4B kn (some d)) t=if t=d then none else knF kn t:=by
  unfold Z4B
  induction kn with
  | nil=>simp [knF]
  | cons p l ih =>
    simp only [List.filter_cons]
    by_cases e:p.1=d
    · subst e
      simp only [Tr.beq_dec,decide_true,Bool.not_true,Bool.false_eq_true,if_false]
      simp only [Tr.beq_dec] at ih
      rw [ih]
      simp only [knF,Tr.beq_dec]
      by_cases e2:t=p.1
      · simp [e2]
      · have:¬ p.1=t:=fun h=>e2 h.symm
        simp [e2,this]
    · simp only [Tr.beq_dec] at ih ⊢
      simp only [e,decide_false,Bool.not_false,if_true,knF,Tr.beq_dec]
      by_cases e2:p.1=t
      · subst e2;simp [e]
      · simp only [e2,decide_false,cond_false];exact ih
theorem ZbL {kn:List (Nat×Bool)} {ρ ρ':Nat→Option (TV S)} {dst:Option Tmp} (h:Z9p kn ρ) (hρ:∀ t v,dst≠some t→ρ' t=some v→ρ t=some v):Z9p (Z4B kn dst) ρ':=fun t b0 b hk hv=>by
  cases dst with
  | none=>exact h t b0 b hk (hρ t _ (by simp) hv)
  | some d =>
    rw [Zgw] at hk
    by_cases e:t=d
    · rw [if_pos e] at hk;cases hk
    · rw [if_neg e] at hk
      exact h t b0 b hk (hρ t _ (fun q=>e (by cases q;rfl)) hv)
theorem Z8G {kn:List (Nat×Bool)} {V nt:Nat} {m:Z2b S} {dst:Option Tmp} {v:Option (TV S)} (h:Z9p kn (Z1m V m.base m.loc)):Z9p (Z4B kn dst) (Z1m V (m.put V nt dst v).base (m.put V nt dst v).loc) :=
  ZbL h fun t w hne hw=>by
    rw [ZeU,if_neg (fun q=>hne q.1)] at hw;exact hw
theorem Zcu (T:TS S) {ops:Array Oper} {ρ:Nat→Option (TV S)} {o:Oper} {kn:List (Nat×Bool)} (hkn:Z9p kn ρ) {f:Bool→List (Nat×Bool)→Option R} {r:R} (h:Zeg ops ρ o kn f=some r) :
    ∃ want kn',Z1o ops (dvr T ρ) o=some want∧Z9p kn' ρ∧(∀ t b,knF kn' t=some b→knF kn t=some b∨ρ t=some (.bool b))∧f want kn'=some r:=by
  unfold Zeg at h
  unfold Z1o
  split at h
  · rename_i hg
    rw [hg];exact ⟨true,kn,rfl,hkn,fun t b hb => .inl hb,h⟩
  · rename_i j want hg
    rw [hg]
    simp only
    split at h
    · rename_i t ht
      rw [ht]
      simp only [dvr]
      split at h
      · rename_i b hb
        rw [hb]
        simp only [Option.map_some,dv]
        have hk2:Z9p ((t,b)::kn) ρ:=fun t' b0 b' hk hv=>by
          simp only [knF,Tr.beq_dec] at hk
          by_cases e:t=t'
          · subst e;simp at hk;subst hk;rw [hb] at hv;cases hv;rfl
          · simp [e] at hk;exact hkn t' b0 b' hk hv
        have hk3:∀ t' b',knF ((t,b)::kn) t'=some b'→knF kn t'=some b'∨ρ t'=some (.bool b'):=fun t' b' hk=>by
          simp only [knF,Tr.beq_dec] at hk
          by_cases e:t=t'
          · subst e;simp at hk;subst hk;exact .inr hb
          · simp [e] at hk;exact .inl hk
        cases b with
        | true=>exact ⟨_,_,rfl,hk2,hk3,h⟩
        | false=>exact ⟨_,_,rfl,hk2,hk3,h⟩
      · rename_i v hv hne
        rw [hne]
        simp only [Option.map_some]
        have:∀ b,dv T v ≠ .bool b:=fun b hb=>by
          cases v<;>simp [dv] at hb
          exact hv _ rfl
        refine ⟨false,kn,?_,hkn,fun t b hb => .inl hb,h⟩
        split
        · rename_i b hb
          injection hb with hb
          exact absurd hb (this _)
        · rfl
        · rename_i hq;cases hq
      · cases h
    · cases h
theorem Zdp {T:TS S} {E:Env} {ρ:Nat→Option (TV S)} {c:Call} {tgt:TV S×List (TV S)} (h:Zb6 E ρ c=some tgt):target E (dvr T ρ) c=some (dv T tgt.1,dvl T tgt.2):=by
  unfold Zb6 at h
  unfold target
  split at h
  · rename_i f hc
    rw [hc]
    obtain ⟨v,h1,h⟩:=Z0 h
    simp only [ZH,h1,Option.map_some,Option.bind_some]
    split at h
    · obtain ⟨as,h2,h⟩:=Z0 h
      cases h
      simp only [dv,Z33,h2,Option.map_some,Option.bind_some,Z5C,dvl]
    · obtain ⟨as,h2,h⟩:=Z0 h
      cases h
      simp only [dv,Z33,h2,Option.map_some,Option.bind_some]
    · cases h
  · rename_i rv m hc
    rw [hc]
    obtain ⟨v,h1,h⟩:=Z0 h
    simp only [ZH,h1,Option.map_some,Option.bind_some]
    split at h
    · obtain ⟨ti,h2,h⟩:=Z0 h
      obtain ⟨g,h3,h⟩:=Z0 h
      obtain ⟨as,h4,h⟩:=Z0 h
      cases h
      simp only [dv,h2,h3,Z33,h4,Option.map_some,Option.bind_some,dvl]
    · cases h
  · cases h
theorem Zd5 (T:TS S) (E:Env) (tgt:TV S×List (TV S)):Zd4 E (dv T tgt.1,dvl T tgt.2)=ZdY E tgt:=by
  obtain ⟨v,as⟩:=tgt
  cases v<;>simp only [dv,Zd4,ZdY]
  rename_i f a c
  cases f<;>rfl
section
variable {X:Yb S} (hX:XOk X) {cs:Z3x S R} (hcs:Z7N X cs)
include hX hcs
theorem Zco {nid:Nat} {ρ:Nat→Option (TV S)} {h:Nat→Option (Zi S)} {op:Op} {k:Z2q S R} {ki:TV S×List (TV S)→Option R} {r:R} (hk:Zee X cs nid ρ h op k ki=some r) :
    (∃ o:Zaf S,Evt (fun n=>Z3N X.E (evF X.E n) nid (dvr X.T ρ) (dvh X.T h) op=some (some (Y3 X.T o)))∧Z5y o.upd∧k o=some r) ∨
    (∃ c tgt,Z3s op=some c∧(∀ call,Z3N X.E call nid (dvr X.T ρ) (dvh X.T h) op=some none)∧target X.E (dvr X.T ρ) c=some (dv X.T tgt.1,dvl X.T tgt.2)∧ki tgt=some r):=by
  unfold Zee at hk
  split at hk
  · rename_i hc
    obtain ⟨o,h1,h2,h3⟩:=Zhf hX hk
    refine .inl ⟨o,Evt.of fun n => ?_,h2,h3⟩
    unfold Z3N
    rw [hc,h1];rfl
  · rename_i c hc
    obtain ⟨tgt,h1,hk⟩:=Z0 hk
    have h2:=Zdp (T:=X.T) h1
    cases hp:ZdY X.E tgt with
    | false =>
      rw [hp] at hk
      refine .inr ⟨c,tgt,hc,fun call => ?_,h2,hk⟩
      unfold Z3N
      rw [hc]
      simp only [h2,Option.bind_some,Zd5,hp,cond_false]
    | true =>
      rw [hp] at hk
      simp only [cond_true] at hk
      unfold ZgW at hk
      split at hk
      · rename_i g x y as
        obtain ⟨fs,h3,hk⟩:=Z0 hk
        obtain ⟨d,h4,hk⟩:=hcs.fn _ _ _ _ hk
        cases hrv:as.any ZdM with
        | true =>
          rw [hrv] at hk
          simp only [cond_true] at hk
          obtain ⟨d',h5,hk⟩:=Z0 hk
          unfold ZJ at hk
          refine .inl ⟨_,h4.mono fun n hn => ?_,ZP,hk⟩
          unfold Z3N
          rw [hc]
          simp only [h2,Option.bind_some]
          rw [show Zd4 X.E (dv X.T (TV.fn (Fn.func g) x y,as).1,dvl X.T (TV.fn (Fn.func g) x y,as).2)=true from (Zd5 X.T X.E _).trans hp]
          simp only [cond_true]
          unfold Z4u
          rw [h2]
          simp only [Option.bind_some,dv,Z6T hX.t,h3,Option.map_some,hn,Z86,hrv,cond_true,Zei h5]
          simp [ret,Y3,dvu]
        | false =>
        rw [hrv] at hk
        simp only [cond_false] at hk
        refine .inl ⟨_,h4.mono fun n hn => ?_,Z2g _ _,hk⟩
        unfold Z3N
        rw [hc]
        simp only [h2,Option.bind_some]
        rw [show Zd4 X.E (dv X.T (TV.fn (Fn.func g) x y,as).1,dvl X.T (TV.fn (Fn.func g) x y,as).2)=true from (Zd5 X.T X.E _).trans hp]
        simp only [cond_true]
        unfold Z4u
        rw [h2]
        simp only [Option.bind_some,dv,Z6T hX.t,h3,Option.map_some,hn,Z86,hrv,cond_false]
        simp [Y3,Z6D,Z3L hX.t]
      · cases hk
omit hcs in
theorem ZdC {callH callY:Z2o S R} (hH:Z2p X false callH) (hY:Z2p X true callY) {path:List Nat} {h:Nat→Option (Zi S)} {nx:Nat} {tgt:TV S×List (TV S)} {k:Zaf S→List Nat→Nat→Option R} {r:R}
    (hd:Z61 callH callY path h nx tgt k=some r) (hw:∀ i,WfL X.E (h i)) :
    ∃ x Ts n,Evt (fun m=>YN (evX X.E m false) (evX X.E m true) (dvh X.T h) nx (dv X.T tgt.1,dvl X.T tgt.2)=some (Y3 X.T x,Ts,n))∧(∀ u∈x.upd,WfL X.E u.2)∧k x Ts n=some r:=by
  have hsub:∀ Rs:List Nat,WfO X.E (Z7f h Rs):=fun Rs=>by
    induction Rs with
    | nil=>intro i;exact trivial
    | cons j Rs ih =>
      simp only [Z7f]
      exact ih.set (hw j)
  unfold Z61 at hd
  split at hd
  · rename_i g x y as
    rw [Z3c] at hd
    unfold Zgh at hd
    rw [Z96,Z3b (fun v k=>Z97 v k)] at hd
    obtain ⟨v,o',n',h1,h2,hd⟩:=hH _ _ _ _ _ _ _ hd (hsub _)
    obtain ⟨h3,hd⟩:=Z2 hd
    refine ⟨_,_,_,h1.mono fun m hm => ?_,fun u hu => ?_,hd⟩
    · simp only [dv,YN,Z3p]
      rw [Z8v hX.t,Z48 hX.t,Z35 hX.t,Z9d,hm]
      simp only [Option.bind_some,h3,cond_true,Z9D,Z3L hX.t,Y3,Option.map_some]
    · obtain ⟨j,_,rfl⟩:=List.mem_map.1 hu
      exact h2 j
  · rename_i id as
    rw [Z3c] at hd
    unfold Zgh at hd
    rw [Z96,Z3b (fun v k=>Z97 v k)] at hd
    obtain ⟨v,o',n',h1,h2,hd⟩:=hY _ _ _ _ _ _ _ hd (hsub _)
    obtain ⟨h3,hd⟩:=Z2 hd
    refine ⟨_,_,_,h1.mono fun m hm => ?_,fun u hu => ?_,hd⟩
    · simp only [dv,YN,Z3p]
      rw [Z8v hX.t,Z48 hX.t,Z35 hX.t,Z9d,hm]
      simp only [Option.bind_some,h3,cond_true,Z9D,Z3L hX.t,Y3,Option.map_some]
    · obtain ⟨j,_,rfl⟩:=List.mem_map.1 hu
      exact h2 j
  · cases hd
theorem Z7Y {callH callY:Z2o S R} (hH:Z2p X false callH) (hY:Z2p X true callY) {path:List Nat} {V nt:Nat} {ops:Array Oper} {b:Nat} :
    ∀ (os:List Oper) (k:Nat) (kn:List (Nat×Bool)) (m:Z2b S) (kk:Z2b S→Option R) (r:R),ZeR X cs callH callY path V nt ops b k os kn m kk=some r→Z9p kn (Z1m V m.base m.loc)→WfO X.E m.objs →
      ∃ m',Evt (fun n=>Z2W X.E (evF X.E n) (evX X.E n false) (evX X.E n true) V nt ops b k os (dvM X.T m)=some (dvM X.T m'))∧WfO X.E m'.objs∧kk m'=some r
  | [],k,kn,m,kk,r,h,_,hw=>⟨m,Evt.of fun _=>rfl,hw,h⟩
  | o::os,k,kn,m,kk,r,h,hkn,hw=>by
    simp only [ZeR] at h
    rw [ZaJ hkn] at h
    obtain ⟨want,kn',h1,hkn',_,h⟩:=Zcu X.T hkn h
    cases want with
    | false =>
      simp only [cond_false] at h
      obtain ⟨m',h2,h3,h4⟩:=Z7Y hH hY os (k+1) _ _ kk r h (Z8G hkn') (by rw [Z57];exact hw)
      refine ⟨m',h2.mono fun n hn => ?_,h3,h4⟩
      simp only [Z2W]
      have e1:ZX V (dvM X.T m).base (dvM X.T m).loc=dvr X.T (Z1m V m.base m.loc):=Zb5 X.T V m.base m.loc
      rw [e1,h1]
      simp only [Option.bind_some,cond_false]
      have e2:=Zd7 X.T V nt m o.dst (some (.tup []))
      simp only [Option.map_some,dv,dvl] at e2
      rw [e2];exact hn
    | true =>
      simp only [cond_true] at h
      rw [ZaJ hkn'] at h
      have e1:ZX V (dvM X.T m).base (dvM X.T m).loc=dvr X.T (Z1m V m.base m.loc):=Zb5 X.T V m.base m.loc
      rcases Zco hX hcs h with ⟨q,h2,h3,h⟩|⟨c,tgt,h2,h3,h4,h⟩
      · obtain ⟨m',h5,h6,h7⟩:=Z7Y hH hY os (k+1) _ _ kk r h (Z8G (m:={ m with objs:=Z4j m.objs q.upd }) hkn') (by rw [Z57];exact hw.upd h3)
        refine ⟨m',(h2.and h5).mono fun n hn => ?_,h6,h7⟩
        simp only [Z2W]
        rw [e1,h1]
        simp only [Option.bind_some,cond_true,Z8L]
        rw [hn.1]
        simp only [Option.bind_some]
        rw [Ze0];exact hn.2
      · obtain ⟨x,Ts,nn,h5,h6,h⟩:=ZdC hX hH hY h hw
        obtain ⟨m',h7,h8,h9⟩:=Z7Y hH hY os (k+1) _ _ kk r h (Z8G (m:={ m with objs:=Z4j m.objs x.upd,next:=nn }) hkn') (by rw [Z57];exact hw.updW h6)
        refine ⟨m',(h5.and h7).mono fun n hn => ?_,h8,h9⟩
        simp only [Z2W]
        rw [e1,h1]
        simp only [Option.bind_some,cond_true,Z8L,h3,h2,h4]
        have e5:YN (evX X.E n false) (evX X.E n true) (dvh X.T m.objs.get) (dvM X.T m).next (dv X.T tgt.1,dvl X.T tgt.2)=some (Y3 X.T x,Ts,nn):=hn.1
        rw [e5]
        simp only [Option.bind_some]
        have e2:=Zd7 X.T V nt { m with objs:=Z4j m.objs x.upd,next:=nn } o.dst x.val
        have e4:({ dvM X.T m with objs:=Y1 (dvM X.T m).objs (Y3 X.T x).upd,next:=nn }:Mid)=dvM X.T { m with objs:=Z4j m.objs x.upd,next:=nn }:=by
          simp only [dvM,Y3,Z9j]
        rw [e4]
        have e6:(Y3 X.T x).val=x.val.map (dv X.T):=rfl
        rw [e6,e2];exact hn.2
end
end Go.Ab
namespace Go.Ab
variable {S:Nat→Type} {R:Type}
def dvD (T:TS S) (d:Z1f S):Yz:=⟨d.dst,d.anc,d.touch,Y3 T d.out,d.new⟩
def YS (T:TS S) (ds:List (Nat×Z1f S)):List (Nat×Yz):=ds.map fun p=>(p.1,dvD T p.2)
section
variable {T:TS S} (hT:TOk T)
include hT
theorem Zg5 (ρ:Nat→Option (TV S)) (op:Op):touch (dvr T ρ) op=Z9g ρ op:=by
  unfold touch Z9g
  congr 1
  funext x
  rw [ZH]
  cases ZO ρ x with
  | none=>rfl
  | some v=>exact Zay hT v
omit hT in
theorem Zea (anc:Nat) (ρ:Nat→Option (TV S)):∀ (ds:List (Nat×Z1f S)) (t:Nat),Z5W anc (dvr T ρ) (YS T ds) t=(Z3o anc ρ ds t).map (dv T)
  | [],t=>rfl
  | (j,d)::ds,t=>by
    have ih:=Zea anc ρ ds t
    show Z5W anc (dvr T ρ) ((j,dvD T d)::YS T ds) t=_
    simp only [Z5W,Z3o,dvD]
    rw [ih]
    cases d.dst with
    | none=>rfl
    | some s =>
      simp only
      cases Nat.beq s t with
      | true =>
        simp only [cond_true]
        cases Nat.testBit anc j<;>rfl
      | false=>rfl
omit hT in
theorem Z7Z (id:Nat):∀ (u:List (Nat×Option (Zi S))),Zq id (dvu T u)=(Z3g id u).map (Option.map (dvO T))
  | []=>rfl
  | (i,x)::u=>by
    have ih:=Z7Z id u
    unfold dvu at ih
    simp only [dvu,List.map_cons,Zq,Z3g,ih]
    cases Z3g id u with
    | some y=>rfl
    | none =>
      simp only [Option.map_none]
      cases Nat.beq i id<;>rfl
omit hT in
theorem Zch (anc:Nat) (h:Nat→Option (Zi S)):∀ (ds:List (Nat×Z1f S)),Z5u anc (dvh T h) (YS T ds)=dvh T (Z4a anc h ds)
  | []=>rfl
  | (j,d)::ds=>by
    funext id
    have ih:=congrFun (Zch anc h ds) id
    unfold YS at ih
    simp only [YS,List.map_cons,Z5u,dvD,Y3,Z7Z]
    show _=(Z4a anc h ((j,d)::ds) id).map (dvO T)
    simp only [Z4a]
    cases Z3g id d.out.upd with
    | none=>exact ih
    | some x =>
      simp only [Option.map_some]
      cases Nat.testBit anc j<;>rfl
omit hT in
theorem Z4p (ops:Array Oper) (ds:List (Nat×Z1f S)) (o:Oper) (k:Nat):Z1E ops (YS T ds) o k=Z4o ops ds o k:=by
  unfold Z1E Z4o
  congr 1
  funext m e
  have:((YS T ds).find? (fun d=>Nat.beq d.1 e.on)).map (·.2.anc)=(ds.find? (fun d=>Nat.beq d.1 e.on)).map (·.2.anc):=by
    unfold YS
    rw [List.find?_map,Option.map_map]
    rfl
  rw [this]
omit hT in
theorem Z9U (V nt:Nat):∀ (ds:List (Nat×Z1f S)) (m:Z2b S),YL V nt (YS T ds) (dvM T m)=dvM T (Z44 V nt ds m)
  | [],m=>rfl
  | (j,d)::ds,m=>by
    have ih:=Z9U V nt ds m
    unfold YS at ih
    simp only [YS,List.map_cons,YL,Z44,ih]
    exact Ze0 T V nt (Z44 V nt ds m) d.dst d.out
end
def Zh4 (E:Env) (ds:List (Nat×Z1f S)):Prop:=∀ p∈ds,∀ u∈p.2.out.upd,WfL E u.2
theorem Z9V {E:Env} {V nt:Nat}:∀ {ds:List (Nat×Z1f S)} {m:Z2b S},Zh4 E ds→WfO E m.objs→WfO E (Z44 V nt ds m).objs
  | [],_,_,h=>h
  | (j,d)::ds,m,hd,h=>by
    simp only [Z44]
    rw [Z57]
    exact (Z9V (fun p hp=>hd p (by simp [hp])) h).updW (hd (j,d) (by simp))
theorem Z5X {ρ:Nat→Option (TV S)} {a a':Nat} {v v':TV S}:∀ {ds:List (Nat×Z1f S)} {t:Nat},Z3o a ρ ds t=some v→Z3o a' ρ ds t=some v'→v=v'
  | [],t,h,h'=>by simp only [Z3o] at h h';rw [h] at h';cases h';rfl
  | (j,d)::ds,t,h,h'=>by
    simp only [Z3o] at h h'
    cases hd:d.dst with
    | none =>
      rw [hd] at h h'
      exact Z5X h h'
    | some s =>
      rw [hd] at h h'
      simp only at h h'
      cases hm:Nat.beq s t with
      | true =>
        rw [hm] at h h'
        simp only [cond_true] at h h'
        cases h1:Nat.testBit a j with
        | false=>rw [h1] at h;cases h
        | true=>cases h2:Nat.testBit a' j with
          | false=>rw [h2] at h';cases h'
          | true=>rw [h1] at h;rw [h2] at h';simp only [cond_true] at h h';rw [h] at h';cases h';rfl
      | false =>
        rw [hm] at h h'
        exact Z5X h h'
def KnD (kn:List (Nat×Bool)) (ρ:Nat→Option (TV S)) (ds:List (Nat×Z1f S)):Prop:=∀ anc,Z9p kn (Z3o anc ρ ds)
theorem Z8F {kn:List (Nat×Bool)} {ρ:Nat→Option (TV S)} {ds:List (Nat×Z1f S)} {j:Nat} {d:Z1f S} (h:KnD kn ρ ds):KnD (Z4B kn d.dst) ρ ((j,d)::ds):=fun anc =>
  ZbL (h anc) fun t v hne hv=>by
    simp only [Z3o] at hv
    cases hd:d.dst with
    | none=>rw [hd] at hv;exact hv
    | some s =>
      rw [hd] at hv
      have hm:Nat.beq s t=false:=by
        simp only [Tr.beq_dec,decide_eq_false_iff_not]
        intro e;subst e;exact hne hd
      simp only [hm,cond_false] at hv
      exact hv
theorem Z3A {α:Type} {c:Bool} {x y:α} (h:c=true):(bif c then x else y)=x:=by rw [h];rfl
theorem Zal {T:TS S} {ops:Array Oper} {ds:List (Nat×Z1f S)} {o:Oper} {k nt:Nat}
    (hc:(o.after.all (fun e => !Region.binds .any e||Nat.blt e.on k)&&(match o.dst with|none=>true|some t=>Nat.blt t nt)&&ds.all (fun d=>Nat.testBit (Z4o ops ds o k) d.1||(match o.dst with
        | none=>true
        | some t => !((ops.getD d.1 o).looksAt ops).contains t && !(match d.2.dst with|some s=>Nat.beq s t|none=>false))))=true) :
    (o.after.all (fun e => !Region.binds .any e||Nat.blt e.on k)&&(match o.dst with|none=>true|some t=>Nat.blt t nt)&&(YS T ds).all (fun d=>Nat.testBit (Z1E ops (YS T ds) o k) d.1||(match o.dst with
        | none=>true
        | some t => !((ops.getD d.1 o).looksAt ops).contains t && !(match d.2.dst with|some s=>Nat.beq s t|none=>false))))=true:=by
  refine Eq.trans ?_ hc
  rw [Z4p]
  congr 1
  have:∀ f:Nat×Yz→Bool,(YS T ds).all f=ds.all fun p=>f (p.1,dvD T p.2):=fun f=>by
    unfold YS;rw [List.all_map];rfl
  rw [this]
  rfl
section
variable {X:Yb S} (hX:XOk X) {cs:Z3x S R} (hcs:Z7N X cs)
include hX hcs
omit hX hcs in
theorem Zci {anc:Nat} {h:Nat→Option (Zi S)} (hw:∀ i,WfL X.E (h i)):∀ {ds:List (Nat×Z1f S)},Zh4 X.E ds→∀ i,WfL X.E (Z4a anc h ds i)
  | [],_,i=>hw i
  | (j,d)::ds,hd,i=>by
    simp only [Z4a]
    have ih:=Zci (anc:=anc) hw (ds:=ds) (fun p hp=>hd p (by simp [hp])) i
    cases hq:Z3g i d.out.upd with
    | none=>exact ih
    | some x =>
      simp only
      cases Nat.testBit anc j with
      | false=>trivial
      | true =>
        obtain ⟨u,h1,rfl⟩:∃ u∈d.out.upd,u.2=x:=by
          have key:∀ (us:List (Nat×Option (Zi S))),Z3g i us=some x→∃ u∈us,u.2=x:=by
            intro us
            induction us with
            | nil=>intro h;cases h
            | cons u us ihu =>
              obtain ⟨i',y⟩:=u
              intro h
              simp only [Z3g] at h
              cases hu:Z3g i us with
              | some z =>
                rw [hu] at h;cases h
                obtain ⟨v,h1,h2⟩:=ihu hu
                exact ⟨v,by simp [h1],h2⟩
              | none =>
                rw [hu] at h
                simp only at h
                cases hb:Nat.beq i' i with
                | false=>rw [hb] at h;cases h
                | true=>rw [hb] at h;cases h;exact ⟨(i',x),by simp,rfl⟩
          exact key _ hq
        exact hd (j,d) (by simp) u h1
theorem Z63 {callH callY:Z2o S R} (hH:Z2p X false callH) (hY:Z2p X true callY) {path:List Nat} {V nt:Nat} {ops:Array Oper} {b:Nat} :
    ∀ (os:List Oper) (k:Nat) (kn:List (Nat×Bool)) (m:Z2b S) (ds:List (Nat×Z1f S)) (kk:Z2b S→Option R) (r:R),Z8h X cs callH callY path V nt ops b k os kn m ds kk=some r→KnD kn (Z1m V m.base m.loc) ds→Zh4 X.E ds→WfO X.E m.objs →
      ∃ m',Evt (fun n=>Z13 X.E (evF X.E n) (evX X.E n false) (evX X.E n true) V nt ops b k os (dvM X.T m) (YS X.T ds)=some (dvM X.T m'))∧WfO X.E m'.objs∧kk m'=some r
  | [],k,kn,m,ds,kk,r,h,_,hd,hw=>by
    simp only [Z8h] at h
    exact ⟨_,Evt.of fun _=>by simp only [Z13,Z9U],Z9V hd hw,h⟩
  | o::os,k,kn,m,ds,kk,r,h,hkn,hd,hw=>by
    simp only [Z8h] at h
    obtain ⟨hc,h⟩:=Z2 h
    rw [ZaJ (hkn _)] at h
    obtain ⟨want,kn',h1,hkn1,hext,h⟩:=Zcu X.T (hkn _) h
    have hkn':KnD kn' (Z1m V m.base m.loc) ds:=fun anc t b0 b' hk hv=>by
      rcases hext t b0 hk with h2|h2
      · exact hkn anc t b0 b' h2 hv
      · have:=Z5X h2 hv;cases this;rfl
    have e1:ZX V (dvM X.T m).base (dvM X.T m).loc=dvr X.T (Z1m V m.base m.loc):=Zb5 X.T V m.base m.loc
    have e2:Z5W (Z1E ops (YS X.T ds) o k) (ZX V (dvM X.T m).base (dvM X.T m).loc) (YS X.T ds)=dvr X.T (Z3o (Z4o ops ds o k) (Z1m V m.base m.loc) ds):=by
      rw [e1,Z4p];exact funext fun t=>Zea _ _ ds t
    have e3:Z5u (Z1E ops (YS X.T ds) o k) (dvM X.T m).objs.get (YS X.T ds)=dvh X.T (Z4a (Z4o ops ds o k) m.objs.get ds):=by
      rw [Z8L,Z4p];exact Zch _ _ ds
    cases want with
    | false =>
      simp only [cond_false] at h
      obtain ⟨m',h2,h3,h4⟩:=Z63 hH hY os (k+1) _ m _ kk r h (Z8F (d:=⟨o.dst,Z4o ops ds o k,[],⟨some (.tup []),[]⟩,none⟩) hkn')
        (fun p hp=>by
          rcases List.mem_cons.1 hp with e|hp
          · subst e;intro u hu;cases hu
          · exact hd p hp) hw
      refine ⟨m',h2.mono fun n hn => ?_,h3,h4⟩
      simp only [Z13]
      refine (Z3A (Zal hc)).trans ?_
      simp only [e2,h1,Option.bind_some,cond_false]
      have e4:YS X.T ((k,⟨o.dst,Z4o ops ds o k,[],⟨some (.tup []),[]⟩,none⟩)::ds)=(k,⟨o.dst,Z1E ops (YS X.T ds) o k,[],⟨some (.tup []),[]⟩,none⟩)::YS X.T ds:=by
        rw [Z4p]
        simp [YS,dvD,Y3,dv,dvl,dvu]
      rw [e4] at hn
      exact hn
    | true =>
      simp only [cond_true] at h
      rw [ZaJ (hkn' _)] at h
      have e9:∀ (up:List (Nat×Option (Zi S))) (f:Z1f S→Bool) (g:Yz→Bool),(∀ d,g (dvD X.T d)=f d) →
          (YS X.T ds).all (fun d=>Nat.testBit (Z1E ops (YS X.T ds) o k) d.1||g d.2&&(dvu X.T up).all (fun u => !d.2.touch.contains u.1&&(Zq u.1 d.2.out.upd).isNone)) =
          ds.all (fun d=>Nat.testBit (Z4o ops ds o k) d.1||f d.2&&up.all (fun u => !d.2.touch.contains u.1&&(Z3g u.1 d.2.out.upd).isNone)):=fun up f g hfg=>by
        rw [Z4p]
        simp only [YS,List.all_map]
        congr 1
        funext d
        simp only [Function.comp,dvD,dvu,List.all_map]
        have:=hfg d.2
        simp only [dvD] at this
        rw [this]
        congr 2
        congr 1
        funext u
        simp only [Function.comp,Y3,Z7Z]
        cases Z3g u.1 d.2.out.upd<;>rfl
      rcases Zco hX hcs h with ⟨q,h2,h3,h⟩|⟨cl,tgt,h2,h3,h4,h⟩
      · obtain ⟨h5,h⟩:=Z2 h
        obtain ⟨m',h6,h7,h8⟩:=Z63 hH hY os (k+1) _ m _ kk r h (Z8F (d:=⟨o.dst,Z4o ops ds o k,Z9g (Z3o (Z4o ops ds o k) (Z1m V m.base m.loc) ds) o.op,q,none⟩) hkn')
          (fun p hp=>by
            rcases List.mem_cons.1 hp with e|hp
            · subst e;exact fun u hu=>Z9l (h3 u hu)
            · exact hd p hp) hw
        refine ⟨m',(h2.and h6).mono fun n hn => ?_,h7,h8⟩
        simp only [Z13]
        refine (Z3A (Zal hc)).trans ?_
        simp only [e2,e3,h1,Option.bind_some,cond_true]
        rw [hn.1]
        simp only [Option.bind_some]
        have h9:(Y3 X.T q).upd.all (fun u=>(YS X.T ds).all (fun d=>Nat.testBit (Z1E ops (YS X.T ds) o k) d.1 || !d.2.touch.contains u.1&&(Zq u.1 d.2.out.upd).isNone))=true:=by
          rw [←h5,Z4p]
          simp only [Y3,dvu,YS,List.all_map]
          congr 1
          funext u
          simp only [Function.comp]
          congr 1
          funext d
          simp only [Function.comp,dvD,Y3,Z7Z]
          cases Z3g u.1 d.2.out.upd<;>rfl
        rw [h9]
        simp only [cond_true]
        have e4:YS X.T ((k,⟨o.dst,Z4o ops ds o k,Z9g (Z3o (Z4o ops ds o k) (Z1m V m.base m.loc) ds) o.op,q,none⟩)::ds)=(k,⟨o.dst,Z1E ops (YS X.T ds) o k,touch (dvr X.T (Z3o (Z4o ops ds o k) (Z1m V m.base m.loc) ds)) o.op,Y3 X.T q,none⟩)::YS X.T ds:=by
          rw [Z4p,Zg5 hX.t]
          simp [YS,dvD]
        rw [←e4]
        exact hn.2
      · obtain ⟨x,Ts,nn,h5,h6,h⟩:=ZdC hX hH hY h (Zci hw hd)
        obtain ⟨h7,h⟩:=Z2 h
        obtain ⟨m',h8,h9,h10⟩:=Z63 hH hY os (k+1) _ { m with next:=nn } _ kk r h (Z8F (d:=⟨o.dst,Z4o ops ds o k,Ts,x,some (m.next,nn)⟩) hkn')
          (fun p hp=>by
            rcases List.mem_cons.1 hp with e|hp
            · subst e;exact h6
            · exact hd p hp) hw
        refine ⟨m',(h5.and h8).mono fun n hn => ?_,h9,h10⟩
        simp only [Z13]
        refine (Z3A (Zal hc)).trans ?_
        simp only [e2,e3,h1,Option.bind_some,cond_true,h3,h2,h4]
        have e5:YN (evX X.E n false) (evX X.E n true) (dvh X.T (Z4a (Z4o ops ds o k) m.objs.get ds)) (dvM X.T m).next (dv X.T tgt.1,dvl X.T tgt.2)=some (Y3 X.T x,Ts,nn):=hn.1
        rw [e5]
        simp only [Option.bind_some]
        have h11:=e9 x.upd (fun d=>d.new.isNone) (fun d=>d.new.isNone) (fun d=>rfl)
        refine (Z3A (h11.trans h7)).trans ?_
        have e4:YS X.T ((k,⟨o.dst,Z4o ops ds o k,Ts,x,some (m.next,nn)⟩)::ds)=(k,⟨o.dst,Z1E ops (YS X.T ds) o k,Ts,Y3 X.T x,some ((dvM X.T m).next,nn)⟩)::YS X.T ds:=by
          rw [Z4p]
          simp [YS,dvD,dvM]
        rw [e4] at hn
        exact hn.2
theorem Zd9 {callH callY:Z2o S R} (hH:Z2p X false callH) (hY:Z2p X true callY) {path:List Nat} {V nt:Nat} {ops:Array Oper} {draw:Bool} {s:StT S} {kk:StT S→Option R} {r:R}
    (h:ZaN X cs callH callY path V nt ops draw s kk=some r) (hw:WfO X.E s.objs) :
    ∃ s',Evt (fun n=>Z2c X.E (evF X.E n) (evX X.E n false) (evX X.E n true) V nt ops draw (ZS X.T s)=some (ZS X.T s'))∧WfO X.E s'.objs∧kk s'=some r:=by
  unfold ZaN at h
  cases draw with
  | true =>
    simp only [cond_true] at h
    obtain ⟨m',h1,h2,h3⟩:=Z63 hX hcs hH hY _ 0 [] ⟨s.base,[],s.objs,s.next+ops.size⟩ [] _ r h (fun _ _ _ _ hk _=>by cases hk) (fun _ hp=>by cases hp) hw
    rw [ZfY] at h3
    refine ⟨⟨m'.base,m'.objs,m'.next⟩,h1.mono fun n hn => ?_,h2,h3⟩
    unfold Z2c
    simp only [cond_true]
    have e:Z13 X.E (evF X.E n) (evX X.E n false) (evX X.E n true) V nt ops (ZS X.T s).next 0 ops.toList ⟨(ZS X.T s).base,[],(ZS X.T s).objs,(ZS X.T s).next+ops.size⟩ []=some (dvM X.T m'):=hn
    rw [e];rfl
  | false =>
    simp only [cond_false] at h
    obtain ⟨m',h1,h2,h3⟩:=Z7Y hX hcs hH hY _ 0 [] ⟨s.base,[],s.objs,s.next+ops.size⟩ _ r h (fun _ _ _ hk _=>by cases hk) hw
    rw [ZfY] at h3
    refine ⟨⟨m'.base,m'.objs,m'.next⟩,h1.mono fun n hn => ?_,h2,h3⟩
    unfold Z2c
    simp only [cond_false]
    have e:Z2W X.E (evF X.E n) (evX X.E n false) (evX X.E n true) V nt ops (ZS X.T s).next 0 ops.toList ⟨(ZS X.T s).base,[],(ZS X.T s).objs,(ZS X.T s).next+ops.size⟩=some (dvM X.T m'):=hn
    rw [e];rfl
end
end Go.Ab
namespace Go.Ab
variable {S:Nat→Type} {R:Type}
section
variable (T:TS S)
theorem Z8b (hT:TOk T) {cs:List (TV S)} {off:Nat} {o:Option (TV S)} (h:Zak T cs off=some o):(o=none∧(dvs T cs)[off]? = none)∨(∃ c d,o=some c∧(dvs T cs)[off]? = some d∧((ZQ c=false∧d=dv T c)∨(c = .bool false∧plain d=true))):=by
  unfold Zak at h
  obtain ⟨r,h1,h⟩:=Z0 h
  obtain ⟨h2,h3⟩:=Z1t hT h1
  have e:(dvs T cs)[off]? = (dvs T r)[0]? := by rw [←h3];simp
  cases r with
  | nil=>cases h;exact .inl ⟨rfl,by rw [e,Z7Q];rfl⟩
  | cons c r =>
    simp only at h
    cases ha:ZQ c with
    | true =>
      rw [ha] at h
      obtain ⟨h4,h⟩:=Z2 h
      cases h
      rw [Bool.and_eq_true] at h4
      obtain ⟨h40,h4⟩:=h4
      have h4:0<wd T c:=by simpa [Tr.blt_dec] using h4
      rw [←Z2P hT c] at h4
      refine .inr ⟨_,(Y2 T c)[0],rfl,?_,.inr ⟨rfl,?_⟩⟩
      · rw [e,Zv,List.getElem?_append_left h4,List.getElem?_eq_getElem h4]
      · have hp:(Y2 T c).all plain=true:=by
          cases c<;>simp only [Zhw,Bool.false_eq_true] at h40
          · exact Yl hT _ _ _
          · exact hT.plain _ _
        exact List.all_eq_true.1 hp _ (List.getElem_mem h4)
    | false =>
      rw [ha] at h
      cases h
      refine .inr ⟨c,dv T c,rfl,?_,.inl ⟨ha,rfl⟩⟩
      rw [e,Zv]
      cases c<;>simp [Y2,ZQ] at ha ⊢
theorem Zgb (hT:TOk T) {o:Tr (Zi S)} {b:Tr (TV S)} {a:Acc} {x:Option (Nat×Nat)} (h:Zga T o b a=some x):Z5A (o.mapv (dvO T)) (b.mapv (dv T)) a=x:=by
  cases a with
  | slot t e =>
    simp only [Zga] at h
    simp only [Z5A,Ya]
    cases hb:b.get t with
    | none=>rw [hb] at h;cases h;rfl
    | some v =>
      rw [hb] at h
      cases v<;>simp only [Option.some.injEq] at h<;>subst h<;>simp [dv]
  | cell t off e =>
    simp only [Zga] at h
    simp only [Z5A,Ya]
    cases hb:b.get t with
    | none=>rw [hb] at h;cases h;rfl
    | some v =>
      rw [hb] at h
      cases v with
      | ptr q p =>
        cases p with
        | zero =>
          simp only [Option.map_some,dv]
          simp only at h
          cases ho:o.get q with
          | none=>rw [ho] at h;cases h;rfl
          | some ob =>
            rw [ho] at h
            cases ob with
            | cells ct cs =>
              simp only at h
              simp only [Option.map_some,dvO]
              obtain ⟨oc,h1,h⟩:=Z0 h
              rcases Z8b T hT h1 with ⟨rfl,h2⟩|⟨c,d,rfl,h2,h3⟩
              · rw [h2];cases h;rfl
              · rw [h2]
                rcases h3 with ⟨_,rfl⟩|⟨rfl,h3⟩
                · cases c<;>simp only [Option.some.injEq] at h<;>subst h<;>simp [dv]
                · cases h
                  cases d<;>simp [plain] at h3<;>rfl
            | _=>simp only [Option.some.injEq] at h;subst h;simp [dvO]
        | succ p=>simp only [Option.some.injEq] at h;subst h;simp [dv]
      | ap=>cases h
      | _=>simp only [Option.some.injEq] at h;subst h;simp [dv]
theorem Zbb (hT:TOk T) {o:Tr (Zi S)} {b:Tr (TV S)}:∀ {as:List Acc} {L:List (Option (Nat×Nat))},Zdv T o b as=some L→as.map (Z5A (o.mapv (dvO T)) (b.mapv (dv T)))=L
  | [],L,h=>by cases h;rfl
  | a::as,L,h=>by
    simp only [Zdv] at h
    obtain ⟨x,h1,h⟩:=Z0 h
    obtain ⟨xs,h2,h⟩:=Z0 h
    cases h
    rw [List.map_cons,Zgb T hT h1,Zbb hT h2]
end
theorem Z9c:∀ (cs:List DV) (off:Nat) (v:DV),off<cs.length→Y7 cs off [v]=cs.set off v
  | [],off,v,h=>by simp at h
  | c::cs,0,v,h=>by cases cs<;>simp [Y7]
  | c::cs,n+1,v,h=>by
    simp only [Y7,List.set_cons_succ]
    rw [Z9c cs n v (by simpa using h)]
theorem Z5q:∀ (a b:List DV),YE (a++b)=YE a++YE b
  | [],b=>by simp [YE]
  | c::a,b=>by simp only [List.cons_append,YE,Z5q a b,List.append_assoc]
theorem Z4I:∀ {cs:List DV},cs.all plain=true→YE cs=[]
  | [],_=>rfl
  | c::cs,h=>by
    simp only [List.all_cons,Bool.and_eq_true] at h
    simp only [YE,Z4I h.2,List.append_nil]
    cases c<;>simp [plain,Yw] at h ⊢
theorem Z66 {pid:Nat}:∀ {l:List DV},l.all (Z4A pid)=true→YE l=[]
  | [],_=>rfl
  | d::l,h=>by
    simp only [List.all_cons,Bool.and_eq_true] at h
    rcases Z1p h.1 with rfl|⟨t,rfl⟩<;>simp [YE,Yw,Z66 h.2]
section
variable {T:TS S} (hT:TOk T)
include hT
mutual
theorem Z6t:∀ v:TV S,Yw (dv T v)=YG v
  | .rs _ _=>by simp [dv,Yw,YG]
  | .rv _ _ _ _ _=>by simp [dv,Yw,YG] | .slen _=>by simp [dv,Yw,YG]
  | .agg cs=>by simp only [dv,Yw,YG];exact Z8V cs
  | .tup cs=>by simp only [dv,Yw,YG];exact Z6u cs
  | .fn _ a c=>by simp only [dv,Yw,YG,Z6u a,Z6u c]
  | .iface _ v=>by simp only [dv,Yw,YG];exact Z6t v
  | .bool _=>rfl | .int _ _=>rfl | .str _=>rfl | .nilp=>rfl | .nils=>rfl
  | .sl0=>by simp [dv,Yw,YG] | .sl _ _=>by simp [dv,Yw,YG]
  | .arr _ _ _=>by simp [dv,Yw,YG] | .stc _ _=>by simp [dv,Yw,YG]
  | .earr _ _ _ _=>by simp only [dv,Yw,YG];exact Z66 (Yt _ _ _ _)
  | .narr _ _=>by simp only [dv,Yw,YG];exact Z66 (Z16 0 _)
  | .ptr _ _=>by simp [dv,Yw,YG] | .ap _ _ _ _ _=>by simp [dv,Yw,YG] | .rptr _ _ _ _ _=>by simp [dv,Yw,YG]
  | .pub _=>by simp [dv,Yw,YG] | .map _=>by simp [dv,Yw,YG] | .iter _=>by simp [dv,Yw,YG] | .yld _=>by simp [dv,Yw,YG]
  | .nilfn=>by simp [dv,Yw,YG] | .nilmap=>by simp [dv,Yw,YG] | .nilif=>by simp [dv,Yw,YG]
theorem Z8V:∀ cs:List (TV S),YE (dvs T cs)=Z2w cs
  | []=>by simp [dvs,YE,Z2w]
  | c::cs=>by
    rw [Zv,Z5q,Z2w,Z8V cs]
    have h:=Z6t c
    cases c<;>simp only [Y2,YE,List.append_nil]<;>first|rw [h]|skip
    · rw [Z4I (Yl hT _ _ _)];rfl
    · rw [Z4I (hT.plain _ _)];rfl
    · rw [Z66 (Yt _ _ _ _)];rfl
    · rw [Z66 (Z16 0 _)];rfl
theorem Z6u:∀ cs:List (TV S),YE (dvl T cs)=Z2w cs
  | []=>by simp [dvl,YE,Z2w]
  | c::cs=>by simp only [dvl,YE,Z2w,Z6t c,Z6u cs]
end
theorem ZfO (o:Zi S):ZfN (dvO T o)=Zd8 o:=by
  cases o<;>simp only [dvO,ZfN,Zd8]
  · exact Z8V hT _
  · rw [Z1Q,List.flatMap_map]
    congr 1
    funext p
    exact Z6t hT p.2
theorem Zfq (o:Tr (Zi S)) (b:Tr (TV S)) (n0 keep:Nat) (A:List (Option (Nat×Nat))):Zat (o.mapv (dvO T)) (b.mapv (dv T)) n0 keep A=Zau o b n0 keep A:=by
  unfold Zat Zau
  have e1:Zde (o.mapv (dvO T)).get=ZaX o.get:=by
    funext p
    unfold Zde ZaX
    rw [Ya]
    cases o.get p.1 with
    | none=>rfl
    | some x=>cases x<;>rfl
  rw [e1,Z1Q,Z1Q,List.flatMap_map,List.flatMap_map]
  congr 2
  · congr 1
    funext p
    simp only [ZfO hT]
  · congr 1
    funext p
    simp only [Z6t hT]
end
theorem ZhH {E:Env} {g:Nat→Zi S→Option (Option (Zi S))} {t t':Tr (Zi S)} (h:t.tm g 1 0=some t') (hw:WfO E t) (hg:∀ k x y,g k x=some y→WfL E (some x)→WfL E y):WfO E t':=fun i=>by
  rcases Tr.tm_get1 h i with ⟨_,h2⟩|⟨x,y,h1,h2,h3⟩
  · rw [h2];trivial
  · rw [h3];have:=hw i;rw [h1] at this;exact hg i x y h2 this
section
variable {X:Yb S} (hX:XOk X)
include hX
theorem ZfP {n0:Nat} {L:List (Option (Nat×Nat))} {x y:Zi S} (h:Z9Z n0 L x=some y):Z3v n0 L (dvO X.T x)=some (dvO X.T y):=by
  cases x with
  | cells t cs =>
    simp only [Z9Z] at h
    obtain ⟨cs',h1,h⟩:=Z0 h
    cases h
    simp only [dvO,Z3v,Z8X hX.t _ _ _ _ h1,Option.bind_some]
  | loop fid b ps as bo bid ex pa po =>
    simp only [Z9Z] at h
    obtain ⟨b',h1,h⟩:=Z0 h
    cases h
    simp only [dvO,Z3v]
    have:=Z6l (dv X.T) (fun _ d=>(Z36 n0 L d).bind fun d=>some (some d)) (fun _ d=>(ren n0 L d).bind fun d=>some (some d)) (fun k x y hxy=>by
      obtain ⟨z,h2,h3⟩:=Z0 hxy
      cases h3
      simp only [ZaP hX.t _ _ _ _ h2,Option.bind_some,Option.map_some]) b 1 0 b' h1
    rw [this];rfl
  | row=>cases h;rfl
  | map=>cases h;rfl
  | siter=>cases h;rfl
theorem Z4n {o:Tr (Zi S)} {n0:Nat}:∀ {L:List (Option (Nat×Nat))} {j:Nat} {no r:Tr (Zi S)},Z3z o n0 j L no=some r→WfO X.E no→Z1Z (o.mapv (dvO X.T)) n0 j L (no.mapv (dvO X.T))=some (r.mapv (dvO X.T))∧WfO X.E r
  | [],j,no,r,h,hw=>by cases h;exact ⟨rfl,hw⟩
  | none::L,j,no,r,h,hw=>by simp only [Z3z] at h;simp only [Z1Z];exact Z4n h hw
  | some (id,v)::L,j,no,r,h,hw=>by
    simp only [Z3z] at h
    simp only [Z1Z,Ya]
    cases ho:o.get id with
    | none=>rw [ho] at h;cases h
    | some ob =>
      rw [ho] at h
      cases ob<;>simp only [reduceCtorEq] at h
      rename_i e t es p u
      obtain ⟨h1,h⟩:=Z2 h
      obtain ⟨h2,h3⟩:=Z4n h (hw.set (x:=some (.row e t es p 0)) trivial)
      simp only [Option.map_some,dvO,h1,cond_true]
      rw [Yu] at h2
      exact ⟨h2,h3⟩
theorem Yd {n0:Nat}:∀ {as:List Acc} {j:Nat} {b:Tr (TV S)} {no:Tr (Zi S)} {r:Tr (TV S)×Tr (Zi S)},YT X n0 j as (b,no)=some r→WfO X.E no →
    Ye X.E n0 j as (b.mapv (dv X.T),no.mapv (dvO X.T))=some (r.1.mapv (dv X.T),r.2.mapv (dvO X.T))∧WfO X.E r.2
  | [],j,b,no,r,h,hw=>by cases h;exact ⟨rfl,hw⟩
  | .slot t e::as,j,b,no,r,h,hw=>by
    simp only [YT] at h
    simp only [Ye,Ya]
    cases hb:b.get t with
    | none=>rw [hb] at h;exact Yd h hw
    | some v =>
      rw [hb] at h
      cases v with
      | nils =>
        simp only at h
        obtain ⟨ei,h1,h⟩:=Z0 h
        obtain ⟨te,h2,h⟩:=Z0 h
        obtain ⟨h3,h⟩:=Z2 h
        obtain ⟨h4,h5⟩:=Yd h (hw.set (x:=some (.row e te [] 0 0)) trivial)
        simp only [Option.map_some,dv,h1,Option.bind_some]
        have h6:(Nat.blt 0 ei.size&&(Option.map (dvO X.T) (no.get (n0+j))).isNone)=true:=by
          rw [←h3];cases no.get (n0+j)<;>rfl
        rw [h6]
        simp only [cond_true]
        rw [Yu,Yu] at h4
        exact ⟨h4,h5⟩
      | _=>simp only [Option.map_some,dv];exact Yd h hw
  | .cell t off e::as,j,b,no,r,h,hw=>by
    simp only [YT] at h
    simp only [Ye,Ya]
    cases hb:b.get t with
    | none=>rw [hb] at h;exact Yd h hw
    | some v =>
      rw [hb] at h
      cases v with
      | ptr q p =>
        cases p with
        | zero =>
          simp only [Option.map_some,dv]
          simp only at h
          cases ho:no.get q with
          | none=>rw [ho] at h;exact Yd h hw
          | some ob =>
            rw [ho] at h
            cases ob with
            | cells ct cs =>
              simp only at h
              simp only [Option.map_some,dvO]
              obtain ⟨oc,hc,h⟩:=Z0 h
              have other:(∀ d,(dvs X.T cs)[off]? = some d→d ≠ .nils)→YT X n0 (j+1) as (b,no)=some r→(match (dvs X.T cs)[off]? with
                  | some .nils=>(X.E.ty e).bind fun ei=>bif Nat.blt 0 ei.size&&(Option.map (dvO X.T) (no.get (n0+j))).isNone then Ye X.E n0 (j+1) as (b.mapv (dv X.T),((no.mapv (dvO X.T)).set q (some (.cells ct ((dvs X.T cs).set off (.rs (n0+j) 0))))).set (n0+j) (some (.row e [] 0 0))) else none
                  | _=>Ye X.E n0 (j+1) as (b.mapv (dv X.T),no.mapv (dvO X.T)))=some (r.1.mapv (dv X.T),r.2.mapv (dvO X.T))∧WfO X.E r.2:=fun hn hh=>by
                obtain ⟨g1,g2⟩:=Yd hh hw
                refine ⟨?_,g2⟩
                split
                · rename_i hq;exact absurd rfl (hn _ hq)
                · exact g1
              rcases Z8b X.T hX.t hc with ⟨rfl,h2⟩|⟨c,d,rfl,h2,h3⟩
              · exact other (fun d hd=>by rw [h2] at hd;cases hd) h
              · by_cases hcn:c = .nils
                · subst hcn
                  rcases h3 with ⟨_,rfl⟩|⟨h3,_⟩
                  · simp only at h
                    obtain ⟨ei,h1,h⟩:=Z0 h
                    obtain ⟨te,h4,h⟩:=Z0 h
                    obtain ⟨cs',h5,h⟩:=Z0 h
                    obtain ⟨h6,h⟩:=Z2 h
                    obtain ⟨h7,h8⟩:=Z17 hX.t h5
                    have h9:dvs X.T cs'=(dvs X.T cs).set off (.rs (n0+j) 0):=by
                      rw [←h8,←Z9c _ _ _ (List.getElem?_eq_some_iff.1 h2).1]
                      simp [dvs,dv]
                    obtain ⟨h10,h11⟩:=Yd h ((hw.set (x:=some (.cells ct cs')) trivial).set (x:=some (.row e te [] 0 0)) trivial)
                    rw [h2]
                    simp only [dv,h1,Option.bind_some]
                    have h12:(Nat.blt 0 ei.size&&(Option.map (dvO X.T) (no.get (n0+j))).isNone)=true:=by
                      rw [←h6];cases no.get (n0+j)<;>rfl
                    rw [h12]
                    simp only [cond_true]
                    rw [Yu,Yu] at h10
                    simp only [Option.map_some,dvO,h9] at h10
                    exact ⟨h10,h11⟩
                  · cases h3
                · refine other (fun d' hd' => ?_) ?_
                  · rw [h2] at hd';cases hd'
                    rcases h3 with ⟨_,rfl⟩|⟨_,h3⟩
                    · cases c<;>simp [dv] at hcn ⊢
                    · intro e;subst e;simp [plain] at h3
                  · cases c<;>first|exact h|exact absurd rfl hcn
            | _=>simp only [Option.map_some,dvO];exact Yd h hw
        | succ p=>simp only [Option.map_some,dv];exact Yd h hw
      | ap=>cases h
      | _=>simp only [Option.map_some,dv];exact Yd h hw
theorem ZeF {hint:Z3P} {n0:Nat} {s s':StT S} (h:ZcX X hint n0 s=some s') (hw:WfO X.E s.objs):ZbU X.E hint n0 (ZS X.T s)=some (ZS X.T s')∧WfO X.E s'.objs:=by
  unfold ZcX at h
  obtain ⟨A,h1,h⟩:=Z0 h
  have hx:=Zfq hX.t s.objs s.base n0 hint.keep A
  generalize Zau s.objs s.base n0 hint.keep A=XL at h hx
  simp only at h
  generalize hLd:XL.map some++A=L at h
  obtain ⟨h2,h⟩:=Z2 h
  obtain ⟨b,h3,h⟩:=Z0 h
  obtain ⟨o,h4,h⟩:=Z0 h
  obtain ⟨o2,h5,h⟩:=Z0 h
  obtain ⟨r,h6,h⟩:=Z0 h
  cases h
  have e1:=Zbb X.T hX.t h1
  have e2:=Z6l (dv X.T) _ (fun t d=>bif Nat.testBit hint.keep t then (ren n0 L d).bind fun d=>some (some d) else some none) (fun k x y hxy=>by
    cases hk:Nat.testBit hint.keep k with
    | true =>
      rw [hk] at hxy
      obtain ⟨z,h7,h8⟩:=Z0 hxy
      cases h8
      simp only [cond_true,ZaP hX.t _ _ _ _ h7,Option.bind_some,Option.map_some]
    | false=>rw [hk] at hxy;cases hxy;rfl) s.base 1 0 b h3
  have e3:=Z6l (dvO X.T) _ (fun i x=>bif Nat.blt i n0 && !Z32 i L then (Z3v n0 L x).bind fun x=>some (some x) else some none) (fun k x y hxy=>by
    cases hk:(Nat.blt k n0 && !Z32 k L) with
    | true =>
      rw [hk] at hxy
      obtain ⟨z,h7,h8⟩:=Z0 hxy
      cases h8
      simp only [cond_true,ZfP hX h7,Option.map_some,Option.bind_some]
    | false=>rw [hk] at hxy;cases hxy;rfl) s.objs 1 0 o h4
  have w1:WfO X.E o:=ZhH h4 hw fun k x y hxy hx=>by
    cases hk:(Nat.blt k n0 && !Z32 k L) with
    | true =>
      rw [hk] at hxy
      obtain ⟨z,h7,h8⟩:=Z0 hxy
      cases h8
      cases x with
      | loop fid bb ps as bo bid ex pa po =>
        simp only [Z9Z] at h7
        obtain ⟨b',_,h9⟩:=Z0 h7
        cases h9
        exact hx
      | cells t cs =>
        simp only [Z9Z] at h7
        obtain ⟨b',_,h9⟩:=Z0 h7
        cases h9
        trivial
      | row=>cases h7;trivial
      | map=>cases h7;trivial
      | siter=>cases h7;trivial
    | false=>rw [hk] at hxy;cases hxy;trivial
  obtain ⟨e4,w2⟩:=Z4n hX h5 w1
  obtain ⟨e5,w3⟩:=Yd hX h6 w2
  refine ⟨?_,w3⟩
  unfold ZbU
  simp only [ZS]
  rw [e1,hx,hLd,h2]
  simp only [cond_true]
  rw [e2]
  simp only [Option.bind_some]
  rw [e3]
  simp only [Option.bind_some]
  rw [e4]
  simp only [Option.bind_some]
  rw [e5];rfl
omit hX in
theorem ZgA (T:TS S) (x:Zi S):dvO T (Zfy x)=Z4C (dvO T x):=by cases x<;>rfl
omit hX in
theorem Z54 {α β γ:Type} (f:α→β) (g:β→γ):∀ (t:Tr α),(t.mapv f).mapv g=t.mapv fun x=>g (f x)
  | .leaf=>rfl
  | .node l v r=>by simp only [Tr.mapv,Z54 f g l,Z54 f g r,Option.map_map];rfl
omit hX in
theorem ZgB {E:Env} {o:Tr (Zi S)} (hw:WfO E o):WfO E (o.mapv Zfy):=fun i=>by
  rw [Ya]
  have:=hw i
  cases hq:o.get i with
  | none=>trivial
  | some x=>rw [hq] at this;cases x<;>exact this
theorem ZbW {hint:Z3P} {n0:Nat} {s s':StT S} (h:ZdV X hint n0 s=some s') (hw:WfO X.E s.objs):ZbT X.E hint n0 (ZS X.T s)=some (ZS X.T s')∧WfO X.E s'.objs:=by
  unfold ZdV at h
  obtain ⟨s1,h1,h⟩:=Z0 h
  cases h
  obtain ⟨k1,k2⟩:=ZeF hX h1 hw
  unfold ZbT
  rw [k1]
  cases hint.raw with
  | true=>exact ⟨rfl,k2⟩
  | false =>
    refine ⟨?_,ZgB k2⟩
    simp only [Option.bind_some,cond_false,ZS]
    congr 2
    rw [Z54,Z54]
    congr 1
    funext x
    exact (ZgA X.T x).symm
end
end Go.Ab
namespace Go.Ab
variable {S:Nat→Type} {R:Type}
theorem Z6J {α β:Type} {f:α→β} {p:α→Bool} {q:β→Bool} (hpq:∀ x,p x=true→q (f x)=true):∀ {t:Tr α},t.allV p=true→(t.mapv f).allV q=true
  | .leaf,_=>rfl
  | .node l v r,h=>by
    simp only [Tr.allV,Bool.and_eq_true] at h
    simp only [Tr.mapv,Tr.allV,Bool.and_eq_true]
    refine ⟨Z6J hpq h.1,?_,Z6J hpq h.2.2⟩
    cases v with
    | none=>rfl
    | some x=>exact hpq x h.2.1
theorem Z8Z (f:Nat→Nat):∀ (a b:List DV),rns f (a++b)=rns f a++rns f b
  | [],b=>by simp [rns]
  | c::a,b=>by simp only [List.cons_append,rns,Z8Z f a b]
theorem Z7z (p:Nat→Bool):∀ (a b:List DV),Z1d p (a++b)=(Z1d p a&&Z1d p b)
  | [],b=>by simp [Z1d]
  | c::a,b=>by simp only [List.cons_append,Z1d,Z7z p a b,Bool.and_assoc]
theorem Z75 (f:Nat→Nat):∀ {cs:List DV},cs.all plain=true→rns f cs=cs
  | [],_=>rfl
  | c::cs,h=>by
    simp only [List.all_cons,Bool.and_eq_true] at h
    simp only [rns,Z75 f h.2]
    cases c<;>simp [plain] at h<;>simp [rn]
theorem Z74 (p:Nat→Bool):∀ {cs:List DV},cs.all plain=true→Z1d p cs=true
  | [],_=>rfl
  | c::cs,h=>by
    simp only [List.all_cons,Bool.and_eq_true] at h
    simp only [Z1d,Z74 p h.2,Bool.and_true]
    cases c<;>simp [plain] at h<;>simp [okD]
theorem Zfk (f:Nat→Nat) (pid:Nat):∀ (ts:List TypeId) (m:Nat),rn f (enD pid ts m)=enD (f pid) ts m
  | ts,0=>by cases ts<;>simp [enD,rn]
  | [],m+1=>by simp [enD,rn]
  | t::ts,1=>by simp [enD,rn,rns]
  | t::ts,m+2=>by simp only [enD];exact Zfk f pid ts (m+1)
theorem Zfj (f:Nat→Nat) (ts:List TypeId) (pid n:Nat) (a:Nat→Nat):rns f (eal ts pid n a)=eal ts (f pid) n a:=by
  unfold eal
  generalize List.range n=l
  induction l with
  | nil=>rfl
  | cons x l ih=>simp only [List.map_cons,rns,ih,Zfk]
theorem ZcW (f:Nat→Nat):∀ n:Nat,rns f (List.replicate n .nilif)=List.replicate n .nilif
  | 0=>rfl
  | n+1=>by simp only [List.replicate_succ,rns,ZcW f n,rn]
theorem ZgZ {p:Nat→Bool} {pid:Nat} (hp:p pid=true):∀ {cs:List DV},cs.all (Z4A pid)=true→Z1d p cs=true
  | [],_=>rfl
  | c::cs,h=>by
    simp only [List.all_cons,Bool.and_eq_true] at h
    simp only [Z1d,ZgZ hp h.2,Bool.and_true]
    rcases Z1p h.1 with e|⟨t,e⟩<;>subst e<;>simp [okD,Z1d,hp]
theorem ZfG (p:Nat→Bool):∀ n:Nat,Z1d p (List.replicate n .nilif)=true
  | 0=>rfl
  | n+1=>by simp only [List.replicate_succ,Z1d,ZfG p n,okD,Bool.and_self]
section
variable {T:TS S} (hT:TOk T)
include hT
mutual
theorem Za1 (f:Nat→Nat):∀ v:TV S,rn f (dv T v)=dv T (rnT f v)
  | .bool _=>by simp [dv,rn,rnT] | .int _ _=>by simp [dv,rn,rnT] | .str _=>by simp [dv,rn,rnT] | .nilp=>by simp [dv,rn,rnT] | .nils=>by simp [dv,rn,rnT]
  | .sl0=>by simp [dv,rn,rnT] | .sl _ _=>by simp [dv,rn,rnT]
  | .arr _ _ _=>by simp [dv,rn,rnT]
  | .stc _ _=>by simp [dv,rn,rnT]
  | .narr _ n=>by simp only [dv,rn,rnT,ZcW]
  | .earr ts pid n a=>by simp only [dv,rn,rnT,Zfj]
  | .ptr _ _=>by simp [dv,rn,rnT] | .ap _ _ _ _ _=>by simp [dv,rn,rnT] | .rptr _ _ _ _ _=>by simp [dv,rn,rnT]
  | .pub _=>by simp [dv,rn,rnT]
  | .rv _ _ _ _ _=>by simp [dv,rn,rnT] | .slen _=>by simp [dv,rn,rnT]
  | .rs _ _=>by simp [dv,rn,rnT] | .map _=>by simp [dv,rn,rnT] | .iter _=>by simp [dv,rn,rnT] | .yld _=>by simp [dv,rn,rnT]
  | .nilfn=>by simp [dv,rn,rnT] | .nilmap=>by simp [dv,rn,rnT] | .nilif=>by simp [dv,rn,rnT]
  | .agg cs=>by simp only [dv,rn,rnT,ZaW f cs]
  | .tup cs=>by simp only [dv,rn,rnT,Z6z f cs]
  | .fn _ a c=>by simp only [dv,rn,rnT,Z6z f a,Z6z f c]
  | .iface _ v=>by simp only [dv,rn,rnT,Za1 f v]
theorem ZaW (f:Nat→Nat):∀ cs:List (TV S),rns f (dvs T cs)=dvs T (Z6y f cs)
  | []=>by simp [dvs,rns,Z6y]
  | c::cs=>by
    rw [Zv,Z8Z,Z6y,Zv,ZaW f cs]
    have h:=Za1 f c
    congr 1
    cases c<;>simp only [Y2,rnT,rns]<;>first|(rw [h];simp only [rnT];done)|skip
    · exact Z75 f (Yl hT _ _ _)
    · exact Z75 f (hT.plain _ _)
    · exact Zfj f _ _ _ _
    · exact ZcW f _
theorem Z6z (f:Nat→Nat):∀ cs:List (TV S),rns f (dvl T cs)=dvl T (Z6y f cs)
  | []=>by simp [dvl,rns,Z6y]
  | c::cs=>by simp only [dvl,rns,Z6y,Za1 f c,Z6z f cs]
end
mutual
theorem Z8M (p:Nat→Bool):∀ v:TV S,ZaF p v=true→okD p (dv T v)=true
  | .bool _,_=>by simp [dv,okD] | .int _ _,_=>by simp [dv,okD] | .str _,_=>by simp [dv,okD] | .nilp,_=>by simp [dv,okD] | .nils,_=>by simp [dv,okD]
  | .sl0,_=>by simp [dv,okD] | .sl _ _,_=>by simp [dv,okD]
  | .arr _ _ _,_=>by simp [dv,okD]
  | .stc _ _,_=>by simp [dv,okD]
  | .narr _ _,_=>by simp only [dv,okD];exact ZfG p _
  | .earr _ _ _ _,h=>by simp only [dv,okD];exact ZgZ h (Yt _ _ _ _)
  | .ptr _ _,h=>h | .ap _ _ _ _ _,h=>h | .rptr _ _ _ _ _,h=>h
  | .rv _ _ _ _ _,h=>h | .slen _,_=>by simp [dv,okD]
  | .rs _ _,h=>h | .map _,h=>h | .iter _,h=>h | .yld _,h=>h
  | .nilfn,_=>by simp [dv,okD] | .nilmap,_=>by simp [dv,okD] | .nilif,_=>by simp [dv,okD]
  | .pub cs,_=>by simp only [dv,okD]
  | .agg cs,h=>by simp only [dv,okD,ZaF] at h ⊢;exact Z8N p cs h
  | .tup cs,h=>by simp only [dv,okD,ZaF] at h ⊢;exact Z4F p cs h
  | .fn _ a c,h=>by
    simp only [dv,okD,ZaF,Bool.and_eq_true] at h ⊢
    exact ⟨Z4F p a h.1,Z4F p c h.2⟩
  | .iface _ v,h=>by simp only [dv,okD,ZaF] at h ⊢;exact Z8M p v h
theorem Z8N (p:Nat→Bool):∀ cs:List (TV S),Z4E p cs=true→Z1d p (dvs T cs)=true
  | [],_=>by simp [dvs,Z1d]
  | c::cs,h=>by
    simp only [Z4E,Bool.and_eq_true] at h
    rw [Zv,Z7z,Z8N p cs h.2,Bool.and_true]
    have hc:=Z8M p c h.1
    cases c<;>simp only [Y2,Z1d,Bool.and_true]<;>first|exact hc|skip
    · exact Z74 p (Yl hT _ _ _)
    · exact Z74 p (hT.plain _ _)
theorem Z4F (p:Nat→Bool):∀ cs:List (TV S),Z4E p cs=true→Z1d p (dvl T cs)=true
  | [],_=>by simp [dvl,Z1d]
  | c::cs,h=>by
    simp only [Z4E,Bool.and_eq_true] at h
    simp only [dvl,Z1d,Z8M p c h.1,Z4F p cs h.2,Bool.and_self]
end
omit hT in
theorem Z3Z {α β γ:Type} (f:α→β) (g:β→γ):∀ t:Tr α,(t.mapv f).mapv g=t.mapv fun x=>g (f x)
  | .leaf=>rfl
  | .node l v r=>by
    simp only [Tr.mapv,Z3Z f g l,Z3Z f g r]
    cases v<;>rfl
theorem ZfV (f:Nat→Nat) (o:Zi S):rnO f (dvO T o)=dvO T (Zdd f o):=by
  cases o<;>simp only [dvO,rnO,Zdd]
  · rw [ZaW hT]
  · rw [Z3Z,Z3Z]
    congr 1
    congr 1
    funext d
    exact Za1 hT f d
theorem Zhe {p:Nat→Bool}:∀ {o:Zi S},ZhC p o=true→okO p (dvO T o)=true
  | .cells _ cs,h=>Z8N hT p cs h
  | .row _ _ _ _ _,_=>rfl
  | .map _ _ _,_=>rfl
  | .siter _ _,_=>rfl
  | .loop _ b _ _ _ _ _ _ _,h=>Z6J (fun d hd=>Z8M hT p d hd) h
theorem Zd0 {p:Nat→Bool} {h:Nat→Option (Zi S)}:∀ {is:List Nat},ZfI p h is=true→okH p (dvh T h) is=true
  | [],_=>rfl
  | i::is,hb=>by
    simp only [ZfI,Bool.and_eq_true] at hb
    simp only [okH,Bool.and_eq_true]
    refine ⟨?_,Zd0 hb.2⟩
    simp only [dvh]
    cases hi:h i with
    | none=>rfl
    | some o =>
      rw [hi] at hb
      exact Zhe hT hb.1
theorem ZaV (f:Nat→Nat) (h:Nat→Option (Zi S)):∀ (is:List Nat),Z39 f (dvh T h) is=(Z5r f h is).mapv (dvO T)
  | []=>rfl
  | i::is=>by
    simp only [Z39,Z5r,ZaV f h is,Yu,dvh]
    congr 1
    cases h i with
    | none=>rfl
    | some o=>simp only [Option.map_some,ZfV hT]
theorem Zc9 (f:Nat→Nat) (h:Nat→Option (Zi S)):∀ (is:List Nat),Z3K f (dvh T h) is=dvu T (Z79 f h is)
  | []=>rfl
  | i::is=>by
    simp only [Z3K,Z79,Zc9 f h is,dvu,List.map_cons,dvh]
    congr 2
    cases h i with
    | none=>rfl
    | some o=>simp only [Option.map_some,ZfV hT]
theorem Zfp {k:Nat} {v:TV S} {o:Tr (Zi S)} {n:Nat} {kk:TV S→Tr (Zi S)→Nat→Option R} {r:R} (h:ZdF k v o kk=some r) :
    ∃ v' o' n',Z7s k (dv T v,o.mapv (dvO T),n)=some (dv T v',o'.mapv (dvO T),n')∧(∀ i y,o'.get i=some y→∃ j x,o.get j=some x∧y=Zdd (Z2d k (geN k (Z1V o.get 4096 (Z1L v++upN 0 k) []))) x)∧kk v' o' n'=some r:=by
  unfold ZdF at h
  rw [Z96] at h
  obtain ⟨hb,h⟩:=Z2 h
  rw [Za3,Z3b (fun v k=>Z97 v k),Z3a] at h
  refine ⟨_,_,_,?_,fun i y hy => ?_,h⟩
  · simp only [Bool.and_eq_true] at hb
    have e0:(o.mapv (dvO T)).get=dvh T o.get:=funext fun i=>Ya _ _ _
    unfold Z7s
    simp only [e0,ZaS hT,Z35 hT,hb.1,Bool.true_and]
    rw [Z8M hT _ v hb.2.1,Zd0 hT hb.2.2]
    simp only [Bool.and_self,cond_true,Za1 hT,ZaV hT]
  · have:∀ (f:Nat→Nat) (is:List Nat),(Z5r f o.get is).get i=some y→∃ j x,o.get j=some x∧y=Zdd f x:=fun f is=>by
      induction is with
      | nil=>intro h;cases h
      | cons j is ih =>
        intro h
        simp only [Z5r,Tr.get_set] at h
        by_cases e:i=f j
        · rw [if_pos e] at h
          cases hj:o.get j with
          | none=>rw [hj] at h;cases h
          | some x=>rw [hj] at h;cases h;exact ⟨j,x,hj,rfl⟩
        · rw [if_neg e] at h;exact ih h
    exact this _ _ hy
end
theorem Zdt {E:Env} {f:Nat→Nat} {x:Zi S} (h:WfL E (some x)):WfL E (some (Zdd f x)):=by
  cases x<;>first|exact h|trivial
theorem Zcw {E:Env} {f:Nat→Nat} {h:Nat→Option (Zi S)} (hw:∀ i,WfL E (h i)):∀ (is:List Nat),WfO E (Z5r f h is)
  | []=>fun i=>trivial
  | i::is=>by
    simp only [Z5r]
    refine (Zcw hw is).set ?_
    have:=hw i
    cases hi:h i with
    | none=>trivial
    | some x=>rw [hi] at this;exact Zdt this
theorem Zcx {E:Env} {f:Nat→Nat} {h:Nat→Option (Zi S)} (hw:∀ i,WfL E (h i)):∀ (is:List Nat),∀ p∈Z79 f h is,WfL E p.2
  | [],p,hp=>by cases hp
  | i::is,p,hp=>by
    simp only [Z79] at hp
    rcases List.mem_cons.1 hp with e|e
    · subst e
      have:=hw i
      cases hi:h i with
      | none=>trivial
      | some x=>rw [hi] at this;exact Zdt this
    · exact Zcx hw is p e
end Go.Ab
