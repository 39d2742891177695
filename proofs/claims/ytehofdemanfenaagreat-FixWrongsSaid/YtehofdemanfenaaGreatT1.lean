/- The same on typed values. -/
import Derived.Test.YtehofdemanfenaaGreatA1
import Derived.Test.YtehofdemanfenaaGreatA2
set_option linter.unusedSectionVars false
set_option linter.unusedVariables false
set_option linter.unusedSimpArgs false
namespace Go.Ab
inductive Ty where
  | bool
  | int (k:IntKind)
  | str
  | sl (t:Ty)
  | arr (n:Nat) (t:Ty)
  | st (i:Nat)
  deriving DecidableEq,Inhabited
def Val (S:Nat→Type):Ty→Type
  | .bool=>Bool
  | .int _=>Int
  | .str=>ByteArray
  | .sl t=>List (Val S t)
  | .arr _ t=>Nat→Val S t
  | .st i=>S i
inductive TV (S:Nat→Type) where
  | bool (b:Bool)
  | int (k:IntKind) (n:Int)
  | str (s:ByteArray)
  | nilp
  | ptr (id off:Nat)
  | ap (id base i esz off:Nat)
  | rptr (id ver i esz off:Nat)
  | pub (cs:List (TV S))
  | nils
  | sl0
  | sl (t:Ty) (xs:List (Val S t))
  | rs (id ver:Nat)
  | arr (t:Ty) (n:Nat) (a:Nat→Val S t)
  | stc (i:Nat) (x:S i)
  | earr (ts:List TypeId) (pid n:Nat) (a:Nat→Nat)
  | narr (ts:List TypeId) (n:Nat)
  | agg (cs:List (TV S))
  | tup (vs:List (TV S))
  | fn (f:Fn) (first caps:List (TV S))
  | nilfn
  | map (id:Nat)
  | nilmap
  | iface (t:TypeId) (v:TV S)
  | nilif
  | iter (id:Nat)
  | yld (id:Nat)
inductive Zi (S:Nat→Type) where
  | cells (t:TypeId) (cs:List (TV S))
  | row (e:TypeId) (t:Ty) (xs:List (Val S t)) (pubd ver:Nat)
  | map (kt et:Ty) (m:List (Val S kt×Val S et))
  | siter (s:ByteArray) (pos:Nat)
  | loop (fid:Nat) (base:Tr (TV S)) (params:List Nat) (assign body:Code) (bid:Nat) (done:Ex) (path at_:List Nat)
structure TS (S:Nat→Type) where
  size:Nat→Nat
  cells:∀ i,S i→List (TV S)
  dcells:∀ i,S i→List DV
  rd:∀ i,List (TV S)→Option (S i×List (TV S))
  dflt:∀ i,S i
  seq:∀ i,Option (S i→S i→Bool)
section
variable {S:Nat→Type}
def tsz (T:TS S):Ty→Nat
  | .arr n t=>n*tsz T t
  | .st i=>T.size i
  | _=>1
def tdf (T:TS S):(t:Ty)→Val S t
  | .bool=>false
  | .int _=>(0:Int)
  | .str=>ByteArray.empty
  | .sl _=>[]
  | .arr _ t=>fun _=>tdf T t
  | .st i=>T.dflt i
def YM:Ty→Bool
  | .arr _ _ | .st _=>true
  | _=>false
def tcl (T:TS S):(t:Ty)→Val S t→List (TV S)
  | .bool,b=>[.bool b]
  | .int k,n=>[.int k n]
  | .str,s=>[.str s]
  | .sl t,xs=>[.sl t xs]
  | .arr n t,a=>[.arr t n a]
  | .st i,x=>[.stc i x]
def dcl (T:TS S):(t:Ty)→Val S t→List DV
  | .bool,b=>[.bool b]
  | .int k,n=>[.int k n]
  | .str,s=>[.str s]
  | .sl t,xs=>[.sl (xs.map (dcl T t))]
  | .arr n t,a=>(List.range n).flatMap fun j=>dcl T t (a j)
  | .st i,x=>T.dcells i x
def acl (T:TS S) (t:Ty) (n:Nat) (a:Nat→Val S t):List DV:=(List.range n).flatMap fun j=>dcl T t (a j)
def Z74 (T:TS S):(t:Ty)→Val S t→TV S
  | .bool,b => .bool b
  | .int k,n => .int k n
  | .str,s => .str s
  | .sl t,xs => .sl t xs
  | .arr n t,a => .agg [.arr t n a]
  | .st i,x => .agg [.stc i x]
def YC (T:TS S):(t:Ty)→Val S t→DV
  | .bool,b => .bool b
  | .int k,n => .int k n
  | .str,s => .str s
  | .sl t,xs => .sl (xs.map (dcl T t))
  | .arr n t,a => .agg (acl T t n a)
  | .st i,x => .agg (T.dcells i x)
def enD (pid:Nat):List TypeId→Nat→DV
  | _,0 => .nilif
  | [],_+1 => .nilif
  | t::_,1 => .iface t (.agg [.ptr pid 0])
  | _::ts,m+2=>enD pid ts (m+1)
def eal (ts:List TypeId) (pid n:Nat) (a:Nat→Nat):List DV:=(List.range n).map fun j=>enD pid ts (a j)
mutual
def dv (T:TS S):TV S→DV
  | .bool b => .bool b
  | .int k n => .int k n
  | .str s => .str s
  | .nilp => .nilp
  | .ptr id off => .ptr id off
  | .ap id base i esz off => .ptr id (base+i*esz+off)
  | .rptr id v i esz off => .rptr id v i esz off
  | .pub cs => .pub (dvs T cs)
  | .nils => .nils
  | .sl0 => .sl []
  | .sl t xs => .sl (xs.map (dcl T t))
  | .rs id v => .rs id v
  | .arr _ _ _ => .nilp
  | .stc _ _ => .nilp
  | .earr ts pid n a => .agg (eal ts pid n a)
  | .narr _ n => .agg (List.replicate n .nilif)
  | .agg cs => .agg (dvs T cs)
  | .tup vs => .tup (dvl T vs)
  | .fn f a c => .fn f (dvl T a) (dvl T c)
  | .nilfn => .nilfn
  | .map id => .map id
  | .nilmap => .nilmap
  | .iface t v => .iface t (dv T v)
  | .nilif => .nilif
  | .iter id => .iter id
  | .yld id => .yld id
def dvs (T:TS S):List (TV S)→List DV
  | []=>[]
  | .arr t n a::cs=>acl T t n a++dvs T cs
  | .stc i x::cs=>T.dcells i x++dvs T cs
  | .earr ts pid n a::cs=>eal ts pid n a++dvs T cs
  | .narr _ n::cs=>List.replicate n .nilif++dvs T cs
  | c::cs=>dv T c::dvs T cs
def dvl (T:TS S):List (TV S)→List DV
  | []=>[]
  | c::cs=>dv T c::dvl T cs
end
def Zgx (t:Ty):TV S→Option (List (Val S t))
  | .sl0=>some []
  | .sl t' xs=>if h:t'=t then some (h ▸ xs) else none
  | _=>none
def Z5I:List (TV S)→Option (Bool×List (TV S))
  | .bool b::r=>some (b,r)
  | _=>none
def YU (k:IntKind):List (TV S)→Option (Int×List (TV S))
  | .int k' n::r=>bif k==k' then some (n,r) else none
  | _=>none
def Z6i:List (TV S)→Option (ByteArray×List (TV S))
  | .str s::r=>some (s,r)
  | _=>none
def Z7y (t:Ty):List (TV S)→Option (List (Val S t)×List (TV S))
  | c::r=>(Zgx t c).bind fun xs=>some (xs,r)
  | _=>none
def ZbG (n:Nat) (t:Ty):List (TV S)→Option ((Nat→Val S t)×List (TV S))
  | .arr t' n' a::r=>if h:t'=t then (bif Nat.beq n' n then some (h ▸ a,r) else none) else none
  | _=>none
def rdW (i:Nat) (f:List (TV S)→Option (S i×List (TV S))):List (TV S)→Option (S i×List (TV S))
  | .stc i' x::r=>if h:i'=i then some (h ▸ x,r) else none
  | cs=>f cs
def Z1f (T:TS S) (i:Nat):Nat→List (TV S)→List (TV S)
  | n+1,.stc i' x::r=>bif Nat.beq i' i then .stc i' x::r else Z1f T i n (T.cells i' x++r)
  | _,cs=>cs
def trd (T:TS S):(t:Ty)→List (TV S)→Option (Val S t×List (TV S))
  | .bool=>Z5I
  | .int k=>YU k
  | .str=>Z6i
  | .sl t=>Z7y t
  | .arr n t=>ZbG n t
  | .st i=>fun cs=>rdW i (T.rd i) (Z1f T i 6 cs)
def Z6w (T:TS S) (t:Ty) (cs:List (TV S)):Option (Val S t):=(trd T t cs).bind fun x=>match x.2 with
  | []=>some x.1
  | _=>none
def Y4:TV S→List (TV S)
  | .agg cs=>cs
  | .arr _ _ _=>[.nilp]
  | .stc _ _=>[.nilp]
  | v=>[v]
def Z7H:TV S→Bool
  | .agg _ | .tup _=>false
  | _=>true
def ZP:TV S→Bool
  | .arr _ _ _=>true
  | .stc _ _=>true
  | .earr _ _ _ _=>true
  | .narr _ _=>true
  | _=>false
def Z5n (T:TS S) (t:Ty) (v:TV S):Option (Val S t):=match v with
  | .agg cs=>bif YM t then Z6w T t cs else none
  | v=>bif YM t then none else Z6w T t [v]
def wd (T:TS S):TV S→Nat
  | .arr t n _=>n*tsz T t
  | .stc i _=>T.size i
  | .earr _ _ n _=>n
  | .narr _ n=>n
  | _=>1
def wds (T:TS S):List (TV S)→Nat
  | []=>0
  | c::cs=>wd T c+wds T cs
def Z9o (T:TS S):Nat→List (TV S)→Nat→Option (List (TV S))
  | 0,_,_=>none
  | _+1,[],n=>bif Nat.beq n 0 then some [] else none
  | f+1,c::cs,n=>bif Nat.beq n 0 then some (c::cs) else bif Nat.ble (wd T c) n then Z9o T f cs (n-wd T c) else match c with
    | .stc i x=>Z9o T f (T.cells i x++cs) n
    | _=>none
def Z83 (T:TS S) (cs:List (TV S)) (n:Nat):Option (List (TV S)):=Z9o T 400 cs n
def Z9R (T:TS S):Nat→List (TV S)→Nat→Option (List (TV S))
  | 0,_,_=>none
  | _+1,[],n=>bif Nat.beq n 0 then some [] else none
  | f+1,c::cs,n=>bif Nat.beq n 0 then some [] else bif Nat.ble (wd T c) n then (Z9R T f cs (n-wd T c)).bind fun r=>some (c::r) else match c with
    | .stc i x=>Z9R T f (T.cells i x++cs) n
    | _=>none
def Zfw (T:TS S) (cs:List (TV S)) (n:Nat):Option (List (TV S)):=Z9R T 400 cs n
def hdF (T:TS S):Nat→List (TV S)→List (TV S)
  | n+1,.stc i x::r=>hdF T n (T.cells i x++r)
  | _,cs=>cs
def xpF (T:TS S):Nat→List (TV S)→List (TV S)
  | n+1,.stc i x::r=>xpF T n (T.cells i x++r)
  | n+1,c::r=>c::xpF T n r
  | _,cs=>cs
def Z2E (T:TS S) (cs:List (TV S)) (off:Nat) (vs:List (TV S)):Option (List (TV S)) :=
  (Zfw T cs off).bind fun a=>(Z83 T cs (off+wds T vs)).bind fun b=>some (a++vs++b)
def Z8y (T:TS S) (ti:TI) (cs:List (TV S)) (off:Nat):Option (TV S) :=
  (Z83 T cs off).bind fun r=>bif ti.isAgg then (Zfw T r ti.size).bind fun p=>some (.agg p) else match hdF T 10 r with
    | c::_=>bif ZP c then none else some c
    | []=>none
structure Y9 (S:Nat→Type) where
  E:Env
  T:TS S
  code:Nat→Option Ty
  zero:Nat→Option (List (TV S))
def Z9B (X:Y9 S) (t:TypeId) (cs:List (TV S)):List (TV S):=match X.code t with
  | some c=>(match Z6w X.T c cs with
    | some x=>tcl X.T c x
    | none=>cs)
  | none=>cs
def Z8G (nid:Nat):List (TV S)→List (TV S)
  | []=>[]
  | .narr ts n::cs => .earr ts nid n (fun _=>0)::Z8G nid cs
  | c::cs=>c::Z8G nid cs
structure Z9Z (S:Nat→Type) where
  val:Option (TV S)
  upd:List (Nat×Option (Zi S))
def ZcC:Value→Option (TV S)
  | .bool b=>some (.bool b)
  | .int k n=>some (.int k n)
  | .string s=>some (.str s)
  | .pointer none=>some .nilp
  | .slice none 0 0=>some .nils
  | .map none=>some .nilmap
  | .nilFunc=>some .nilfn
  | .nilIface=>some .nilif
  | _=>none
def ZM (ρ:Nat→Option (TV S)):Operand→Option (TV S)
  | .tmp t=>ρ t
  | .const v=>ZcC v
  | .func f=>some (.fn (.func f) [] [])
  | .global _=>none
def Z2r (ρ:Nat→Option (TV S)):List Operand→Option (List (TV S))
  | []=>some []
  | x::xs=>(ZM ρ x).bind fun v=>(Z2r ρ xs).bind fun vs=>some (v::vs)
mutual
def Zs:TV S→Bool
  | .bool _ | .int _ _ | .str _ | .nilp | .nils | .sl0 | .sl _ _ | .nilfn | .nilmap | .nilif=>true
  | .arr _ _ _ | .stc _ _=>true
  | .earr ts i n a=>Za (eal ts i n a)
  | .narr _ _=>true
  | .agg cs=>Yw cs
  | .tup cs=>Yw cs
  | .fn _ a b=>Yw a&&Yw b
  | .iface _ v=>Zs v
  | _=>false
def Yw:List (TV S)→Bool
  | []=>true
  | c::cs=>Zs c&&Yw cs
end
mutual
def Z99 (n:Nat):TV S→Bool
  | .ptr i _ | .ap i _ _ _ _ | .rptr i _ _ _ _ | .rs i _ | .map i | .iter i | .yld i=>Nat.blt i n
  | .agg cs=>Z58 n cs
  | .tup cs=>Z58 n cs
  | .fn _ a b=>Z58 n a&&Z58 n b
  | .iface _ v=>Z99 n v
  | .pub cs=>Z58 n cs
  | .earr _ i _ _=>Nat.blt i n
  | _=>true
def Z58 (n:Nat):List (TV S)→Bool
  | []=>true
  | c::cs=>Z99 n c&&Z58 n cs
end
mutual
def YD (h:Nat→Option (Zi S)):TV S→Option (TV S)
  | .rs id v=>(h id).bind fun | .row _ t xs _ u=>bif Nat.beq u v then some (.sl t xs) else none|_=>none
  | .agg cs=>(Z1E h cs).bind fun cs=>some (.agg cs)
  | .tup cs=>(Z1E h cs).bind fun cs=>some (.tup cs)
  | .iface t v=>(YD h v).bind fun v=>some (.iface t v)
  | .nils=>some .sl0
  | d=>bif Zs d then some d else none
def Z1E (h:Nat→Option (Zi S)):List (TV S)→Option (List (TV S))
  | []=>some []
  | c::cs=>(YD h c).bind fun c=>(Z1E h cs).bind fun cs=>some (c::cs)
end
mutual
def Y3:TV S→List Nat
  | .rs id _=>[id]
  | .agg cs=>Yi cs
  | .tup cs=>Yi cs
  | .iface _ v=>Y3 v
  | _=>[]
def Yi:List (TV S)→List Nat
  | []=>[]
  | c::cs=>Y3 c++Yi cs
end
def Z5l (h:Nat→Option (Zi S)):List Nat→List (Nat×Option (Zi S))
  | []=>[]
  | i::is=>(match h i with|some (.row e t xs p u)=>bif Nat.beq p 1 then [] else [(i,some (.row e t xs 1 u))]|_=>[])++Z5l h is
def Zf0:Zi S→Zi S
  | .row e t xs _ u => .row e t xs 1 u
  | o=>o
mutual
def Z2p:TV S→List Nat
  | .ptr i _ | .ap i _ _ _ _ | .rptr i _ _ _ _ | .rs i _ | .map i | .iter i | .yld i=>[i]
  | .agg cs=>Z4r cs
  | .tup cs=>Z4r cs
  | .fn _ a b=>Z4r a++Z4r b
  | .iface _ v=>Z2p v
  | .earr ts i n a=>ZC (eal ts i n a)
  | _=>[]
def Z4r:List (TV S)→List Nat
  | []=>[]
  | c::cs=>Z2p c++Z4r cs
end
section ops
variable {R:Type}
abbrev Z2w (S:Nat→Type) (R:Type):=Z9Z S→Option R
def ZL (v:TV S) (k:Z2w S R):Option R:=k ⟨some v,[]⟩
def Z3r:(t:Ty)→Option (Val S t→Val S t→Bool)
  | .bool=>some fun (a b:Bool)=>a==b
  | .int _=>some fun (a b:Int)=>a==b
  | .str=>some fun (a b:ByteArray)=>a==b
  | _=>none
def Z8n (T:TS S):(t:Ty)→Option (Val S t→Val S t→Bool)
  | .st i=>T.seq i
  | t=>Z3r t
def Z10:List (TV S)→List (TV S)→Option Bool
  | [],[]=>some true
  | .int k a::xs,.int k' b::ys=>bif k==k' then (Z10 xs ys).bind fun r=>some (a==b&&r) else none
  | .bool a::xs,.bool b::ys=>(Z10 xs ys).bind fun r=>some (a==b&&r)
  | .str a::xs,.str b::ys=>(Z10 xs ys).bind fun r=>some (a==b&&r)
  | .arr t n a::xs,.arr t' n' b::ys=>if h:t'=t then (bif Nat.beq n' n then (Z3r t).bind fun e=>(Z10 xs ys).bind fun r=>some (((List.range n).all fun j=>e (a j) ((h ▸ b:Nat→Val S t) j))&&r) else none) else none
  | _,_=>none
def Z2T:List (TV S)→List (TV S)→Bool
  | [],[]=>true
  | .int k _::zs,.int k' _::xs=>k==k'&&Z2T zs xs
  | .bool _::zs,.bool _::xs=>Z2T zs xs
  | .str _::zs,.str _::xs=>Z2T zs xs
  | .arr t n _::zs,.arr t' n' _::xs=>decide (t'=t)&&Nat.beq n' n&&(Z3r (S:=S) t).isSome&&Z2T zs xs
  | _,_=>false
def Zgy (X:Y9 S) (op:BinOp) (t:TypeId) (x y:TV S) (k:Z2w S R):Option R :=
  match x,y with
  | .int kd a,.int kd' b =>
    match op with
    | .shl=>bif decide (b<0) then none else ZL (.int kd (kd.wrap (a*2 ^ (min b.toNat kd.bits)))) k
    | .shr=>bif decide (b<0) then none else ZL (.int kd (a.fdiv (2 ^ (min b.toNat kd.bits)))) k
    | .quo=>bif kd==kd' then (bif b==0 then none else ZL (.int kd (kd.wrap (a.tdiv b))) k) else none
    | .rem=>bif kd==kd' then (bif b==0 then none else ZL (.int kd (a.tmod b)) k) else none
    | .add=>bif kd==kd' then ZL (.int kd (kd.wrap (a+b))) k else none
    | .sub=>bif kd==kd' then ZL (.int kd (kd.wrap (a-b))) k else none
    | .mul=>bif kd==kd' then ZL (.int kd (kd.wrap (a*b))) k else none
    | .and=>bif kd==kd' then ZL (.int kd (kd.wrap (BitVec.ofInt kd.bits a &&& BitVec.ofInt kd.bits b).toNat)) k else none
    | .or=>bif kd==kd' then ZL (.int kd (kd.wrap (BitVec.ofInt kd.bits a ||| BitVec.ofInt kd.bits b).toNat)) k else none
    | .xor=>bif kd==kd' then ZL (.int kd (kd.wrap (BitVec.ofInt kd.bits a ^^^ BitVec.ofInt kd.bits b).toNat)) k else none
    | .eql=>bif kd==kd' then ZL (.bool (a==b)) k else none
    | .neq=>bif kd==kd' then ZL (.bool (a != b)) k else none
    | .lss=>bif kd==kd' then ZL (.bool (decide (a<b))) k else none
    | .leq=>bif kd==kd' then ZL (.bool (decide (a≤b))) k else none
    | .gtr=>bif kd==kd' then ZL (.bool (decide (a>b))) k else none
    | .geq=>bif kd==kd' then ZL (.bool (decide (a≥b))) k else none
    | _=>none
  | .str a,.str b =>
    match op with
    | .add=>bif Nat.ble (a.size+b.size) 1099511627776 then ZL (.str (a++b)) k else none
    | .eql=>ZL (.bool (a.toList==b.toList)) k
    | .neq=>ZL (.bool (!(a.toList==b.toList))) k
    | .lss=>ZL (.bool (Op.bytesLess a.toList b.toList)) k
    | .leq=>ZL (.bool (Op.bytesLess a.toList b.toList||(a.toList==b.toList))) k
    | .gtr=>ZL (.bool (!(Op.bytesLess a.toList b.toList||(a.toList==b.toList)))) k
    | .geq=>ZL (.bool (!(Op.bytesLess a.toList b.toList))) k
    | _=>none
  | .bool a,.bool b=>(X.E.ty t).bind fun ti=>match ti.k,op with
    | .bool,.eql=>ZL (.bool (a==b)) k
    | .bool,.neq=>ZL (.bool (!(a==b))) k
    | _,_=>none
  | .agg a,.agg b=>(X.E.ty t).bind fun ti=>(X.zero t).bind fun z=>let z:=xpF X.T 200 z;let a:=xpF X.T 200 a;let b:=xpF X.T 200 b;bif ti.eqOk&&Z2T z a&&Z2T z b then (match op with
    | .eql=>(Z10 a b).bind fun r=>ZL (.bool r) k
    | .neq=>(Z10 a b).bind fun r=>ZL (.bool (!r)) k
    | _=>none) else none
  | .sl _ xs,.nils=>(X.E.ty t).bind fun ti=>match ti.k,op with
    | .slice _,.eql=>bif xs.isEmpty then none else ZL (.bool false) k
    | .slice _,.neq=>bif xs.isEmpty then none else ZL (.bool true) k
    | _,_=>none
  | _,_=>none
def unK (op:UnOp) (x:TV S) (k:Z2w S R):Option R:=match x with
  | .int kd n=>match op with | .neg=>ZL (.int kd (kd.wrap (0-n))) k|_=>none
  | .bool b=>match op with | .not=>ZL (.bool (!b)) k|_=>none
  | _=>none
def Zbl (n:Nat) (x:TV S) (k:Nat→Option R):Option R:=match x with
  | .int _ i=>bif decide (0≤i)&&decide (i<n) then k i.toNat else none
  | _=>none
def Zgs (c:Bool) (a b:Option (TV S)) (k:Z2w S R):Option R:=match a,b with
  | some (.bool x),some (.bool y)=>ZL (.bool (bif c then x else y)) k
  | a,b=>bif c then a.bind fun v=>ZL v k else b.bind fun v=>ZL v k
def Za9 (t:Ty) (h:Nat→Option (Zi S)):TV S→Option (List (Val S t))
  | .nils=>some []
  | .sl0=>some []
  | .sl t' xs=>if e:t'=t then some (e ▸ xs) else none
  | .rs id v=>(h id).bind fun | .row _ t' xs _ u=>bif Nat.beq u v then (if e:t'=t then some (e ▸ xs) else none) else none|_=>none
  | _=>none
def Z7E (X:Y9 S) (fs:List (Nat×Nat)):List (Nat×TV S)→List (TV S)→Option (List (TV S))
  | [],cs=>some cs
  | (i,v)::ps,cs=>(fs[i]?).bind fun f=>(X.E.ty f.1).bind fun ti =>
      bif Nat.beq (wds X.T (Y4 v)) ti.size then (Z2E X.T cs f.2 (Y4 v)).bind fun cs=>Z7E X fs ps cs else none
def Z7D (X:Y9 S) (t:Ty) (n:Nat):List (Nat×TV S)→(Nat→Val S t)→Option (Nat→Val S t)
  | [],a=>some a
  | (i,v)::ps,a=>(Z5n X.T t v).bind fun x=>bif Nat.blt i n then Z7D X t n ps (fun j=>bif Nat.beq j i then x else a j) else none
def Z8A (ρ:Nat→Option (TV S)):List (Nat×Operand)→Option (List (Nat×TV S))
  | []=>some []
  | (i,x)::ps=>(ZM ρ x).bind fun v=>(Z8A ρ ps).bind fun vs=>some ((i,v)::vs)
def ZdG (X:Y9 S) (h:Nat→Option (Zi S)) (t:Ty):Nat→List (Nat×TV S)→Option (List (Val S t))
  | _,[]=>some []
  | k,(i,v)::ps=>bif Nat.beq i k&&Nat.beq (wds X.T (Y4 v)) (tsz X.T t) then (Z1E h (Y4 v)).bind fun c=>(Z6w X.T t c).bind fun x=>(ZdG X h t (k+1) ps).bind fun r=>some (x::r) else none
def Zez (T:TS S):TV S→Nat→Option (TV S)
  | .ptr id off,n=>some (.ptr id (off+n))
  | .ap id b i e off,n=>some (.ap id b i e (off+n))
  | .rptr id v i e off,n=>some (.rptr id v i e (off+n))
  | .pub cs,n=>(Z83 T cs n).bind fun r=>some (.pub r)
  | _,_=>none
def Z7S (T:TS S) (cs:List (TV S)) (base:Nat):Option ((t:Ty)×Nat×(Nat→Val S t)):=(Z83 T cs base).bind fun r=>match hdF T 10 r with
  | .arr t n a::_=>some ⟨t,n,a⟩
  | _=>none
def Za8 (T:TS S) (cs:List (TV S)) (base:Nat):Option (List TypeId×Nat×Nat×(Nat→Nat)):=(Z83 T cs base).bind fun r=>match hdF T 10 r with
  | .earr ts pid n a::_=>some (ts,pid,n,a)
  | _=>none
def ZfO (pid m:Nat):List TypeId→Nat→Z2w S R→Option R
  | [],_,_=>none
  | t::ts,j,k=>bif Nat.beq m j then ZL (.iface t (.agg [.ptr pid 0])) k else ZfO pid m ts (j+1) k
def enK (ts:List TypeId) (pid m:Nat) (k:Z2w S R):Option R:=bif Nat.beq m 0 then ZL .nilif k else ZfO pid m ts 1 k
def ZfU (t:TypeId):List TypeId→Nat→Option Nat
  | [],_=>none
  | u::ts,j=>bif Nat.beq u t then some j else ZfU t ts (j+1)
def Zgz (ts:List TypeId) (pid:Nat):TV S→Option Nat
  | .nilif=>some 0
  | .iface t (.agg [.ptr p 0])=>bif Nat.beq p pid then ZfU t ts 1 else none
  | _=>none
def Zdr (X:Y9 S) (ti:TI) (h:Nat→Option (Zi S)) (a:TV S) (k:Z2w S R):Option R:=match a with
  | .ptr id off=>(h id).bind fun | .cells _ cs=>(Z8y X.T ti cs off).bind fun v=>ZL v k|_=>none
  | .ap id base i e off=>(h id).bind fun
    | .cells _ cs=>(match Za8 X.T cs base with
      | some (ts,pid,n,a)=>bif Nat.beq e 1&&Nat.beq off 0 && !ti.isAgg then (bif Nat.blt i n then enK ts pid (a i) k else none) else none
      | none=>(Z7S X.T cs base).bind fun A=>bif Nat.beq e (tsz X.T A.1) then (bif Nat.blt i A.2.1 then (Z8y X.T ti (tcl X.T A.1 (A.2.2 i)) off).bind fun v=>ZL v k else none) else none)
    | _=>none
  | .rptr id v i e off=>(h id).bind fun
    | .row _ t xs _ u=>bif Nat.beq u v&&Nat.beq (tsz X.T t) e then (bif Nat.blt i xs.length then (Z8y X.T ti (tcl X.T t (xs.getD i (tdf X.T t))) off).bind fun v=>ZL v k else none) else none
    | _=>none
  | .pub cs=>(Z8y X.T ti cs 0).bind fun v=>ZL v k
  | _=>none
def ZcW (X:Y9 S) (ti:TI) (h:Nat→Option (Zi S)) (a v:TV S) (k:Z2w S R):Option R :=
  bif Nat.beq (wds X.T (Y4 v)) ti.size&&(Y4 v).all Z7H then
    match a with
    | .ptr id off=>(h id).bind fun
      | .cells t cs=>(Z2E X.T cs off (Y4 v)).bind fun cs=>k ⟨some (.tup []),[(id,some (.cells t (Z9B X t cs)))]⟩
      | _=>none
    | .ap id base i e off=>(h id).bind fun
      | .cells t cs=>(match Za8 X.T cs base with
       | some (ts,pid,n,a)=>bif Nat.beq e 1&&Nat.beq off 0 then (bif Nat.blt i n then (Zgz ts pid v).bind fun m =>
          (Z2E X.T cs base [.earr ts pid n (fun j=>bif Nat.beq j i then m else a j)]).bind fun cs=>k ⟨some (.tup []),[(id,some (.cells t cs))]⟩ else none) else none
       | none=>(Z7S X.T cs base).bind fun A=>bif Nat.beq e (tsz X.T A.1) then (bif Nat.blt i A.2.1 then
          (Z2E X.T (tcl X.T A.1 (A.2.2 i)) off (Y4 v)).bind fun c=>(Z6w X.T A.1 c).bind fun x =>
          (Z2E X.T cs base [.arr A.1 A.2.1 (fun j=>bif Nat.beq j i then x else A.2.2 j)]).bind fun cs=>k ⟨some (.tup []),[(id,some (.cells t (Z9B X t cs)))]⟩ else none) else none)
      | _=>none
    | .rptr id ver i e off=>(h id).bind fun
      | .row et t xs p u=>bif Nat.beq u ver&&Nat.beq (tsz X.T t) e&&Nat.beq p 0&&Yw (Y4 v) then (bif Nat.blt i xs.length then
          (Z2E X.T (tcl X.T t (xs.getD i (tdf X.T t))) off (Y4 v)).bind fun c=>(Z6w X.T t c).bind fun x =>
            k ⟨some (.tup []),[(id,some (.row et t (xs.set i x) p u))]⟩ else none) else none
      | _=>none
    | _=>none
  else none
def Zf6:TV S→TV S→Option (TV S)
  | .int k x,.int _ y=>some (.int k (bif decide (y<x) then y else x))
  | _,_=>none
def Zf4:TV S→TV S→Option (TV S)
  | .int k x,.int _ y=>some (.int k (bif decide (y>x) then y else x))
  | _,_=>none
def Zbd (f:TV S→TV S→Option (TV S)):TV S→List (TV S)→Option (TV S)
  | x,[]=>some x
  | x,y::ys=>(f x y).bind fun z=>Zbd f z ys
def ZgD (k:TK) (h:Nat→Option (Zi S)) (d:TV S):Option (TV S) :=
  match k,d with
  | .string,.str s=>some (.int .i64 (s.size:Nat))
  | .map _ _,.nilmap=>some (.int .i64 0)
  | .map _ _,.map id=>(h id).bind fun | .map _ _ m=>some (.int .i64 (m.length:Nat))|_=>none
  | .slice _,.nils=>some (.int .i64 0)
  | .slice _,.sl0=>some (.int .i64 0)
  | .slice _,.sl _ xs=>some (.int .i64 (xs.length:Nat))
  | .slice _,.rs id v=>(h id).bind fun | .row _ _ xs _ u=>bif Nat.beq u v then some (.int .i64 (xs.length:Nat)) else none|_=>none
  | .array n _,_=>some (.int .i64 (n:Nat))
  | _,_=>none
def Za0 (X:Y9 S) (nid:Nat) (h:Nat→Option (Zi S)) (t:TypeId) (s x:TV S) (k:Z2w S R):Option R :=
  (X.E.ty t).bind fun ti=>match ti.k with
  | .slice e=>(X.E.ty e).bind fun ei=>(X.code e).bind fun te=>(Za9 te h x).bind fun xs=>bif Nat.blt 0 ei.size&&Nat.ble ei.bytes 100000000000 then (match s with
    | .nils=>(match xs with
      | []=>ZL .nils k
      | y::ys=>bif Nat.ble ((y::ys).length*(ei.bytes+1)) 200000000000000 then k ⟨some (.rs nid 0),[(nid,some (.row e te (y::ys) 0 0))]⟩ else none)
    | .rs id v=>(h id).bind fun
      | .row e' te' es p u=>bif Nat.beq u v&&Nat.beq e' e then (if q:te'=te then (bif Nat.ble ((es.length+xs.length)*(ei.bytes+1)) 200000000000000 then
          k ⟨some (.rs id (v+1)),[(id,some (.row e te ((q ▸ es:List (Val S te))++xs) p (v+1)))]⟩ else none) else none) else none
      | _=>none
    | _=>none) else none
  | _=>none
def Z8u {α β:Type} (e:α→α→Bool) (k:α):List (α×β)→Option β
  | []=>none
  | (k',v)::m=>bif e k k' then some v else Z8u e k m
def Zg8 {α β:Type} (e:α→α→Bool) (k:α) (v:β):List (α×β)→List (α×β)
  | []=>[(k,v)]
  | (k',v')::m=>bif e k k' then (k,v)::m else (k',v')::Zg8 e k v m
def Z4k (d:Option (TV S)) (dflt y:Nat) (k:Nat→Option R):Option R:=match d with
  | none=>k dflt
  | some (.int _ i)=>bif decide (0≤i)&&decide (i≤y) then k i.toNat else none
  | _=>none
def zeroT (X:Y9 S) (t:TypeId) (ti:TI):Option (TV S):=(X.zero t).bind fun z=>bif ti.isAgg then some (.agg z) else match z with
  | [c]=>bif ZP c then none else some c
  | _=>none
def Zgb (ρ:Nat→Option (TV S)):Option Operand→Option (Option (TV S))
  | none=>some none
  | some x=>(ZM ρ x).bind fun v=>some (some v)
def Z69 (T:TS S) (ki:TI) (z:Option (List (TV S))):(t:Ty)→Val S t→Bool:=fun t x=>match ki.k,t,x with
  | .int _,.int _,_ | .string,.str,_ | .bool,.bool,_=>true
  | .struct _,.st i,x=>ki.eqOk&&ki.keyOk&&(match z with|some z=>Z2T (xpF T 200 z) (xpF T 200 [.stc i x])|none=>false)
  | _,_,_=>false
def opK (X:Y9 S) (nid:Nat) (ρ:Nat→Option (TV S)) (h:Nat→Option (Zi S)) (op:Op) (k:Z2w S R):Option R :=
  match op with
  | .move x=>(ZM ρ x).bind fun v=>ZL v k
  | .assign x=>(ZM ρ x).bind fun v=>ZL v k
  | .pick c a b=>(ZM ρ c).bind fun
    | .bool c=>Zgs c (ZM ρ a) (ZM ρ b) k
    | _=>none
  | .alloc t=>(X.E.ty t).bind fun _=>(X.zero t).bind fun z=>k ⟨some (.ptr nid 0),[(nid,some (.cells t (Z9B X t (Z8G nid z))))]⟩
  | .box t x=>(ZM ρ x).bind fun v=>bif (Y4 v).all Z7H then k ⟨some (.ptr nid 0),[(nid,some (.cells t (Z9B X t (Z8G nid (Y4 v)))))]⟩ else none
  | .build t ps=>(X.E.ty t).bind fun ti=>(Z8A ρ ps.toList).bind fun vs=>(X.zero t).bind fun z=>match ti.k with
    | .struct fs=>(Z7E X fs vs z).bind fun cs=>ZL (.agg cs) k
    | .array _ e=>(X.E.ty e).bind fun _=>(X.code e).bind fun te=>(match z with
      | [.arr te' n a]=>if q:te'=te then (Z7D X te n vs (q ▸ a)).bind fun a=>ZL (.agg [.arr te n a]) k else none
      | _=>none)
    | _=>none
  | .buildSlice t n ps=>(X.E.ty t).bind fun ti=>match ti.k with
    | .slice e=>(X.E.ty e).bind fun ei=>(X.code e).bind fun te=>(Z8A ρ ps.toList).bind fun vs=>(ZdG X h te 0 vs).bind fun es =>
        bif Nat.beq es.length n&&Nat.ble (n*ei.size) 1048576&&Nat.blt 0 ei.size then k ⟨some (.rs nid 0),(nid,some (.row e te es 0 0))::Z5l h (Yi (vs.map (·.2)))⟩ else none
    | _=>none
  | .load t a=>(X.E.ty t).bind fun ti=>(ZM ρ a).bind fun a=>Zdr X ti h a k
  | .store t a x=>(X.E.ty t).bind fun ti=>(ZM ρ a).bind fun a=>(ZM ρ x).bind fun v=>ZcW X ti h a v k
  | .nilCheck x=>(ZM ρ x).bind fun
    | .ptr i o=>ZL (.ptr i o) k
    | .ap i b j e o=>ZL (.ap i b j e o) k
    | .rptr i v j e o=>ZL (.rptr i v j e o) k
    | .pub cs=>ZL (.pub cs) k
    | _=>none
  | .binOp op t x y _=>(ZM ρ x).bind fun x=>(ZM ρ y).bind fun y=>Zgy X op t x y k
  | .unOp op _ x=>(ZM ρ x).bind fun x=>unK op x k
  | .convert s d x=>(X.E.ty s).bind fun _=>(X.E.ty d).bind fun ti=>(ZM ρ x).bind fun x=>match ti.k,x with
    | .int kd,.int _ n=>ZL (.int kd (kd.wrap n)) k
    | .string,.str s=>ZL (.str s) k
    | _,_=>none
  | .makeFunc f a c=>(Z2r ρ a.toList).bind fun a=>(Z2r ρ c.toList).bind fun c=>ZL (.fn f a c) k
  | .makeMap t none=>(X.E.ty t).bind fun ti=>match ti.k with
    | .map kt e=>(X.code kt).bind fun kt=>(X.code e).bind fun et=>k ⟨some (.map nid),[(nid,some (.map kt et []))]⟩
    | _=>none
  | .slice t x lo hi none=>(X.E.ty t).bind fun ti=>(ZM ρ x).bind fun x=>(Zgb ρ lo).bind fun lo=>(Zgb ρ hi).bind fun hi=>match ti.k,x with
    | .string,.str s=>Z4k hi s.size s.size fun h=>Z4k lo 0 h fun l=>ZL (.str (s.extract l h)) k
    | .array n e,.ptr id off=>(X.E.ty e).bind fun ei=>(h id).bind fun
      | .cells _ cs=>(Z7S X.T cs off).bind fun A=>bif Nat.beq A.2.1 n&&Nat.beq (tsz X.T A.1) ei.size&&Nat.blt 0 ei.size then
          Z4k hi n n fun hh=>Z4k lo 0 hh fun l=>k ⟨some (.sl A.1 ((((List.range n).map A.2.2).take hh).drop l)),[(id,none)]⟩ else none
      | _=>none
    | .slice e,d=>(X.E.ty e).bind fun ei=>(X.code e).bind fun te=>(Za9 te h d).bind fun es=>bif Nat.blt 0 ei.size then
        Z4k hi es.length es.length fun hh=>Z4k lo 0 hh fun l=>k ⟨some (.sl te ((es.take hh).drop l)),Z5l h (Y3 d)⟩ else none
    | _,_=>none
  | .fieldAddr s x f=>(X.E.ty s).bind fun ti=>(ZM ρ x).bind fun x=>match ti.k with
    | .struct fs=>(fs[f]?).bind fun f=>(X.E.ty f.1).bind fun fi=>bif Nat.blt 0 fi.size then (Zez X.T x f.2).bind fun v=>ZL v k else none
    | _=>none
  | .field s x f=>(X.E.ty s).bind fun ti=>(ZM ρ x).bind fun x=>match ti.k,x with
    | .struct fs,.agg cs=>(fs[f]?).bind fun f=>(X.E.ty f.1).bind fun fi=>(Z8y X.T fi cs f.2).bind fun v=>ZL v k
    | _,_=>none
  | .indexAddr t x i=>(X.E.ty t).bind fun ti=>(ZM ρ x).bind fun x=>(ZM ρ i).bind fun i=>match ti.k with
    | .array len e=>(X.E.ty e).bind fun ei=>(match x with
      | .ptr id o=>Zbl len i fun i=>bif Nat.blt 0 len then ZL (.ap id o i ei.size 0) k else none
      | .pub cs=>(match hdF X.T 10 cs with
       | .arr t n a::cs=>bif Nat.beq n len&&Nat.beq (tsz X.T t) ei.size then Zbl len i fun i=>ZL (.pub (tcl X.T t (a i) ++ .arr t (n-(i+1)) (fun m=>a (i+1+m))::cs)) k else none
       | _=>none)
      | _=>none)
    | .slice e=>(X.E.ty e).bind fun ei=>(match x with
      | .sl te xs=>bif Nat.beq (tsz X.T te) ei.size&&Nat.blt 0 ei.size then Zbl xs.length i fun i=>ZL (.pub (tcl X.T te (xs.getD i (tdf X.T te)))) k else none
      | .rs id v=>(h id).bind fun
        | .row _ _ xs _ u=>bif Nat.beq u v&&Nat.blt 0 ei.size then Zbl xs.length i fun i=>ZL (.rptr id v i ei.size 0) k else none
        | _=>none
      | _=>none)
    | _=>none
  | .index t x i=>(X.E.ty t).bind fun ti=>(ZM ρ x).bind fun x=>(ZM ρ i).bind fun i=>match ti.k,x with
    | .array len e,.agg [.arr te n a]=>(X.E.ty e).bind fun ei=>bif Nat.beq n len&&Nat.beq (tsz X.T te) ei.size&&(ei.isAgg==YM te) then Zbl len i fun i=>ZL (Z74 X.T te (a i)) k else none
    | .string,.str s=>Zbl s.size i fun i=>ZL (.int .u8 (s.toList.getD i 0).toNat) k
    | _,_=>none
  | .lookup t m kx ok=>(X.E.ty t).bind fun ti=>(ZM ρ m).bind fun m=>(ZM ρ kx).bind fun kv=>match ti.k,m with
    | .map kt e,.map id=>(X.E.ty e).bind fun ei=>(X.E.ty kt).bind fun ki=>(X.zero e).bind fun z=>(h id).bind fun
      | .map kc ec es=>(Z5n X.T kc kv).bind fun key=>bif Z69 X.T ki (X.zero kt) kc key&&Nat.beq ei.size 1 && !ei.isAgg && !YM ec then (Z6w X.T ec z).bind fun zv=>(Z8n X.T kc).bind fun eq =>
          ZL (bif ok then .tup [Z74 X.T ec ((Z8u eq key es).getD zv),.bool (Z8u eq key es).isSome] else Z74 X.T ec ((Z8u eq key es).getD zv)) k else none
      | _=>none
    | _,_=>none
  | .mapUpdate t m kx v=>(X.E.ty t).bind fun ti=>(ZM ρ m).bind fun m=>(ZM ρ kx).bind fun kv=>(ZM ρ v).bind fun v=>match ti.k,m with
    | .map kt _,.map id=>(X.E.ty kt).bind fun ki=>(h id).bind fun
      | .map kc ec es=>(Z5n X.T kc kv).bind fun key=>bif Z69 X.T ki (X.zero kt) kc key && !YM ec then (Z3r (S:=S) ec).bind fun _=>(Z5n X.T ec v).bind fun x=>(Z8n X.T kc).bind fun eq =>
          k ⟨some (.tup []),[(id,some (.map kc ec (Zg8 eq key x es)))]⟩ else none
      | _=>none
    | _,_=>none
  | .makeInterface t x=>(X.E.ty t).bind fun ti=>(ZM ρ x).bind fun v=>bif ZP v then none else match ti.k with
    | .iface=>none
    | _=>ZL (.iface t v) k
  | .typeAssert x _ t ok=>(X.E.ty t).bind fun ti=>(ZM ρ x).bind fun x=>match ti.k,x with
    | .iface,_=>none
    | _,.nilif=>bif ok then (zeroT X t ti).bind fun z=>ZL (.tup [z,.bool false]) k else none
    | _,.iface t' v=>bif Nat.beq t' t then ZL (bif ok then .tup [v,.bool true] else v) k else bif ok then (zeroT X t ti).bind fun z=>ZL (.tup [z,.bool false]) k else none
    | _,_=>none
  | .makeSlice t l c=>(X.E.ty t).bind fun ti=>(ZM ρ l).bind fun l=>(ZM ρ c).bind fun c=>match ti.k,l,c with
    | .slice e,.int _ n,.int _ n'=>(X.E.ty e).bind fun ei=>(X.code e).bind fun te=>(X.zero e).bind fun z=>(Z6w X.T te z).bind fun zv=>bif n==n'&&decide (0≤n)&&Nat.ble (n.toNat*(ei.bytes+1)) 200000000000000&&Nat.blt 0 ei.size then
        k ⟨some (.rs nid 0),[(nid,some (.row e te (List.replicate n.toNat zv) 0 0))]⟩ else none
    | _,_,_=>none
  | .range t x=>(X.E.ty t).bind fun ti=>(ZM ρ x).bind fun x=>match ti.k,x with
    | .string,.str s=>k ⟨some (.iter nid),[(nid,some (.siter s 0))]⟩
    | _,_=>none
  | .next it true=>(ZM ρ it).bind fun
    | .iter id=>(h id).bind fun
      | .siter s pos=>bif decide (pos<s.size) then
          k ⟨some (.tup [.bool true,.int .i64 (pos:Nat),.int .i32 (Utf8.decode s pos).1]),[(id,some (.siter s (pos+(Utf8.decode s pos).2)))]⟩
        else ZL (.tup [.bool false]) k
      | _=>none
    | _=>none
  | .extract t i=>(ZM ρ t).bind fun
    | .tup vs=>(vs[i]?).bind fun v=>ZL v k
    | _=>none
  | .call c=>match c.callee with
    | .builtin .len=>(match c.args.toList,c.argTypes.toList with
      | [x],t::_=>(X.E.ty t).bind fun ti=>(ZM ρ x).bind fun x=>(ZgD ti.k h x).bind fun v=>ZL v k
      | _,_=>none)
    | .builtin .append=>(match c.args.toList,c.argTypes.toList with
      | [s,x],[t,t']=>bif Nat.beq t t' then (ZM ρ s).bind fun s=>(ZM ρ x).bind fun x=>Za0 X nid h t s x k else none
      | _,_=>none)
    | .builtin .min=>(Z2r ρ c.args.toList).bind fun vs=>(match vs with|x::xs=>(Zbd Zf6 x xs).bind fun v=>ZL v k|[]=>none)
    | .builtin .max=>(Z2r ρ c.args.toList).bind fun vs=>(match vs with|x::xs=>(Zbd Zf4 x xs).bind fun v=>ZL v k|[]=>none)
    | _=>none
  | _=>none
def ZaP (E:Env) (ρ:Nat→Option (TV S)) (c:Call):Option (TV S×List (TV S)) :=
  match c.callee with
  | .value f=>(ZM ρ f).bind fun
    | .fn (.func g) first caps=>(Z2r ρ c.args.toList).bind fun as=>some (.fn (.func g) [] [],first++as++caps)
    | .yld id=>(Z2r ρ c.args.toList).bind fun as=>some (.yld id,as)
    | _=>none
  | .invoke r m=>(ZM ρ r).bind fun
    | .iface t v=>(E.ty t).bind fun ti=>(Z6L m ti.meths).bind fun g=>(Z2r ρ c.args.toList).bind fun as=>some (.fn (.func g) [] [],v::as)
    | _=>none
  | _=>none
def Zdx (E:Env):TV S×List (TV S)→Bool
  | (.fn (.func g) _ _,_)=>match E.fn g with
    | some F=>F.pur
    | none=>false
  | _=>false
structure Z3s (S:Nat→Type) (R:Type) where
  fn:Nat→List (TV S)→(TV S→Option R)→Option R
  /-- calls on the heap whose numbers begin just above those that they can see -/
  pr:Nat→List (TV S)→Tr (Zi S)→Nat→(TV S→Tr (Zi S)→Nat→Option R)→Option R
def Zgo (cs:Z3s S R) (h:Nat→Option (Zi S)) (tgt:TV S×List (TV S)) (k:Z2w S R):Option R:=match tgt with
  | (.fn (.func g) _ _,as)=>(Z1E h as).bind fun fs=>cs.fn g fs fun r=>k ⟨some r,Z5l h (Yi as)⟩
  | _=>none
def ZdN (X:Y9 S) (cs:Z3s S R) (nid:Nat) (ρ:Nat→Option (TV S)) (h:Nat→Option (Zi S)) (op:Op) (k:Z2w S R) (ki:TV S×List (TV S)→Option R):Option R :=
  match Z3m op with
  | none=>opK X nid ρ h op k
  | some c=>(ZaP X.E ρ c).bind fun tgt=>bif Zdx X.E tgt then Zgo cs h tgt k else ki tgt
structure StT (S:Nat→Type) where
  base:Tr (TV S)
  objs:Tr (Zi S)
  next:Nat
structure Z25 (S:Nat→Type) where
  base:Tr (TV S)
  loc:List (Nat×Option (TV S))
  objs:Tr (Zi S)
  next:Nat
def Z8d (l:List (Nat×Option (TV S))) (t:Nat):Option (Option (TV S)):=match l with
  | []=>none
  | (s,v)::l=>bif Nat.beq s t then some v else Z8d l t
def Z1l (V:Nat) (base:Tr (TV S)) (loc:List (Nat×Option (TV S))) (t:Nat):Option (TV S) :=
  bif Nat.testBit V t then base.get t else (match Z8d loc t with|some v=>v|none=>none)
def Z4c (o:Tr (Zi S)):List (Nat×Option (Zi S))→Tr (Zi S)
  | []=>o
  | (i,x)::us=>Z4c (o.set i x) us
def Z25.put (V nt:Nat) (m:Z25 S) (dst:Option Tmp) (v:Option (TV S)):Z25 S :=
  match dst with
  | none=>m
  | some d=>bif !Nat.blt d nt then m else bif Nat.testBit V d then { m with base:=m.base.set d v } else { m with loc:=(d,v)::m.loc }
def knF (kn:List (Nat×Bool)) (t:Nat):Option Bool:=match kn with
  | []=>none
  | (s,b)::l=>bif Nat.beq s t then some b else knF l t
def Z4u (kn:List (Nat×Bool)) (dst:Option Tmp):List (Nat×Bool):=match dst with
  | none=>kn
  | some d=>kn.filter fun p => !Nat.beq p.1 d
def ovK (kn:List (Nat×Bool)) (t:Nat) (v:Option (TV S)):Option (TV S):=match kn with
  | []=>v
  | _=>match v with
    | some (.bool b)=>(match knF kn t with|some b0=>some (.bool b0)|none=>some (.bool b))
    | v=>v
def ZdO (ops:Array Oper) (ρ:Nat→Option (TV S)) (o:Oper) (kn:List (Nat×Bool)) (f:Bool→List (Nat×Bool)→Option R):Option R :=
  match o.guard with
  | none=>f true kn
  | some (j,want)=>match (ops[j]?).bind (·.dst) with
    | some t=>(match ρ t with
      | some (.bool b)=>bif b then f (true==want) ((t,true)::kn) else f (false==want) ((t,false)::kn)
      | some _=>f false kn
      | none=>none)
    | none=>none
abbrev Z2k (S:Nat→Type) (R:Type):=List Nat→Nat→List (TV S)→Tr (Zi S)→Nat→(TV S→Tr (Zi S)→Nat→Option R)→Option R
section strict
variable {α β:Type}
def sN (n:Nat) (k:Nat→α):α:=match n with
  | 0=>k 0
  | m+1=>k (m+1)
mutual
def sV:TV S→(TV S→α)→α
  | .ptr i o,k=>sN i fun i=>sN o fun o=>k (.ptr i o)
  | .ap i b j e o,k=>sN i fun i=>sN b fun b=>sN e fun e=>sN o fun o=>k (.ap i b j e o)
  | .rptr i v j e o,k=>sN i fun i=>sN v fun v=>sN e fun e=>sN o fun o=>k (.rptr i v j e o)
  | .pub cs,k=>sVs cs fun cs=>k (.pub cs)
  | .rs i v,k=>sN i fun i=>sN v fun v=>k (.rs i v)
  | .agg cs,k=>sVs cs fun cs=>k (.agg cs)
  | .tup cs,k=>sVs cs fun cs=>k (.tup cs)
  | .fn f a c,k=>sVs a fun a=>sVs c fun c=>k (.fn f a c)
  | .map i,k=>sN i fun i=>k (.map i)
  | .iface t v,k=>sV v fun v=>k (.iface t v)
  | .iter i,k=>sN i fun i=>k (.iter i)
  | .yld i,k=>sN i fun i=>k (.yld i)
  | .bool b,k=>k (.bool b)
  | .int d n,k=>k (.int d n)
  | .str b,k=>k (.str b)
  | .nilp,k=>k .nilp
  | .nils,k=>k .nils
  | .sl0,k=>k .sl0
  | .sl t xs,k=>k (.sl t xs)
  | .arr t n a,k=>k (.arr t n a)
  | .stc i x,k=>k (.stc i x)
  | .earr ts p n a,k=>sN p fun p=>k (.earr ts p n a)
  | .narr ts n,k=>k (.narr ts n)
  | .nilfn,k=>k .nilfn
  | .nilmap,k=>k .nilmap
  | .nilif,k=>k .nilif
def sVs:List (TV S)→(List (TV S)→α)→α
  | [],k=>k []
  | c::cs,k=>sV c fun c=>sVs cs fun cs=>k (c::cs)
end
def sNs:List Nat→(List Nat→α)→α
  | [],k=>k []
  | i::is,k=>sN i fun i=>sNs is fun is=>k (i::is)
def sTr (f:β→(β→α)→α):Tr β→(Tr β→α)→α
  | .leaf,k=>k .leaf
  | .node l v r,k=>sTr f l fun l=>(match v with
    | none=>sTr f r fun r=>k (.node l none r)
    | some x=>f x fun x=>sTr f r fun r=>k (.node l (some x) r))
def sO:Zi S→(Zi S→α)→α
  | .cells t cs,k=>sVs cs fun cs=>k (.cells t cs)
  | .row e t xs p v,k=>sN v fun v=>k (.row e t xs p v)
  | .map a b m,k=>k (.map a b m)
  | .siter s p,k=>k (.siter s p)
  | .loop f b ps as bo bid ex pa po,k=>sTr sV b fun b=>k (.loop f b ps as bo bid ex pa po)
def sSt (s:StT S) (k:StT S→α):α:=sTr sV s.base fun b=>sTr sO s.objs fun o=>sN s.next fun n=>k ⟨b,o,n⟩
end strict
mutual
def Z2g:TV S→List Nat
  | .ptr i _ | .ap i _ _ _ _ | .rptr i _ _ _ _ | .rs i _ | .map i | .iter i | .yld i=>[i]
  | .agg cs=>Z2v cs
  | .tup cs=>Z2v cs
  | .fn _ a b=>Z2v a++Z2v b
  | _=>[]
def Z2v:List (TV S)→List Nat
  | []=>[]
  | c::cs=>Z2g c++Z2v cs
end
def Zfn:Zi S→List Nat
  | .cells _ cs=>Z2v cs
  | .loop _ b _ _ _ _ _ _ _=>(b.ents 1 0).flatMap fun p=>Z2g p.2
  | _=>[]
def Z1P (h:Nat→Option (Zi S)):Nat→List Nat→List Nat→List Nat
  | 0,_,acc=>acc
  | _+1,[],acc=>acc
  | n+1,i::todo,acc=>bif acc.any (Nat.beq i) then Z1P h n todo acc else match h i with
    | some o=>Z1P h n (Zfn o++todo) (i::acc)
    | none=>Z1P h n todo acc
def Z72 (h:Nat→Option (Zi S)):List Nat→Tr (Zi S)
  | [] => .leaf
  | i::is=>(Z72 h is).set i (h i)
def Za6 (o:Tr (Zi S)) (R:List Nat) (nx:Nat):List (Nat×Option (Zi S)):=(R++((o.ents 1 0).map (·.1)).filter (Nat.ble nx)).map fun i=>(i,o.get i)
def Z2u (h:Nat→Option (Zi S)):TV S→TV S
  | .rs id v=>(match h id with
    | some (.row _ t xs p u)=>bif Nat.beq p 1&&Nat.beq u v then .sl t xs else .rs id v
    | _ => .rs id v)
  | d=>d
def Z5b (h:Nat→Option (Zi S)):TV S→TV S
  | .agg cs => .agg (cs.map (Z2u h))
  | d=>Z2u h d
def ZfK (run:Tr (Zi S)→(TV S→Tr (Zi S)→Nat→Option R)→Option R) (h:Nat→Option (Zi S)) (nx:Nat) (is Rs:List Nat) (k:Z9Z S→List Nat→Nat→Option R):Option R :=
  sNs Rs fun Rs=>sTr sO (Z72 h Rs) fun o=>run o fun v o n=>bif Nat.ble nx n then k ⟨some v,Za6 o Rs nx⟩ (is++Rs) n else none
def Z5T (callH callY:Z2k S R) (path:List Nat) (h:Nat→Option (Zi S)) (nx:Nat) (tgt:TV S×List (TV S)) (k:Z9Z S→List Nat→Nat→Option R):Option R:=match tgt with
  | (.fn (.func g) _ _,as)=>sVs (as.map (Z5b h)) fun fs=>ZfK (fun o k=>callH path g fs o nx k) h nx (Yi as) (Z1P h 4096 (Z2v fs) []) k
  | (.yld id,as)=>sVs (as.map (Z5b h)) fun fs=>ZfK (fun o k=>callY path id fs o nx k) h nx (Yi as) (Z1P h 4096 (id::Z2v fs) []) k
  | _=>none
def Zel (X:Y9 S) (cs:Z3s S R) (callH callY:Z2k S R) (path:List Nat) (V nt:Nat) (ops:Array Oper) (b:Nat):Nat→List Oper→List (Nat×Bool)→Z25 S→(Z25 S→Option R)→Option R
  | _,[],_,m,kk=>kk m
  | k,o::os,kn,m,kk =>
    ZdO ops (fun t=>ovK kn t (Z1l V m.base m.loc t)) o kn fun want kn=>bif want then
      ZdN X cs (b+k) (fun t=>ovK kn t (Z1l V m.base m.loc t)) m.objs.get o.op
        (fun r=>Zel X cs callH callY path V nt ops b (k+1) os (Z4u kn o.dst) ({ m with objs:=Z4c m.objs r.upd }.put V nt o.dst r.val) kk)
        (fun tgt=>Z5T callH callY (k::path) m.objs.get m.next tgt fun x _ n=>Zel X cs callH callY path V nt ops b (k+1) os (Z4u kn o.dst) ({ m with objs:=Z4c m.objs x.upd,next:=n }.put V nt o.dst x.val) kk)
    else Zel X cs callH callY path V nt ops b (k+1) os (Z4u kn o.dst) (m.put V nt o.dst (some (.tup []))) kk
structure Z1e (S:Nat→Type) where
  dst:Option Tmp
  anc:Nat
  touch:List Nat
  out:Z9Z S
  new:Option (Nat×Nat)
def Z90 (ρ:Nat→Option (TV S)) (op:Op):List Nat:=op.operands.toList.flatMap fun x=>match ZM ρ x with|some d=>Z2p d|none=>[]
def Z3h (anc:Nat) (ρ:Nat→Option (TV S)):List (Nat×Z1e S)→Nat→Option (TV S)
  | [],t=>ρ t
  | (j,d)::ds,t=>bif (match d.dst with|some s=>Nat.beq s t|none=>false) then (bif Nat.testBit anc j then d.out.val else none) else Z3h anc ρ ds t
def Z37 (id:Nat):List (Nat×Option (Zi S))→Option (Option (Zi S))
  | []=>none
  | (i,x)::us=>match Z37 id us with
    | some y=>some y
    | none=>bif Nat.beq i id then some x else none
def Z42 (anc:Nat) (h:Nat→Option (Zi S)):List (Nat×Z1e S)→Nat→Option (Zi S)
  | [],id=>h id
  | (j,d)::ds,id=>match Z37 id d.out.upd with
    | some x=>bif Nat.testBit anc j then x else none
    | none=>Z42 anc h ds id
def Z4h (ops:Array Oper) (ds:List (Nat×Z1e S)) (o:Oper) (k:Nat):Nat :=
  o.after.toList.foldl (fun m e=>bif Region.binds .any e&&Nat.blt e.on k then m ||| (1 <<< e.on) ||| ((ds.find? (fun d=>Nat.beq d.1 e.on)).map (·.2.anc)).getD 0 else m) 0
def Z3X (V nt:Nat):List (Nat×Z1e S)→Z25 S→Z25 S
  | [],m=>m
  | (_,d)::ds,m=>let m:=Z3X V nt ds m;{ m with objs:=Z4c m.objs d.out.upd }.put V nt d.dst d.out.val
def Z82 (X:Y9 S) (cs:Z3s S R) (callH callY:Z2k S R) (path:List Nat) (V nt:Nat) (ops:Array Oper) (b:Nat):Nat→List Oper→List (Nat×Bool)→Z25 S→List (Nat×Z1e S)→(Z25 S→Option R)→Option R
  | _,[],_,m,ds,kk=>kk (Z3X V nt ds m)
  | k,o::os,kn,m,ds,kk =>
    let anc:=Z4h ops ds o k
    let ρ0:=Z3h anc (Z1l V m.base m.loc) ds
    let h:=Z42 anc m.objs.get ds
    bif o.after.all (fun e => !Region.binds .any e||Nat.blt e.on k)&&(match o.dst with|none=>true|some t=>Nat.blt t nt)&&ds.all (fun d=>Nat.testBit anc d.1||(match o.dst with
        | none=>true
        | some t => !((ops.getD d.1 o).looksAt ops).contains t && !(match d.2.dst with|some s=>Nat.beq s t|none=>false))) then
      ZdO ops (fun t=>ovK kn t (ρ0 t)) o kn fun want kn =>
        let ρ:=fun t=>ovK kn t (ρ0 t)
        bif want then
          ZdN X cs (b+k) ρ h o.op
            (fun r=>bif r.upd.all (fun u=>ds.all (fun d=>Nat.testBit anc d.1 || !d.2.touch.contains u.1&&(Z37 u.1 d.2.out.upd).isNone)) then
              Z82 X cs callH callY path V nt ops b (k+1) os (Z4u kn o.dst) m ((k,⟨o.dst,anc,Z90 ρ o.op,r,none⟩)::ds) kk
            else none)
            (fun tgt=>Z5T callH callY (k::path) h m.next tgt fun x T n =>
              bif ds.all (fun d=>Nat.testBit anc d.1||d.2.new.isNone&&x.upd.all (fun u => !d.2.touch.contains u.1&&(Z37 u.1 d.2.out.upd).isNone)) then
                Z82 X cs callH callY path V nt ops b (k+1) os (Z4u kn o.dst) { m with next:=n } ((k,⟨o.dst,anc,T,x,some (m.next,n)⟩)::ds) kk
              else none)
        else Z82 X cs callH callY path V nt ops b (k+1) os (Z4u kn o.dst) m ((k,⟨o.dst,anc,[],⟨some (.tup []),[]⟩,none⟩)::ds) kk
    else none
def Zax (X:Y9 S) (cs:Z3s S R) (callH callY:Z2k S R) (path:List Nat) (V nt:Nat) (ops:Array Oper) (draw:Bool) (s:StT S) (kk:StT S→Option R):Option R :=
  bif draw then Z82 X cs callH callY path V nt ops s.next 0 ops.toList [] ⟨s.base,[],s.objs,s.next+ops.size⟩ [] fun m=>sSt ⟨m.base,m.objs,m.next⟩ kk
  else Zel X cs callH callY path V nt ops s.next 0 ops.toList [] ⟨s.base,[],s.objs,s.next+ops.size⟩ fun m=>sSt ⟨m.base,m.objs,m.next⟩ kk
def ZgX:TV S→Bool
  | .arr _ _ _ | .stc _ _=>true
  | _=>false
def Za4 (T:TS S) (cs:List (TV S)) (off:Nat):Option (Option (TV S)):=(Z83 T cs off).bind fun
  | []=>some none
  | c::_=>bif ZP c then (bif ZgX c&&Nat.blt 0 (wd T c) then some (some (.bool false)) else none) else some (some c)
def ZfD (T:TS S) (o:Tr (Zi S)) (b0:Tr (TV S)):Acc→Option (Option (Nat×Nat))
  | .slot t _=>(match b0.get t with
    | some (.rs id v)=>some (some (id,v))
    | _=>some none)
  | .cell t off _=>(match b0.get t with
    | some (.ptr q 0)=>(match o.get q with
      | some (.cells _ cs)=>(Za4 T cs off).bind fun
        | some (.rs id v)=>some (some (id,v))
        | _=>some none
      | _=>some none)
    | some (.ap _ _ _ _ _)=>none
    | _=>some none)
def Zd5 (T:TS S) (o:Tr (Zi S)) (b0:Tr (TV S)):List Acc→Option (List (Option (Nat×Nat)))
  | []=>some []
  | a::as=>(ZfD T o b0 a).bind fun x=>(Zd5 T o b0 as).bind fun xs=>some (x::xs)
mutual
def Z3a (n0:Nat) (L:List (Option (Nat×Nat))):TV S→Option (TV S)
  | .rs id v=>match Z5a id v 0 L with
    | some j=>some (.rs (n0+j) 0)
    | none=>bif Nat.blt id n0 && !Z2W id L then some (.rs id v) else none
  | .agg cs=>(Z7m n0 L cs).bind fun cs=>some (.agg cs)
  | .tup cs=>(Z7m n0 L cs).bind fun cs=>some (.tup cs)
  | d=>bif Z99 n0 d then some d else none
def Z7m (n0:Nat) (L:List (Option (Nat×Nat))):List (TV S)→Option (List (TV S))
  | []=>some []
  | c::cs=>(Z3a n0 L c).bind fun c=>(Z7m n0 L cs).bind fun cs=>some (c::cs)
end
def Z9I (n0:Nat) (L:List (Option (Nat×Nat))):Zi S→Option (Zi S)
  | .cells t cs=>(Z7m n0 L cs).bind fun cs=>some (.cells t cs)
  | .loop fid b ps as bo bid ex pa po=>(b.tm (fun _ d=>(Z3a n0 L d).bind fun d=>some (some d)) 1 0).bind fun b=>some (.loop fid b ps as bo bid ex pa po)
  | o=>some o
def Z3u (o:Tr (Zi S)) (n0:Nat):Nat→List (Option (Nat×Nat))→Tr (Zi S)→Option (Tr (Zi S))
  | _,[],no=>some no
  | j,none::l,no=>Z3u o n0 (j+1) l no
  | j,some (id,v)::l,no=>(match o.get id with
    | some (.row e t es p u)=>bif Nat.beq u v then Z3u o n0 (j+1) l (no.set (n0+j) (some (.row e t es p 0))) else none
    | _=>none)
def YR (X:Y9 S) (n0:Nat):Nat→List Acc→Tr (TV S)×Tr (Zi S)→Option (Tr (TV S)×Tr (Zi S))
  | _,[],r=>some r
  | j,.slot t e::as,(b,no)=>(match b.get t with
    | some .nils=>(X.E.ty e).bind fun ei=>(X.code e).bind fun te=>bif Nat.blt 0 ei.size&&(no.get (n0+j)).isNone then YR X n0 (j+1) as (b.set t (some (.rs (n0+j) 0)),no.set (n0+j) (some (.row e te [] 0 0))) else none
    | _=>YR X n0 (j+1) as (b,no))
  | j,.cell t off e::as,(b,no)=>(match b.get t with
    | some (.ptr q 0)=>(match no.get q with
      | some (.cells ct cs)=>(Za4 X.T cs off).bind fun
        | some .nils=>(X.E.ty e).bind fun ei=>(X.code e).bind fun te=>(Z2E X.T cs off [.rs (n0+j) 0]).bind fun cs=>bif Nat.blt 0 ei.size&&(no.get (n0+j)).isNone then YR X n0 (j+1) as (b,(no.set q (some (.cells ct cs))).set (n0+j) (some (.row e te [] 0 0))) else none
        | _=>YR X n0 (j+1) as (b,no)
      | _=>YR X n0 (j+1) as (b,no))
    | some (.ap _ _ _ _ _)=>none
    | _=>YR X n0 (j+1) as (b,no))
mutual
def YK:TV S→List (Nat×Nat)
  | .rs id v=>[(id,v)]
  | .agg cs=>Z2s cs
  | .tup cs=>Z2s cs
  | .fn _ a b=>Z2s a++Z2s b
  | .iface _ v=>YK v
  | _=>[]
def Z2s:List (TV S)→List (Nat×Nat)
  | []=>[]
  | c::cs=>YK c++Z2s cs
end
def ZcJ:Zi S→List (Nat×Nat)
  | .cells _ cs=>Z2s cs
  | .loop _ b _ _ _ _ _ _ _=>(b.ents 1 0).flatMap fun p=>YK p.2
  | _=>[]
def ZaG (o:Nat→Option (Zi S)) (p:Nat×Nat):Bool:=match o p.1 with
  | some (.row _ _ _ _ u)=>Nat.beq u p.2
  | _=>false
def Zae (o:Tr (Zi S)) (b:Tr (TV S)) (n0 keep:Nat) (A:List (Option (Nat×Nat))):List (Nat×Nat) :=
  Z7A (ZaG o.get) A (((o.ents 1 0).flatMap fun p=>bif Nat.blt p.1 n0 then ZcJ p.2 else [])++((b.ents 1 0).flatMap fun p=>bif Nat.testBit keep p.1 then YK p.2 else [])) []
def ZcA (X:Y9 S) (hint:Z3I) (n0:Nat) (s:StT S):Option (StT S) :=
  (Zd5 X.T s.objs s.base hint.accs).bind fun A =>
  let XL:=Zae s.objs s.base n0 hint.keep A
  let L:=XL.map some++A
  bif Zc7 L then
    (s.base.tm (fun t d=>bif Nat.testBit hint.keep t then (Z3a n0 L d).bind fun d=>some (some d) else some none) 1 0).bind fun b =>
    (s.objs.tm (fun i x=>bif Nat.blt i n0 && !Z2W i L then (Z9I n0 L x).bind fun x=>some (some x) else some none) 1 0).bind fun o =>
    (Z3u s.objs n0 0 L o).bind fun o=>(YR X n0 XL.length hint.accs (b,o)).bind fun r=>some ⟨r.1,r.2,n0+XL.length+hint.accs.length⟩
  else none
def Zdu (X:Y9 S) (hint:Z3I) (n0:Nat) (s:StT S):Option (StT S) :=
  (ZcA X hint n0 s).bind fun s=>some (bif hint.raw then s else { s with objs:=s.objs.mapv Zf0 })
def Zbn (rnd:Option Nat) (h:Nat→Option (Zi S)):Bool:=match rnd with
  | none=>true
  | some l=>(match h l with|some (.loop ..)=>true|_=>false)
def StT.keep (m:Nat) (s:StT S):StT S:={ s with base:=s.base.filt m 1 0 }
def StT.keepX (F:FI) (id:Nat) (s:StT S):StT S:=match F.xm.find? fun p=>Nat.beq p.1 id with
  | some p=>s.keep p.2
  | none=>s
def Code.kid:Code→Nat→Option Code
  | .seq x _,0=>some x
  | .seq _ y,1=>some y
  | .cond _ x _,0=>some x
  | .cond _ _ y,1=>some y
  | .block _ c,0=>some c
  | .loop c,0=>some c
  | .scope c,0=>some c
  | .rangeFunc _ _ a _,0=>some a
  | .rangeFunc _ _ _ b,1=>some b
  | _,_=>none
def Code.sub (c:Code):List Nat→Option Code
  | []=>some c
  | i::p=>(Code.sub c p).bind fun d=>Code.kid d i
structure Key where
  path:List Nat
  fid:Nat
  rnd:Option Nat
  pos:List Nat
  bid:Nat
  n0:Nat
abbrev Z2t (S:Nat→Type) (R:Type):=Key→StT S→(Ex→StT S→Option R)→Option R
def Z1h (X:Y9 S) (cs:Z3s S R) (ls:Z2t S R) (rnd:Option Nat) (fid:Nat) (F:FI) (callH callY:Z2k S R) (path:List Nat):List Nat→Nat→Code→StT S→(Ex→StT S→Option R)→Option R
  | _,_,.skip,s,k=>k .normal s
  | _,_,.region id ops draw,s,k=>Zax X cs callH callY (id::path) F.vmask F.nt ops draw s fun s=>k .normal s
  | pos,bid,.seq x y,s,k=>Z1h X cs ls rnd fid F callH callY path (0::pos) bid x s fun ex s=>match ex with
    | .normal=>Z1h X cs ls rnd fid F callH callY path (1::pos) bid y s k
    | _=>k ex s
  | pos,bid,.cond c x y,s,k=>(match ZM s.base.get c with
    | some (.bool t)=>bif t then Z1h X cs ls rnd fid F callH callY path (0::pos) bid x s k else Z1h X cs ls rnd fid F callH callY path (1::pos) bid y s k
    | _=>none)
  | pos,_,.block id c,s,k=>Z1h X cs ls rnd fid F callH callY path (0::pos) id c s fun ex s=>match ex with
    | .exit i=>bif Nat.beq i id then k .normal s else k ex s
    | _=>k ex s
  | pos,bid,.loop _,s,k=>(F.hints.find? fun h=>Nat.beq h.bid bid).bind fun hint=>(Zdu X hint s.next s).bind fun s1=>ls ⟨path,fid,rnd,0::pos,bid,s.next⟩ s1 k
  | _,_,.exit id,s,k=>k (.exit id) (s.keepX F id)
  | pos,bid,.scope c,s,k=>Z1h X cs ls rnd fid F callH callY path (0::pos) bid c s k
  | _,_,.label _,s,k=>k .normal s
  | _,_,.ret,s,k=>k .ret (s.keep F.rm)
  | pos,bid,.rangeFunc f ps assign body,s0,k=>bif Zbn rnd s0.objs.get then Option.bind (match (F.hints.find? fun h=>Nat.beq h.bid bid:Option Z3I) with
      | some hint=>(YR X s0.next 0 hint.accs (s0.base,s0.objs)).bind fun r=>some (StT.mk r.1 r.2 (s0.next+hint.accs.length))
      | none=>some s0) fun (s:StT S)=>(ZM s.base.get f).bind fun fv=>(match fv with
    | .fn (.func g) first caps =>
      callH (bid::path) g (first++[.yld s.next]++caps) (s.objs.set s.next (some (.loop fid s.base ps.toList assign body bid .normal (bid::path) pos))) (s.next+1) fun _ objs next =>
        (match objs.get s.next with
        | some (.loop _ _ _ _ _ _ ex _ _)=>(match ex with | .busy=>none|_=>k ex { s with objs:=objs.set s.next none,next:=next })
        | _=>none)
    | _=>none) else none
  | _,_,_,_,_=>none
def ZcM (X:Y9 S) (base:Nat→Option (TV S)) (h:Nat→Option (Zi S)) (rs:List ResultVar) (k:List (TV S)→Option R):Option R:=match rs with
  | []=>k []
  | .tmp t::rs=>(base t).bind fun v=>ZcM X base h rs fun vs=>k (v::vs)
  | .cell a t::rs=>(X.E.ty t).bind fun ti=>(base a).bind fun a=>Zdr X ti h a fun o=>o.val.bind fun v=>ZcM X base h rs fun vs=>k (v::vs)
def Z4A:List (TV S)→TV S
  | [v]=>v
  | vs => .tup vs
def Z1g (V:Nat):Nat→List (TV S)→Tr (TV S)→Tr (TV S)
  | _,[],b=>b
  | k,v::vs,b=>Z1g V (k+1) vs (bif Nat.testBit V k then b.set k (some v) else b)
def Z1r (V nt:Nat):List Nat→List (TV S)→Tr (TV S)→Option (Tr (TV S))
  | [],[],b=>some b
  | p::ps,v::vs,b=>bif Nat.blt p nt then Z1r V nt ps vs (bif Nat.testBit V p then b.set p (some v) else b) else none
  | _,_,_=>none
mutual
def rnT (f:Nat→Nat):TV S→TV S
  | .ptr i o => .ptr (f i) o
  | .ap i b j e o => .ap (f i) b j e o
  | .rptr i v j e o => .rptr (f i) v j e o
  | .rs i v => .rs (f i) v
  | .agg cs => .agg (Z6o f cs)
  | .tup cs => .tup (Z6o f cs)
  | .fn g a c => .fn g (Z6o f a) (Z6o f c)
  | .map i => .map (f i)
  | .iface t v => .iface t (rnT f v)
  | .iter i => .iter (f i)
  | .yld i => .yld (f i)
  | .earr ts p n a => .earr ts (f p) n a
  | .narr ts n => .narr ts n
  | .bool b => .bool b
  | .int k n => .int k n
  | .str s => .str s
  | .nilp => .nilp
  | .pub cs => .pub cs
  | .nils => .nils
  | .sl0 => .sl0
  | .sl t xs => .sl t xs
  | .arr t n a => .arr t n a
  | .stc i x => .stc i x
  | .nilfn => .nilfn
  | .nilmap => .nilmap
  | .nilif => .nilif
def Z6o (f:Nat→Nat):List (TV S)→List (TV S)
  | []=>[]
  | c::cs=>rnT f c::Z6o f cs
end
mutual
def Zap (p:Nat→Bool):TV S→Bool
  | .ptr i _ | .ap i _ _ _ _ | .rptr i _ _ _ _ | .rs i _ | .map i | .iter i | .yld i=>p i
  | .agg cs=>Z4y p cs
  | .tup cs=>Z4y p cs
  | .fn _ a b=>Z4y p a&&Z4y p b
  | .iface _ v=>Zap p v
  | .earr _ i _ _=>p i
  | _=>true
def Z4y (p:Nat→Bool):List (TV S)→Bool
  | []=>true
  | c::cs=>Zap p c&&Z4y p cs
end
def ZcO (f:Nat→Nat):Zi S→Zi S
  | .cells t cs => .cells t (Z6o f cs)
  | .loop fid b ps as bo bid ex pa po => .loop fid (b.mapv (rnT f)) ps as bo bid ex pa po
  | .row e t xs p u => .row e t xs p u
  | .map k e m => .map k e m
  | .siter s pos => .siter s pos
def Zh3 (p:Nat→Bool):Zi S→Bool
  | .cells _ cs=>Z4y p cs
  | .loop _ b _ _ _ _ _ _ _=>b.allV (Zap p)
  | _=>true
def Zfa (p:Nat→Bool) (h:Nat→Option (Zi S)):List Nat→Bool
  | []=>true
  | i::is=>(match h i with|some o=>Zh3 p o|none=>true)&&Zfa p h is
def Z5h (f:Nat→Nat) (h:Nat→Option (Zi S)):List Nat→Tr (Zi S)
  | [] => .leaf
  | i::is=>(Z5h f h is).set (f i) ((h i).map (ZcO f))
def Z6W (f:Nat→Nat) (h:Nat→Option (Zi S)):List Nat→List (Nat×Option (Zi S))
  | []=>[]
  | i::is=>(f i,(h i).map (ZcO f))::Z6W f h is
def Zdf (k:Nat) (v:TV S) (o:Tr (Zi S)) (kk:TV S→Tr (Zi S)→Nat→Option R):Option R :=
  sNs (geN k (Z1P o.get 4096 (Z2g v++upN 0 k) [])) fun Rs =>
    bif Z91 Rs&&(Zap (fun j=>Nat.blt j k||Z3o j Rs) v&&Zfa (fun j=>Nat.blt j k||Z3o j Rs) o.get (upN 0 k++Rs)) then
      sV (rnT (Z27 k Rs) v) fun v=>sTr sO (Z5h (Z27 k Rs) o.get (upN 0 k++Rs)) fun o=>sN (k+Z29 Rs) fun n=>kk v o n
    else none
def Zcl (cs:Z3s S R) (g:Nat) (as:List (TV S)) (o:Tr (Zi S)) (nx:Nat) (k:TV S→Tr (Zi S)→Nat→Option R):Option R :=
  sVs (as.map fun d=>(YD o.get d).getD d) fun fs=>sTr sO (Z4c o (Z5l o.get (Yi as))) fun o1=>sNs (Z1P o1.get 4096 (Z2v fs) []) fun Rs=>sN (Z29 Rs) fun n0 =>
    bif Z91 Rs&&(Z4y (fun i=>Z3o i Rs) fs&&Zfa (fun i=>Z3o i Rs) o1.get Rs) then
      sVs (Z6o (Z49 Rs) fs) fun fs=>sTr sO (Z5h (Z49 Rs) o1.get Rs) fun s =>
      cs.pr g fs s n0 fun v os n=>sV (rnT (ZD n0 nx Rs) v) fun v=>sTr sO (Z4c o1 (Z6W (ZD n0 nx Rs) os.get (upN 0 n))) fun o2=>sN (nx+(n-n0)) fun nx2=>k v o2 nx2
    else none
def ZeW:Ex→Bool
  | .busy=>true
  | _=>false
def xK (X:Y9 S) (cs:Z3s S R) (ls:Z2t S R):Nat→Bool→Z2k S R
  | 0,_,_,_,_,_,_,_=>none
  | n+1,false,path,f,args,objs,next,k =>
    (X.E.fn f).bind fun F=>bif F.can then Zcl cs f args objs next k else bif Nat.ble args.length F.nt then
      Z1h X cs ls none f F (xK X cs ls n false) (xK X cs ls n true) (f::path) [] 0 F.body ⟨Z1g F.vmask 0 args .leaf,objs,next⟩ fun ex s =>
        match ex with
        | .exit _ | .busy=>none
        | _=>ZcM X s.base.get s.objs.get F.nres fun vs=>k (Z4A vs) s.objs s.next
      else none
  | n+1,true,path,l,args,objs,next,k=>(match objs.get l with
    | some (.loop fid base ps assign body bid .normal pa po)=>(X.E.fn fid).bind fun F=>(Z1r F.vmask F.nt ps args base).bind fun b =>
        Z1h X cs ls (some l) fid F (xK X cs ls n false) (xK X cs ls n true) (l::path) (0::po) bid assign ⟨b,objs,next⟩ fun ex s=>(match ex,s.objs.get l with
        | .normal,some (.loop fid2 base2 ps2 assign2 body2 bid2 .normal pa2 po2)=>Z1h X cs ls (some l) fid F (xK X cs ls n false) (xK X cs ls n true) (l::path) (1::po) bid body { s with objs:=s.objs.set l (some (.loop fid2 base2 ps2 assign2 body2 bid2 .busy pa2 po2)) } fun ex s=>(match s.objs.get l with
          | some (.loop fid3 base3 ps3 assign3 body3 bid3 .busy pa3 po3)=>bif ZeW ex then none else k (.bool (match ex with | .normal=>true|_=>false)) (s.objs.set l (some (.loop fid3 base3 ps3 assign3 body3 bid3 ex pa3 po3))) s.next
          | _=>none)
        | _,_=>none)
    | _=>none)
end ops
end
end Go.Ab
namespace Go.Ab
def plain:DV→Bool
  | .bool _ | .int _ _ | .str _ | .sl _=>true
  | _=>false
variable {S:Nat→Type}
structure TOk (T:TS S):Prop where
  cells:∀ i x,dvs T (T.cells i x)=T.dcells i x
  len:∀ i x,(T.dcells i x).length=T.size i
  rd:∀ i cs x r,T.rd i cs=some (x,r)→dvs T cs=T.dcells i x++dvs T r
  plain:∀ i x,(T.dcells i x).all plain=true
  seq:∀ i e,T.seq i=some e→∀ x y,Zg (T.dcells i x) (T.dcells i y)=some (e x y)
structure XOk (X:Y9 S):Prop where
  t:TOk X.T
  zero:∀ t z ti,X.zero t=some z→X.E.ty t=some ti→dvs X.T z=ti.zero
  code:∀ t c ti,X.code t=some c→X.E.ty t=some ti→ti.size=tsz X.T c∧ti.isAgg=YM c
def Y0 (T:TS S):TV S→List DV
  | .arr t n a=>acl T t n a
  | .stc i x=>T.dcells i x
  | .earr ts pid n a=>eal ts pid n a
  | .narr _ n=>List.replicate n .nilif
  | c=>[dv T c]
theorem Zv (T:TS S) (c:TV S) (cs:List (TV S)):dvs T (c::cs)=Y0 T c++dvs T cs:=by
  cases c<;>simp [dvs,Y0]
theorem Z7C (T:TS S):dvs T []=[]:=by simp [dvs]
theorem Z1K (T:TS S):∀ (a b:List (TV S)),dvs T (a++b)=dvs T a++dvs T b
  | [],b=>by simp [dvs]
  | c::a,b=>by rw [List.cons_append,Zv,Zv,Z1K T a b,List.append_assoc]
theorem Z5s (T:TS S):∀ (a b:List (TV S)),dvl T (a++b)=dvl T a++dvl T b
  | [],b=>by simp [dvl]
  | c::a,b=>by simp only [List.cons_append,dvl,Z5s T a b]
theorem Z4Q (T:TS S):∀ (a:List (TV S)),dvl T a=a.map (dv T)
  | []=>by simp [dvl]
  | c::a=>by simp only [List.map_cons,dvl,Z4Q T a]
section
variable {T:TS S} (hT:TOk T)
include hT
theorem Y7:∀ (t:Ty) (x:Val S t),(dcl T t x).length=tsz T t
  | .bool,_=>rfl
  | .int _,_=>rfl
  | .str,_=>rfl
  | .sl _,_=>by simp [dcl,tsz]
  | .st i,x=>hT.len i x
  | .arr n t,a=>by
    simp only [dcl,tsz,List.length_flatMap]
    have:(List.map (fun j=>(dcl T t (a j)).length) (List.range n))=List.map (fun _=>tsz T t) (List.range n):=List.map_congr_left fun j _=>Y7 t (a j)
    rw [this,List.map_const',List.sum_replicate_nat,List.length_range]
theorem Z2J:∀ (t:Ty) (x:Val S t),(dcl T t x).all plain=true
  | .bool,_=>rfl
  | .int _,_=>rfl
  | .str,_=>rfl
  | .sl _,_=>by simp [dcl,plain]
  | .st i,x=>hT.plain i x
  | .arr n t,a=>by
    rw [List.all_eq_true]
    intro c hc
    simp only [dcl,List.mem_flatMap] at hc
    obtain ⟨j,_,hc⟩:=hc
    exact List.all_eq_true.1 (Z2J t (a j)) c hc
theorem YT (t:Ty) (n:Nat) (a:Nat→Val S t):(acl T t n a).length=n*tsz T t:=Y7 hT (.arr n t) a
theorem Yj (t:Ty) (n:Nat) (a:Nat→Val S t):(acl T t n a).all plain=true:=Z2J hT (.arr n t) a
theorem Z2F:∀ (t:Ty) (x:Val S t),dvs T (tcl T t x)=dcl T t x
  | .bool,_=>by simp [tcl,dvs,dv,dcl]
  | .int _,_=>by simp [tcl,dvs,dv,dcl]
  | .str,_=>by simp [tcl,dvs,dv,dcl]
  | .sl _,_=>by simp [tcl,dvs,dv,dcl]
  | .st i,x=>by simp only [tcl,dvs,List.append_nil,dcl]
  | .arr n t,a=>by simp only [tcl,dvs,List.append_nil];rfl
theorem Z1B:∀ (t:Ty) (x:Val S t),dv T (Z74 T t x)=YC T t x
  | .bool,_=>by simp [Z74,dv,YC]
  | .int _,_=>by simp [Z74,dv,YC]
  | .str,_=>by simp [Z74,dv,YC]
  | .sl _,_=>by simp [Z74,dv,YC]
  | .st i,x=>by simp only [Z74,dv,YC,dvs,List.append_nil]
  | .arr n t,a=>by simp [Z74,dv,YC,dvs]
theorem Z2I (c:TV S):(Y0 T c).length=wd T c:=by
  cases c<;>simp [Y0,wd]
  · rename_i t n a
    exact YT hT t n a
  · rename_i i x
    exact hT.len i x
  · simp [eal]
theorem ZX:∀ (cs:List (TV S)),(dvs T cs).length=wds T cs
  | []=>by simp [dvs,wds]
  | c::cs=>by rw [Zv,List.length_append,Z2I hT c,ZX cs,wds]
theorem Z54 (i:Nat) (x:S i) (r:List (TV S)):dvs T (T.cells i x++r)=dvs T (.stc i x::r):=by
  rw [Z1K,hT.cells];simp [dvs]
theorem Zgj (i:Nat) (x:S i) (r:List (TV S)):wds T (T.cells i x++r)=wds T (.stc i x::r):=by
  rw [←ZX hT,←ZX hT,Z54 hT]
theorem Z6E:∀ (f:Nat) {cs r:List (TV S)} {n:Nat},Z9o T f cs n=some r→wds T cs=n+wds T r∧(dvs T cs).drop n=dvs T r
  | 0,_,_,_,h=>by cases h
  | f+1,[],r,n,h=>by
    simp only [Z9o] at h
    obtain ⟨h1,h⟩:=Z2 h
    cases h
    have:=Nat.eq_of_beq_eq_true h1
    subst this
    simp [wds,dvs]
  | f+1,c::cs,r,n,h=>by
    simp only [Z9o] at h
    cases h0:Nat.beq n 0 with
    | true =>
      rw [h0] at h;cases h
      have:=Nat.eq_of_beq_eq_true h0
      subst this;simp
    | false =>
      rw [h0] at h
      simp only [cond_false] at h
      cases h1:Nat.ble (wd T c) n with
      | true =>
        rw [h1] at h
        simp only [cond_true] at h
        obtain ⟨h2,h3⟩:=Z6E f h
        have h1:=Nat.le_of_ble_eq_true h1
        refine ⟨by rw [wds];omega,?_⟩
        rw [Zv,←h3,List.drop_append,Z2I hT c,List.drop_eq_nil_of_le (by rw [Z2I hT c];exact h1),List.nil_append]
      | false =>
        rw [h1] at h
        simp only [cond_false] at h
        split at h
        · rename_i i x
          obtain ⟨h2,h3⟩:=Z6E f h
          rw [Zgj hT] at h2
          rw [Z54 hT] at h3
          exact ⟨h2,h3⟩
        · cases h
theorem Z1t {cs r:List (TV S)} {n:Nat} (h:Z83 T cs n=some r):wds T cs=n+wds T r∧(dvs T cs).drop n=dvs T r:=Z6E hT 400 h
theorem Z73:∀ (f:Nat) {cs r:List (TV S)} {n:Nat},Z9R T f cs n=some r→wds T r=n∧(dvs T cs).take n=dvs T r
  | 0,_,_,_,h=>by cases h
  | f+1,[],r,n,h=>by
    simp only [Z9R] at h
    obtain ⟨h1,h⟩:=Z2 h
    cases h
    have:=Nat.eq_of_beq_eq_true h1
    subst this
    simp [wds,dvs]
  | f+1,c::cs,r,n,h=>by
    simp only [Z9R] at h
    cases h0:Nat.beq n 0 with
    | true =>
      rw [h0] at h;cases h
      have:=Nat.eq_of_beq_eq_true h0
      subst this;simp [wds,dvs]
    | false =>
      rw [h0] at h
      simp only [cond_false] at h
      cases h1:Nat.ble (wd T c) n with
      | true =>
        rw [h1] at h
        simp only [cond_true] at h
        obtain ⟨r',h2,h⟩:=Z0 h
        cases h
        obtain ⟨h3,h4⟩:=Z73 f h2
        have h1:=Nat.le_of_ble_eq_true h1
        refine ⟨by rw [wds];omega,?_⟩
        rw [Zv,Zv,←h4,List.take_append,Z2I hT c,List.take_of_length_le (by rw [Z2I hT c];exact h1)]
      | false =>
        rw [h1] at h
        simp only [cond_false] at h
        split at h
        · rename_i i x
          obtain ⟨h2,h3⟩:=Z73 f h
          rw [Z54 hT] at h3
          exact ⟨h2,h3⟩
        · cases h
theorem Z9S {cs r:List (TV S)} {n:Nat} (h:Zfw T cs n=some r):wds T r=n∧(dvs T cs).take n=dvs T r:=Z73 hT 400 h
theorem Z2y:∀ (n:Nat) (cs:List (TV S)),dvs T (hdF T n cs)=dvs T cs
  | 0,cs=>by cases cs with
    | nil=>rfl
    | cons c cs=>cases c<;>rfl
  | n+1,[]=>rfl
  | n+1,c::cs=>by
    cases c<;>first|rfl|skip
    simp only [hdF]
    rw [Z2y n,Z54 hT]
theorem Z23:∀ (n:Nat) (cs:List (TV S)),dvs T (xpF T n cs)=dvs T cs
  | 0,cs=>by cases cs with
    | nil=>rfl
    | cons c cs=>cases c<;>rfl
  | n+1,[]=>rfl
  | n+1,c::cs=>by
    by_cases hc:∃ i x,c = .stc i x
    · obtain ⟨i,x,rfl⟩:=hc
      simp only [xpF]
      rw [Z23 n,Z54 hT]
    · have:xpF T (n+1) (c::cs)=c::xpF T n cs:=by
        cases c<;>first|rfl|exact absurd ⟨_,_,rfl⟩ hc
      rw [this,Zv,Zv,Z23 n]
omit hT in
theorem YN:∀ (cs:List DV) (off:Nat) (vs:List DV),off+vs.length≤cs.length→Y5 cs off vs=cs.take off++vs++cs.drop (off+vs.length)
  | cs,off,[],_=>by
    cases cs<;>simp [Y5]
  | [],off,v::vs,h=>by simp at h
  | c::cs,0,v::vs,h=>by
    simp only [Y5,List.take_zero,List.nil_append,List.cons_append,Nat.zero_add,List.length_cons,List.drop_succ_cons]
    rw [YN cs 0 vs (by simp at h;omega)]
    simp
  | c::cs,n+1,v::vs,h=>by
    simp only [Y5,List.take_succ_cons,List.cons_append]
    rw [YN cs n (v::vs) (by simp at h ⊢;omega)]
    rw [show n+1+(v::vs).length=(n+(v::vs).length)+1 by omega,List.drop_succ_cons]
theorem Z16 {cs vs r:List (TV S)} {off:Nat} (h:Z2E T cs off vs=some r):off+wds T vs≤wds T cs∧Y5 (dvs T cs) off (dvs T vs)=dvs T r:=by
  unfold Z2E at h
  obtain ⟨a,h1,h⟩:=Z0 h
  obtain ⟨b,h2,h⟩:=Z0 h
  cases h
  obtain ⟨h3,h4⟩:=Z9S hT h1
  obtain ⟨h5,h6⟩:=Z1t hT h2
  refine ⟨by omega,?_⟩
  rw [YN _ _ _ (by rw [ZX hT,ZX hT];omega),Z1K,Z1K,←h4,←h6,ZX hT vs]
omit hT in
theorem Yp (v:TV S):cellsOf (dv T v)=dvs T (Y4 v):=by
  cases v<;>simp [dv,cellsOf,Y4,dvs]
theorem Z3y {ti:TI} {cs:List (TV S)} {off:Nat} {v:TV S} (h:Z8y T ti cs off=some v):Yy ti (dvs T cs) off=some (dv T v)∧ZP v=false:=by
  unfold Z8y at h
  obtain ⟨r,h1,h⟩:=Z0 h
  obtain ⟨h2,h3⟩:=Z1t hT h1
  unfold Yy
  cases ha:ti.isAgg with
  | true =>
    rw [ha] at h
    simp only [cond_true] at h ⊢
    obtain ⟨p,h4,h⟩:=Z0 h
    cases h
    obtain ⟨h5,h6⟩:=Z9S hT h4
    have hle:ti.size≤wds T r:=by
      have:=congrArg List.length h6
      rw [List.length_take,ZX hT,ZX hT] at this
      omega
    have:Nat.ble (off+ti.size) (dvs T cs).length=true:=by rw [Nat.ble_eq,ZX hT];omega
    rw [this,h3,h6]
    simp [dv,ZP]
  | false =>
    rw [ha] at h
    simp only [cond_false] at h ⊢
    rw [←Z2y hT 10 r] at h3
    cases hr:hdF T 10 r with
    | nil=>rw [hr] at h;cases h
    | cons c r =>
      rw [hr] at h h3
      simp only at h
      cases hc:ZP c with
      | true=>rw [hc] at h;cases h
      | false =>
        rw [hc] at h;cases h
        refine ⟨?_,hc⟩
        have:(dvs T cs)[off]? = (List.drop off (dvs T cs))[0]? := by simp
        rw [this,h3,Zv]
        cases v<;>simp [Y0,ZP] at hc ⊢
omit hT in
theorem Z1H {t:Ty} {cs r:List (TV S)} {x:List (Val S t)} (h:Z7y t cs=some (x,r)):dvs T cs = .sl (x.map (dcl T t))::dvs T r:=by
  unfold Z7y at h
  cases cs with
  | nil=>cases h
  | cons c cs =>
    simp only at h
    obtain ⟨xs,h1,h⟩:=Z0 h
    cases h
    unfold Zgx at h1
    split at h1
    · cases h1;simp [dvs,dv]
    · split at h1
      · rename_i e;subst e;cases h1;simp [dvs,dv]
      · cases h1
    · cases h1
omit hT in
theorem Z8C {cs r:List (TV S)} {x:Bool} (h:Z5I cs=some (x,r)):dvs T cs=[.bool x]++dvs T r:=by
  unfold Z5I at h
  split at h
  · cases h;simp [dvs,dv]
  · cases h
omit hT in
theorem ZU {k:IntKind} {cs r:List (TV S)} {x:Int} (h:YU k cs=some (x,r)):dvs T cs=[.int k x]++dvs T r:=by
  unfold YU at h
  split at h
  · obtain ⟨h1,h⟩:=Z2 h
    cases h
    have:=eq_of_beq h1
    subst this
    simp [dvs,dv]
  · cases h
omit hT in
theorem Z4Z {cs r:List (TV S)} {x:ByteArray} (h:Z6i cs=some (x,r)):dvs T cs=[.str x]++dvs T r:=by
  unfold Z6i at h
  split at h
  · cases h;simp [dvs,dv]
  · cases h
omit hT in
theorem Zef {n:Nat} {t:Ty} {cs r:List (TV S)} {x:Nat→Val S t} (h:ZbG n t cs=some (x,r)):dvs T cs=acl T t n x++dvs T r:=by
  unfold ZbG at h
  split at h
  · split at h
    · rename_i e
      obtain ⟨h1,h⟩:=Z2 h
      cases h
      have:=Nat.eq_of_beq_eq_true h1
      subst this e
      rw [Zv];rfl
    · cases h
  · cases h
omit hT in
theorem Z7O {T0:TS S} (hc:∀ i (x:S i),dvs T (T0.cells i x)=T.dcells i x) (i:Nat):∀ (n:Nat) (cs:List (TV S)),dvs T (Z1f T0 i n cs)=dvs T cs
  | 0,cs=>by cases cs with
    | nil=>rfl
    | cons c cs=>cases c<;>rfl
  | n+1,[]=>rfl
  | n+1,c::cs=>by
    cases c<;>first|rfl|skip
    rename_i j x
    simp only [Z1f]
    cases Nat.beq j i with
    | true=>rfl
    | false=>simp only [cond_false];rw [Z7O hc i n,Z1K,hc];rfl
theorem Z9j (i:Nat):∀ (n:Nat) (cs:List (TV S)),dvs T (Z1f T i n cs)=dvs T cs
  | 0,cs=>by cases cs with
    | nil=>rfl
    | cons c cs=>cases c<;>rfl
  | n+1,[]=>rfl
  | n+1,c::cs=>by
    cases c<;>first|rfl|skip
    rename_i j x
    simp only [Z1f]
    cases Nat.beq j i with
    | true=>rfl
    | false=>simp only [cond_false];rw [Z9j i n,Z54 hT]
omit hT in
theorem YV {i:Nat} {f:List (TV S)→Option (S i×List (TV S))} (hf:∀ cs x r,f cs=some (x,r)→dvs T cs=T.dcells i x++dvs T r) {cs r:List (TV S)} {x:S i} (h:rdW i f cs=some (x,r)):dvs T cs=T.dcells i x++dvs T r:=by
  unfold rdW at h
  split at h
  · split at h
    · rename_i e;subst e;cases h;simp [dvs]
    · cases h
  · exact hf _ _ _ h
theorem Zgl {t:Ty} {cs r:List (TV S)} {x:Val S t} (h:trd T t cs=some (x,r)):dvs T cs=dcl T t x++dvs T r:=by
  cases t with
  | bool =>
    simp only [trd,Z5I] at h
    split at h
    · cases h;simp [dvs,dv,dcl]
    · cases h
  | int k =>
    simp only [trd,YU] at h
    split at h
    · obtain ⟨h1,h⟩:=Z2 h
      cases h
      have:=eq_of_beq h1
      subst this
      simp [dvs,dv,dcl]
    · cases h
  | str =>
    simp only [trd,Z6i] at h
    split at h
    · cases h;simp [dvs,dv,dcl]
    · cases h
  | sl t =>
    simp only [trd] at h
    rw [Z1H h];rfl
  | arr n t =>
    simp only [trd,ZbG] at h
    split at h
    · split at h
      · rename_i e
        obtain ⟨h1,h⟩:=Z2 h
        cases h
        have:=Nat.eq_of_beq_eq_true h1
        subst this e
        rw [Zv];rfl
      · cases h
    · cases h
  | st i =>
    simp only [trd] at h
    rw [←Z9j hT i 6 cs,YV (fun _ _ _ h=>hT.rd i _ _ _ h) h];rfl
theorem Z2i {t:Ty} {cs:List (TV S)} {x:Val S t} (h:Z6w T t cs=some x):dvs T cs=dcl T t x:=by
  unfold Z6w at h
  obtain ⟨⟨x',r⟩,h1,h⟩:=Z0 h
  cases r with
  | nil =>
    cases h
    have:=Zgl hT h1
    rw [this,Z7C,List.append_nil]
  | cons c r=>cases h
omit hT in
theorem Z81 {t:Ty} (x:Val S t) (h:YM t=false):dcl T t x=[YC T t x]:=by
  cases t<;>first|rfl|cases h
theorem Z35 {t:Ty} {v:TV S} {x:Val S t} (h:Z5n T t v=some x):dv T v=YC T t x:=by
  have ZcR:∀ (c:TV S),YM t=false→Z6w T t [c]=some x→dvs T [c]=[dv T c]→dv T c=YC T t x:=fun c ha hd hc=>by
    have h2:=Z2i hT hd
    rw [hc,Z81 x ha] at h2
    exact List.cons.inj h2 |>.1
  by_cases hag:∃ cs,v = .agg cs
  · obtain ⟨cs,rfl⟩:=hag
    simp only [Z5n] at h
    obtain ⟨h1,h⟩:=Z2 h
    have h2:=Z2i hT h
    cases t<;>simp only [YM,Bool.false_eq_true] at h1
    · simp only [dv,YC,h2];rfl
    · simp only [dv,YC,h2];rfl
  · have hd:(bif YM t then none else Z6w T t [v])=some x:=by
      unfold Z5n at h
      split at h
      · rename_i cs;exact absurd ⟨cs,rfl⟩ hag
      · exact h
    cases ha:YM t with
    | true=>rw [ha] at hd;cases hd
    | false =>
      rw [ha] at hd
      simp only [cond_false] at hd
      by_cases hr:ZP v=true
      · exfalso
        cases v<;>simp only [ZP,Bool.false_eq_true] at hr
        all_goals
          unfold Z6w at hd
          obtain ⟨q,h1,_⟩:=Z0 hd
          cases t<;>simp [YM] at ha<;>simp [trd,Z5I,YU,Z6i,Z7y,Zgx] at h1
      · refine ZcR v ha hd ?_
        rw [Zv,Z7C,List.append_nil]
        cases v<;>simp [Y0,ZP] at hr ⊢
theorem ZeA {v r:TV S} {n:Nat} (h:Zez T v n=some r):Z19 (dv T v) n=some (dv T r):=by
  cases v<;>simp only [Zez,reduceCtorEq] at h
  · cases h;simp [dv,Z19]
  · cases h;simp [dv,Z19];omega
  · cases h;simp [dv,Z19]
  · obtain ⟨q,h1,h⟩:=Z0 h
    cases h
    simp only [dv,Z19,(Z1t hT h1).2]
end
section
variable {T:TS S}
theorem ZcF {c:DV} (h:plain c=true):Zb c=true:=by cases c<;>simp [plain,Zb] at h ⊢
theorem Zea {c:DV} (n:Nat) (h:plain c=true):bdd n c=true:=by cases c<;>simp [plain,bdd] at h ⊢
theorem Zeb {c:DV} (hh:Nat→Option Z8) (h:plain c=true):frz hh c=some c:=by cases c<;>simp [plain,frz,Zb] at h ⊢
theorem ZcG {c:DV} (h:plain c=true):Ze c=[]:=by cases c<;>simp [plain,Ze] at h ⊢
theorem Zec {c:DV} (h:plain c=true):Zy c=[]:=by cases c<;>simp [plain,Zy] at h ⊢
theorem ZcE {c:DV} (h:plain c=true):Zz c=true:=by cases c<;>simp [plain,Zz] at h ⊢
theorem Zed {c:DV} (n:Nat) (L:List (Option (Nat×Nat))) (h:plain c=true):ren n L c=some c:=by cases c<;>simp [plain,ren,bdd] at h ⊢
theorem Z4p:∀ (a b:List DV),Za (a++b)=(Za a&&Za b)
  | [],b=>by simp [Za]
  | c::a,b=>by simp only [List.cons_append,Za,Z4p a b,Bool.and_assoc]
theorem Z78 (n:Nat):∀ (a b:List DV),Z1D n (a++b)=(Z1D n a&&Z1D n b)
  | [],b=>by simp [Z1D]
  | c::a,b=>by simp only [List.cons_append,Z1D,Z78 n a b,Bool.and_assoc]
theorem Z4J:∀ (a b:List DV),Zf (a++b)=Zf a++Zf b
  | [],b=>by simp [Zf]
  | c::a,b=>by simp only [List.cons_append,Zf,Z4J a b,List.append_assoc]
theorem Z5c:∀ (a b:List DV),ZC (a++b)=ZC a++ZC b
  | [],b=>by simp [ZC]
  | c::a,b=>by simp only [List.cons_append,ZC,Z5c a b,List.append_assoc]
theorem Z7h (h:Nat→Option Z8):∀ (a b:List DV),Z1o h (a++b)=(Z1o h a).bind fun x=>(Z1o h b).bind fun y=>some (x++y)
  | [],b=>by simp [Z1o]
  | c::a,b=>by
    simp only [List.cons_append,Z1o,Z7h h a b]
    cases frz h c with
    | none=>rfl
    | some c'=>cases Z1o h a with
      | none=>rfl
      | some a'=>cases Z1o h b<;>simp
theorem Z7n (n:Nat) (L:List (Option (Nat×Nat))):∀ (a b:List DV),Z2e n L (a++b)=(Z2e n L a).bind fun x=>(Z2e n L b).bind fun y=>some (x++y)
  | [],b=>by simp [Z2e]
  | c::a,b=>by
    simp only [List.cons_append,Z2e,Z7n n L a b]
    cases ren n L c with
    | none=>rfl
    | some c'=>cases Z2e n L a with
      | none=>rfl
      | some a'=>cases Z2e n L b<;>simp
theorem Z1z:∀ {cs:List DV},cs.all plain=true→Za cs=true
  | [],_=>rfl
  | c::cs,h=>by
    simp only [List.all_cons,Bool.and_eq_true] at h
    simp only [Za,ZcF h.1,Z1z h.2,Bool.and_self]
theorem Z5D (n:Nat):∀ {cs:List DV},cs.all plain=true→Z1D n cs=true
  | [],_=>rfl
  | c::cs,h=>by
    simp only [List.all_cons,Bool.and_eq_true] at h
    simp only [Z1D,Zea n h.1,Z5D n h.2,Bool.and_self]
theorem Z5E (hh:Nat→Option Z8):∀ {cs:List DV},cs.all plain=true→Z1o hh cs=some cs
  | [],_=>rfl
  | c::cs,h=>by
    simp only [List.all_cons,Bool.and_eq_true] at h
    simp [Z1o,Zeb hh h.1,Z5E hh h.2]
theorem Z4D:∀ {cs:List DV},cs.all plain=true→Zf cs=[]
  | [],_=>rfl
  | c::cs,h=>by
    simp only [List.all_cons,Bool.and_eq_true] at h
    simp [Zf,ZcG h.1,Z4D h.2]
theorem Z5F:∀ {cs:List DV},cs.all plain=true→ZC cs=[]
  | [],_=>rfl
  | c::cs,h=>by
    simp only [List.all_cons,Bool.and_eq_true] at h
    simp [ZC,Zec h.1,Z5F h.2]
theorem Z2c:∀ {cs:List DV},cs.all plain=true→cs.all Zz=true
  | [],_=>rfl
  | c::cs,h=>by
    simp only [List.all_cons,Bool.and_eq_true] at h
    simp [ZcE h.1,Z2c h.2]
theorem Z5G (n:Nat) (L:List (Option (Nat×Nat))):∀ {cs:List DV},cs.all plain=true→Z2e n L cs=some cs
  | [],_=>rfl
  | c::cs,h=>by
    simp only [List.all_cons,Bool.and_eq_true] at h
    simp [Z2e,Zed n L h.1,Z5G n L h.2]
end
def dvO (T:TS S):Zi S→Z8
  | .cells t cs => .cells t (dvs T cs)
  | .row e t xs p v => .row e (xs.map (dcl T t)) p v
  | .map kt et m => .map (m.map fun p=>(YC T kt p.1,YC T et p.2))
  | .siter s pos => .siter s pos
  | .loop fid b ps as bo bid ex _ _ => .loop fid (b.mapv (dv T)) ps as bo bid ex
end Go.Ab
namespace Go.Ab
variable {S:Nat→Type}
def dvr (T:TS S) (ρ:Nat→Option (TV S)):Nat→Option DV:=fun t=>(ρ t).map (dv T)
def dvh (T:TS S) (h:Nat→Option (Zi S)):Nat→Option Z8:=fun i=>(h i).map (dvO T)
def dvu (T:TS S) (u:List (Nat×Option (Zi S))):List (Nat×Option Z8):=u.map fun p=>(p.1,p.2.map (dvO T))
def Y6 (T:TS S) (o:Z9Z S):Out:=⟨o.val.map (dv T),dvu T o.upd⟩
theorem Y8 {α β:Type} (f:α→β):∀ (t:Tr α) (k:Nat),(t.mapv f).get k=(t.get k).map f
  | .leaf,k=>rfl
  | .node l v r,k=>by
    simp only [Tr.mapv,Tr.get]
    cases Nat.beq k 0 with
    | true=>rfl
    | false=>cases Nat.beq (k % 2) 1 with
      | true=>exact Y8 f l _
      | false=>exact Y8 f r _
theorem Z2a {α β:Type} (f:α→β) (v:Option α):∀ (n:Nat) (t:Tr α) (k:Nat),(Tr.setAux n t k v).mapv f=Tr.setAux n (t.mapv f) k (v.map f)
  | 0,t,k=>rfl
  | n+1,.leaf,k=>by
    simp only [Tr.setAux,Tr.mapv]
    cases Nat.beq k 0 with
    | true=>rfl
    | false=>cases Nat.beq (k % 2) 1 with
      | true=>simp only [cond_true,cond_false,Tr.mapv,Z2a f v n .leaf];rfl
      | false=>simp only [cond_false,Tr.mapv,Z2a f v n .leaf];rfl
  | n+1,.node l x r,k=>by
    simp only [Tr.setAux,Tr.mapv]
    cases Nat.beq k 0 with
    | true=>rfl
    | false=>cases Nat.beq (k % 2) 1 with
      | true=>simp only [cond_true,cond_false,Tr.mapv,Z2a f v n l]
      | false=>simp only [cond_false,Tr.mapv,Z2a f v n r]
theorem Yr {α β:Type} (f:α→β) (t:Tr α) (k:Nat) (v:Option α):(t.set k v).mapv f=(t.mapv f).set k (v.map f):=Z2a f v _ t k
theorem Zbv {α β:Type} (f:α→β) (l:Tr α) (v:Option α) (r:Tr α):(Tr.mkn l v r).mapv f=Tr.mkn (l.mapv f) (v.map f) (r.mapv f):=by
  unfold Tr.mkn
  cases l<;>cases v<;>cases r<;>rfl
theorem Z6K {α β:Type} (f:α→β) (m:Nat):∀ (t:Tr α) (a b:Nat),(t.filt m a b).mapv f=(t.mapv f).filt m a b
  | .leaf,a,b=>rfl
  | .node l v r,a,b=>by
    simp only [Tr.filt,Tr.mapv,Zbv,Z6K f m l,Z6K f m r]
    cases Nat.testBit m b<;>rfl
theorem Z6b {α β:Type} (f:α→β) (g:Nat→α→Option (Option α)) (g':Nat→β→Option (Option β)) (hg:∀ k x y,g k x=some y→g' k (f x)=some (y.map f)) :
    ∀ (t:Tr α) (a b:Nat) (r:Tr α),t.tm g a b=some r→(t.mapv f).tm g' a b=some (r.mapv f)
  | .leaf,a,b,r,h=>by simp only [Tr.tm,Option.some.injEq] at h;subst h;rfl
  | .node l v q,a,b,r,h=>by
    simp only [Tr.tm] at h
    obtain ⟨l',h1,h⟩:=Z0 h
    obtain ⟨v',h2,h⟩:=Z0 h
    obtain ⟨q',h3,h⟩:=Z0 h
    cases h
    simp only [Tr.mapv,Tr.tm,Z6b f g g' hg l _ _ _ h1,Z6b f g g' hg q _ _ _ h3,Option.bind_some,Zbv]
    cases v with
    | none=>cases h2;rfl
    | some x =>
      simp only [Option.map_some]
      rw [hg _ _ _ h2];rfl
section
variable (T:TS S)
theorem Zf9 (v:Value):Zdv v=(ZcC (S:=S) v).map (dv T):=by
  unfold Zdv ZcC
  split<;>simp [dv]
theorem ZG (ρ:Nat→Option (TV S)) (x:Operand):ZT (dvr T ρ) x=(ZM ρ x).map (dv T):=by
  cases x with
  | tmp t=>rfl
  | const v=>exact Zf9 T v
  | func f=>simp [ZT,ZM,dv,dvl]
  | global g=>rfl
theorem Z2X (ρ:Nat→Option (TV S)):∀ xs,Z1j (dvr T ρ) xs=(Z2r ρ xs).map (dvl T)
  | []=>by simp [Z1j,Z2r,dvl]
  | x::xs=>by
    simp only [Z1j,Z2r,ZG,Z2X ρ xs]
    cases ZM ρ x with
    | none=>rfl
    | some v=>cases Z2r ρ xs with
      | none=>rfl
      | some vs=>simp [dvl]
theorem ZgH (ρ:Nat→Option (TV S)) (x:Option Operand):Z1Y (dvr T ρ) x=(Zgb ρ x).map (Option.map (dv T)):=by
  cases x with
  | none=>rfl
  | some x =>
    simp only [Z1Y,Zgb,ZG]
    cases ZM ρ x<;>rfl
end
def Z4t (pid:Nat):DV→Bool
  | .nilif=>true
  | .iface _ (.agg [.ptr p 0])=>Nat.beq p pid
  | _=>false
theorem Zb6 (pid:Nat):∀ (ts:List TypeId) (m:Nat),Z4t pid (enD pid ts m)=true
  | ts,0=>by cases ts<;>rfl
  | [],m+1=>rfl
  | t::ts,1=>by simp [enD,Z4t]
  | t::ts,m+2=>by simp only [enD];exact Zb6 pid ts (m+1)
theorem Yq (ts:List TypeId) (pid n:Nat) (a:Nat→Nat):(eal ts pid n a).all (Z4t pid)=true:=by
  rw [List.all_eq_true]
  intro c hc
  obtain ⟨j,_,rfl⟩:=List.mem_map.1 hc
  exact Zb6 pid ts _
theorem Z15 (pid n:Nat):(List.replicate n DV.nilif).all (Z4t pid)=true:=by
  rw [List.all_eq_true]
  intro c hc
  rw [(List.mem_replicate.1 hc).2];rfl
theorem Z1p {pid:Nat} {d:DV} (h:Z4t pid d=true):d = .nilif∨∃ t,d = .iface t (.agg [.ptr pid 0]):=by
  unfold Z4t at h
  split at h
  · exact .inl rfl
  · rw [Nat.eq_of_beq_eq_true h];exact .inr ⟨_,rfl⟩
  · cases h
theorem Z5Y {pid:Nat}:∀ {l:List DV},l.all (Z4t pid)=true→Zf l=[]
  | [],_=>rfl
  | d::l,h=>by
    simp only [List.all_cons,Bool.and_eq_true] at h
    rcases Z1p h.1 with rfl|⟨t,rfl⟩<;>simp [Zf,Ze,Z5Y h.2]
theorem Z85 (h':Nat→Option Z8) {pid:Nat}:∀ {l:List DV},l.all (Z4t pid)=true→Z1o h' l=bif Za l then some l else none
  | [],_=>rfl
  | d::l,h=>by
    simp only [List.all_cons,Bool.and_eq_true] at h
    rcases Z1p h.1 with rfl|⟨t,rfl⟩
    · simp only [Z1o,frz,Zb,Za,cond_true,Option.bind_some,Z85 h' h.2,Bool.true_and]
      cases Za l<;>rfl
    · simp [Z1o,frz,Zb,Za]
theorem Z6m (n:Nat):Za (List.replicate n DV.nilif)=true:=by
  induction n with
  | zero=>rfl
  | succ n ih=>rw [List.replicate_succ];simp [Za,Zb,ih]
theorem ZdC (n:Nat):ZC (List.replicate n DV.nilif)=[]:=by
  induction n with
  | zero=>rfl
  | succ n ih=>rw [List.replicate_succ];simp [ZC,Zy,ih]
theorem Zcp (n:Nat) (L:List (Option (Nat×Nat))) {pid:Nat} (hp:Nat.blt pid n=true):∀ {l:List DV},l.all (Z4t pid)=true→Z2e n L l=some l
  | [],_=>rfl
  | d::l,h=>by
    simp only [List.all_cons,Bool.and_eq_true] at h
    rcases Z1p h.1 with rfl|⟨t,rfl⟩<;>simp [Z2e,ren,bdd,Z1D,hp,Zcp n L hp h.2]
theorem ZdD (n:Nat) (L:List (Option (Nat×Nat))) (m:Nat):Z2e n L (List.replicate m DV.nilif)=some (List.replicate m DV.nilif):=by
  induction m with
  | zero=>rfl
  | succ m ih=>rw [List.replicate_succ];simp [Z2e,ren,bdd,ih]
theorem ZeQ (n:Nat) {pid:Nat} (hp:Nat.blt pid n=true):∀ {l:List DV},l.all (Z4t pid)=true→Z1D n l=true
  | [],_=>rfl
  | d::l,h=>by
    simp only [List.all_cons,Bool.and_eq_true] at h
    rcases Z1p h.1 with rfl|⟨t,rfl⟩<;>simp [Z1D,bdd,hp,ZeQ n hp h.2]
theorem Zgf (n m:Nat):Z1D n (List.replicate m DV.nilif)=true:=by
  induction m with
  | zero=>rfl
  | succ m ih=>rw [List.replicate_succ];simp [Z1D,bdd,ih]
section
variable {T:TS S} (hT:TOk T)
include hT
mutual
theorem Z6G:∀ v:TV S,Zb (dv T v)=Zs v
  | .bool _=>rfl | .int _ _=>rfl | .str _=>rfl | .nilp=>rfl | .nils=>rfl
  | .sl0=>by simp [dv,Zb,Zs] | .sl _ _=>by simp [dv,Zb,Zs]
  | .arr _ _ _=>by simp [dv,Zb,Zs]
  | .stc _ _=>by simp [dv,Zb,Zs]
  | .narr _ _=>by simp [dv,Zb,Zs,Z6m]
  | .earr _ _ _ _=>by simp [dv,Zb,Zs]
  | .ptr _ _=>by simp [dv,Zb,Zs] | .ap _ _ _ _ _=>by simp [dv,Zb,Zs] | .rptr _ _ _ _ _=>by simp [dv,Zb,Zs]
  | .pub _=>by simp [dv,Zb,Zs]
  | .rs _ _=>by simp [dv,Zb,Zs] | .map _=>by simp [dv,Zb,Zs] | .iter _=>by simp [dv,Zb,Zs] | .yld _=>by simp [dv,Zb,Zs]
  | .nilfn=>by simp [dv,Zb,Zs] | .nilmap=>by simp [dv,Zb,Zs] | .nilif=>by simp [dv,Zb,Zs]
  | .agg cs=>by simp only [dv,Zb,Zs];exact Z4q cs
  | .tup cs=>by simp only [dv,Zb,Zs];exact Z1x cs
  | .fn _ a c=>by simp only [dv,Zb,Zs,Z1x a,Z1x c]
  | .iface _ v=>by simp only [dv,Zb,Zs];exact Z6G v
theorem Z4q:∀ cs:List (TV S),Za (dvs T cs)=Yw cs
  | []=>by simp [dvs,Za,Yw]
  | c::cs=>by
    rw [Zv,Z4p,Yw,Z4q cs]
    have h:=Z6G c
    cases c<;>simp only [Y0,Za,Bool.and_true]<;>first|rw [h]|skip
    · rw [Z1z (Yj hT _ _ _)];rfl
    · rw [Z1z (hT.plain _ _)];rfl
    · rfl
    · rw [Z6m];rfl
theorem Z1x:∀ cs:List (TV S),Za (dvl T cs)=Yw cs
  | []=>by simp [dvl,Za,Yw]
  | c::cs=>by simp only [dvl,Za,Yw,Z6G c,Z1x cs]
end
mutual
theorem Z2n (n:Nat):∀ v:TV S,Z99 n v=true→bdd n (dv T v)=true
  | .bool _,_=>rfl | .int _ _,_=>rfl | .str _,_=>rfl | .nilp,_=>rfl | .nils,_=>rfl
  | .sl0,_=>by simp [dv,bdd] | .sl _ _,_=>by simp [dv,bdd]
  | .arr _ _ _,_=>by simp [dv,bdd]
  | .stc _ _,_=>by simp [dv,bdd]
  | .narr _ _,_=>by simp only [dv,bdd];exact Zgf n _
  | .earr _ _ _ _,h=>by simp only [dv,bdd];exact ZeQ n h (Yq _ _ _ _)
  | .ptr _ _,h=>h | .ap _ _ _ _ _,h=>h | .rptr _ _ _ _ _,h=>h
  | .rs _ _,h=>h | .map _,h=>h | .iter _,h=>h | .yld _,h=>h
  | .nilfn,_=>by simp [dv,bdd] | .nilmap,_=>by simp [dv,bdd] | .nilif,_=>by simp [dv,bdd]
  | .pub cs,h=>by simp only [dv,bdd,Z99] at h ⊢;exact Z7U n cs h
  | .agg cs,h=>by simp only [dv,bdd,Z99] at h ⊢;exact Z7U n cs h
  | .tup cs,h=>by simp only [dv,bdd,Z99] at h ⊢;exact Z5R n cs h
  | .fn _ a c,h=>by
    simp only [dv,bdd,Z99,Bool.and_eq_true] at h ⊢
    exact ⟨Z5R n a h.1,Z5R n c h.2⟩
  | .iface _ v,h=>by simp only [dv,bdd,Z99] at h ⊢;exact Z2n n v h
theorem Z7U (n:Nat):∀ cs:List (TV S),Z58 n cs=true→Z1D n (dvs T cs)=true
  | [],_=>by simp [dvs,Z1D]
  | c::cs,h=>by
    simp only [Z58,Bool.and_eq_true] at h
    rw [Zv,Z78,Z7U n cs h.2,Bool.and_true]
    have hc:=Z2n n c h.1
    cases c<;>simp only [Y0,Z1D,Bool.and_true]<;>first|exact hc|skip
    · exact Z5D n (Yj hT _ _ _)
    · exact Z5D n (hT.plain _ _)
theorem Z5R (n:Nat):∀ cs:List (TV S),Z58 n cs=true→Z1D n (dvl T cs)=true
  | [],_=>by simp [dvl,Z1D]
  | c::cs,h=>by
    simp only [Z58,Bool.and_eq_true] at h
    simp only [dvl,Z1D,Z2n n c h.1,Z5R n cs h.2,Bool.and_self]
end
mutual
theorem Z6r:∀ v:TV S,Ze (dv T v)=Y3 v
  | .bool _=>rfl | .int _ _=>rfl | .str _=>rfl | .nilp=>rfl | .nils=>rfl
  | .sl0=>by simp [dv,Ze,Y3] | .sl _ _=>by simp [dv,Ze,Y3]
  | .arr _ _ _=>by simp [dv,Ze,Y3]
  | .stc _ _=>by simp [dv,Ze,Y3]
  | .narr _ _=>by simp only [dv,Ze,Y3];exact Z5Y (Z15 0 _)
  | .earr _ _ _ _=>by simp only [dv,Ze,Y3];exact Z5Y (Yq _ _ _ _)
  | .ptr _ _=>by simp [dv,Ze,Y3] | .ap _ _ _ _ _=>by simp [dv,Ze,Y3] | .rptr _ _ _ _ _=>by simp [dv,Ze,Y3]
  | .pub _=>by simp [dv,Ze,Y3]
  | .rs _ _=>by simp [dv,Ze,Y3] | .map _=>by simp [dv,Ze,Y3] | .iter _=>by simp [dv,Ze,Y3] | .yld _=>by simp [dv,Ze,Y3]
  | .nilfn=>by simp [dv,Ze,Y3] | .nilmap=>by simp [dv,Ze,Y3] | .nilif=>by simp [dv,Ze,Y3]
  | .agg cs=>by simp only [dv,Ze,Y3];exact ZbQ cs
  | .tup cs=>by simp only [dv,Ze,Y3];exact Z3E cs
  | .fn _ a c=>by simp [dv,Ze,Y3]
  | .iface _ v=>by simp only [dv,Ze,Y3];exact Z6r v
theorem ZbQ:∀ cs:List (TV S),Zf (dvs T cs)=Yi cs
  | []=>by simp [dvs,Zf,Yi]
  | c::cs=>by
    rw [Zv,Z4J,Yi,ZbQ cs]
    have h:=Z6r c
    cases c<;>simp only [Y0,Zf,List.append_nil]<;>first|rw [h]|skip
    · rw [Z4D (Yj hT _ _ _)];rfl
    · rw [Z4D (hT.plain _ _)];rfl
    · rw [Z5Y (Yq _ _ _ _)];rfl
    · rw [Z5Y (Z15 0 _)];rfl
theorem Z3E:∀ cs:List (TV S),Zf (dvl T cs)=Yi cs
  | []=>by simp [dvl,Zf,Yi]
  | c::cs=>by simp only [dvl,Zf,Yi,Z6r c,Z3E cs]
end
mutual
theorem Zai:∀ v:TV S,Zy (dv T v)=Z2p v
  | .bool _=>rfl | .int _ _=>rfl | .str _=>rfl | .nilp=>rfl | .nils=>rfl
  | .sl0=>by simp [dv,Zy,Z2p] | .sl _ _=>by simp [dv,Zy,Z2p]
  | .arr _ _ _=>by simp [dv,Zy,Z2p]
  | .stc _ _=>by simp [dv,Zy,Z2p]
  | .narr _ _=>by simp [dv,Zy,Z2p,ZdC]
  | .earr _ _ _ _=>by simp [dv,Zy,Z2p]
  | .ptr _ _=>by simp [dv,Zy,Z2p] | .ap _ _ _ _ _=>by simp [dv,Zy,Z2p] | .rptr _ _ _ _ _=>by simp [dv,Zy,Z2p]
  | .pub _=>by simp [dv,Zy,Z2p]
  | .rs _ _=>by simp [dv,Zy,Z2p] | .map _=>by simp [dv,Zy,Z2p] | .iter _=>by simp [dv,Zy,Z2p] | .yld _=>by simp [dv,Zy,Z2p]
  | .nilfn=>by simp [dv,Zy,Z2p] | .nilmap=>by simp [dv,Zy,Z2p] | .nilif=>by simp [dv,Zy,Z2p]
  | .agg cs=>by simp only [dv,Zy,Z2p];exact Zdl cs
  | .tup cs=>by simp only [dv,Zy,Z2p];exact Z7F cs
  | .fn _ a c=>by simp only [dv,Zy,Z2p,Z7F a,Z7F c]
  | .iface _ v=>by simp only [dv,Zy,Z2p];exact Zai v
theorem Zdl:∀ cs:List (TV S),ZC (dvs T cs)=Z4r cs
  | []=>by simp [dvs,ZC,Z4r]
  | c::cs=>by
    rw [Zv,Z5c,Z4r,Zdl cs]
    have h:=Zai c
    cases c<;>simp only [Y0,ZC,List.append_nil]<;>first|rw [h]|skip
    · rw [Z5F (Yj hT _ _ _)];rfl
    · rw [Z5F (hT.plain _ _)];rfl
    · rfl
    · rw [ZdC];rfl
theorem Z7F:∀ cs:List (TV S),ZC (dvl T cs)=Z4r cs
  | []=>by simp [dvl,ZC,Z4r]
  | c::cs=>by simp only [dvl,ZC,Z4r,Zai c,Z7F cs]
end
mutual
theorem Z8h (h:Nat→Option (Zi S)):∀ v:TV S,frz (dvh T h) (dv T v)=(YD h v).map (dv T)
  | .bool _=>by simp [dv,frz,YD,Zb,Zs] | .int _ _=>by simp [dv,frz,YD,Zb,Zs] | .str _=>by simp [dv,frz,YD,Zb,Zs]
  | .nilp=>by simp [dv,frz,YD,Zb,Zs] | .nils=>by simp [dv,frz,YD]
  | .sl0=>by simp [dv,frz,YD,Zb,Zs] | .sl _ _=>by simp [dv,frz,YD,Zb,Zs]
  | .arr _ _ _=>by simp [dv,frz,YD,Zb,Zs]
  | .stc _ _=>by simp [dv,frz,YD,Zb,Zs]
  | .narr _ _=>by simp [dv,frz,YD,Zs,Z85 _ (Z15 0 _),Z6m]
  | .earr ts pid n a=>by
    simp only [dv,frz,YD,Zs,Z85 _ (Yq _ _ _ _)]
    cases Za (eal ts pid n a)<;>simp [dv]
  | .ptr _ _=>by simp [dv,frz,YD,Zb,Zs] | .ap _ _ _ _ _=>by simp [dv,frz,YD,Zb,Zs] | .rptr _ _ _ _ _=>by simp [dv,frz,YD,Zb,Zs]
  | .pub _=>by simp [dv,frz,YD,Zb,Zs]
  | .rs id v=>by
    simp only [dv,frz,YD,dvh]
    cases h id with
    | none=>rfl
    | some o =>
      cases o<;>simp only [Option.map_some,Option.bind_some,dvO,Option.map_none]
      rename_i e t xs p u
      cases Nat.beq u v<;>simp [dv]
  | .map _=>by simp [dv,frz,YD,Zb,Zs] | .iter _=>by simp [dv,frz,YD,Zb,Zs] | .yld _=>by simp [dv,frz,YD,Zb,Zs]
  | .nilfn=>by simp [dv,frz,YD,Zb,Zs] | .nilmap=>by simp [dv,frz,YD,Zb,Zs] | .nilif=>by simp [dv,frz,YD,Zb,Zs]
  | .agg cs=>by
    simp only [dv,frz,YD,Z8j h cs]
    cases Z1E h cs<;>simp [dv]
  | .tup cs=>by
    simp only [dv,frz,YD,Z8i h cs]
    cases Z1E h cs<;>simp [dv]
  | .fn f a c=>by
    simp only [dv,frz,YD,Zb,Zs,Z1x hT a,Z1x hT c]
    cases Yw a&&Yw c<;>simp [dv]
  | .iface t v=>by
    simp only [dv,frz,YD,Z8h h v]
    cases YD h v<;>simp [dv]
theorem Z8j (h:Nat→Option (Zi S)):∀ cs:List (TV S),Z1o (dvh T h) (dvs T cs)=(Z1E h cs).map (dvs T)
  | []=>by simp [dvs,Z1o,Z1E]
  | c::cs=>by
    rw [Zv,Z7h,Z8j h cs,Z1E]
    have hc:=Z8h h c
    by_cases ha:ZP c=true
    · cases c<;>simp only [ZP,Bool.false_eq_true] at ha
      · simp only [Y0,YD,Zs,cond_true,Option.bind_some]
        rw [Z5E _ (Yj hT _ _ _)]
        cases Z1E h cs<;>simp [dvs]
      · simp only [Y0,YD,Zs,cond_true,Option.bind_some]
        rw [Z5E _ (hT.plain _ _)]
        cases Z1E h cs<;>simp [dvs]
      · rename_i ts pid n a
        simp only [Y0,YD,Zs]
        rw [Z85 _ (Yq _ _ _ _)]
        cases Za (eal ts pid n a)
        · rfl
        · cases Z1E h cs<;>simp [dvs]
      · simp only [Y0,YD,Zs,cond_true,Option.bind_some]
        rw [Z85 _ (Z15 0 _),Z6m]
        cases Z1E h cs<;>simp [dvs]
    · have h1:Y0 T c=[dv T c]:=by cases c<;>simp [Y0,ZP] at ha ⊢
      rw [h1]
      simp only [Z1o,hc]
      cases hf:YD h c with
      | none=>rfl
      | some c' =>
        have ha':ZP c'=false:=by
          cases c<;>simp [ZP] at ha<;>simp only [YD,Zs,cond_true,cond_false,reduceCtorEq,Option.some.injEq] at hf<;>first|(subst hf;rfl)|skip
          · cases ho:h _ with
            | none=>rw [ho] at hf;cases hf
            | some o =>
              rw [ho] at hf
              cases o<;>simp only [Option.bind_some,reduceCtorEq] at hf
              obtain ⟨_,hf⟩:=Z2 hf
              cases hf;rfl
          · obtain ⟨_,_,hf⟩:=Z0 hf;cases hf;rfl
          · obtain ⟨_,_,hf⟩:=Z0 hf;cases hf;rfl
          · obtain ⟨_,hf⟩:=Z2 hf;cases hf;rfl
          · obtain ⟨_,_,hf⟩:=Z0 hf;cases hf;rfl
        have h2:∀ l,dvs T (c'::l)=dv T c'::dvs T l:=fun l=>by
          rw [Zv]
          cases c'<;>simp [Y0,ZP] at ha' ⊢
        cases Z1E h cs<;>simp [h2]
theorem Z8i (h:Nat→Option (Zi S)):∀ cs:List (TV S),Z1o (dvh T h) (dvl T cs)=(Z1E h cs).map (dvl T)
  | []=>by simp [dvl,Z1o,Z1E]
  | c::cs=>by
    simp only [dvl,Z1o,Z1E,Z8h h c,Z8i h cs]
    cases YD h c with
    | none=>rfl
    | some c'=>cases Z1E h cs<;>simp [dvl]
end
mutual
theorem Zaz (n:Nat) (L:List (Option (Nat×Nat))):∀ (v v':TV S),Z3a n L v=some v'→ren n L (dv T v)=some (dv T v')
  | .rs id v,v',h=>by
    simp only [dv,ren,Z3a] at h ⊢
    cases hj:Z5a id v 0 L with
    | some j=>rw [hj] at h;cases h;rfl
    | none =>
      rw [hj] at h
      obtain ⟨h1,h⟩:=Z2 h
      cases h
      simp only [h1,cond_true];rfl
  | .agg cs,v',h=>by
    simp only [Z3a] at h
    obtain ⟨cs',h1,h⟩:=Z0 h
    cases h
    simp only [dv,ren,Z8H n L cs cs' h1,Option.bind_some]
  | .tup cs,v',h=>by
    simp only [Z3a] at h
    obtain ⟨cs',h1,h⟩:=Z0 h
    cases h
    simp only [dv,ren,ZbI n L cs cs' h1,Option.bind_some]
  | .narr ts m,v',h=>by
    simp only [Z3a] at h
    obtain ⟨_,h⟩:=Z2 h
    cases h
    simp only [dv,ren,ZdD n L m,Option.bind_some]
  | .earr ts pid m a,v',h=>by
    simp only [Z3a] at h
    obtain ⟨h1,h⟩:=Z2 h
    cases h
    simp only [dv,ren,Zcp n L h1 (Yq _ _ _ _),Option.bind_some]
  | .bool _,v',h=>by cases h;simp [dv,ren,bdd] | .int _ _,v',h=>by cases h;simp [dv,ren,bdd] | .str _,v',h=>by cases h;simp [dv,ren,bdd]
  | .nilp,v',h=>by cases h;simp [dv,ren,bdd] | .nils,v',h=>by cases h;simp [dv,ren,bdd]
  | .sl0,v',h=>by cases h;simp [dv,ren,bdd] | .sl _ _,v',h=>by cases h;simp [dv,ren,bdd]
  | .arr _ _ _,v',h=>by cases h;simp [dv,ren,bdd]
  | .stc _ _,v',h=>by cases h;simp [dv,ren,bdd]
  | .nilfn,v',h=>by cases h;simp [dv,ren,bdd] | .nilmap,v',h=>by cases h;simp [dv,ren,bdd] | .nilif,v',h=>by cases h;simp [dv,ren,bdd]
  | .ptr i o,v',h=>by
    simp only [Z3a] at h;obtain ⟨h1,h⟩:=Z2 h;cases h
    have:=Z2n hT n (.ptr i o) h1
    simp only [dv,ren] at this ⊢;rw [this];rfl
  | .ap i b j e o,v',h=>by
    simp only [Z3a] at h;obtain ⟨h1,h⟩:=Z2 h;cases h
    have:=Z2n hT n (.ap i b j e o) h1
    simp only [dv,ren] at this ⊢;rw [this];rfl
  | .rptr i w j e o,v',h=>by
    simp only [Z3a] at h;obtain ⟨h1,h⟩:=Z2 h;cases h
    have:=Z2n hT n (.rptr i w j e o) h1
    simp only [dv,ren] at this ⊢;rw [this];rfl
  | .pub cs,v',h=>by
    simp only [Z3a] at h;obtain ⟨h1,h⟩:=Z2 h;cases h
    have:=Z2n hT n (.pub cs) h1
    simp only [dv,ren] at this ⊢;rw [this];rfl
  | .map i,v',h=>by
    simp only [Z3a] at h;obtain ⟨h1,h⟩:=Z2 h;cases h
    have:=Z2n hT n (.map i) h1
    simp only [dv,ren] at this ⊢;rw [this];rfl
  | .iter i,v',h=>by
    simp only [Z3a] at h;obtain ⟨h1,h⟩:=Z2 h;cases h
    have:=Z2n hT n (.iter i) h1
    simp only [dv,ren] at this ⊢;rw [this];rfl
  | .yld i,v',h=>by
    simp only [Z3a] at h;obtain ⟨h1,h⟩:=Z2 h;cases h
    have:=Z2n hT n (.yld i) h1
    simp only [dv,ren] at this ⊢;rw [this];rfl
  | .fn f a c,v',h=>by
    simp only [Z3a] at h;obtain ⟨h1,h⟩:=Z2 h;cases h
    have:=Z2n hT n (.fn f a c) h1
    simp only [dv,ren] at this ⊢;rw [this];rfl
  | .iface t v,v',h=>by
    simp only [Z3a] at h;obtain ⟨h1,h⟩:=Z2 h;cases h
    have:=Z2n hT n (.iface t v) h1
    simp only [dv,ren] at this ⊢;rw [this];rfl
theorem Z8H (n:Nat) (L:List (Option (Nat×Nat))):∀ (cs cs':List (TV S)),Z7m n L cs=some cs'→Z2e n L (dvs T cs)=some (dvs T cs')
  | [],cs',h=>by cases h;simp [dvs,Z2e]
  | c::cs,r,h=>by
    simp only [Z7m] at h
    obtain ⟨c',h1,h⟩:=Z0 h
    obtain ⟨cs',h2,h⟩:=Z0 h
    cases h
    rw [Zv,Z7n,Z8H n L cs cs' h2,Zv]
    have hc:=Zaz n L c c' h1
    by_cases ha:ZP c=true
    · cases c<;>simp only [ZP,Bool.false_eq_true] at ha
      · cases h1
        simp only [Y0,Option.bind_some]
        rw [Z5G n L (Yj hT _ _ _)];rfl
      · cases h1
        simp only [Y0,Option.bind_some]
        rw [Z5G n L (hT.plain _ _)];rfl
      · simp only [Z3a] at h1
        obtain ⟨h3,h1⟩:=Z2 h1
        cases h1
        simp only [Y0,Option.bind_some]
        rw [Zcp n L h3 (Yq _ _ _ _)];rfl
      · simp only [Z3a] at h1
        obtain ⟨h3,h1⟩:=Z2 h1
        cases h1
        simp only [Y0,Option.bind_some]
        rw [ZdD n L];rfl
    · have e1:Y0 T c=[dv T c]:=by cases c<;>simp [Y0,ZP] at ha ⊢
      have ha':ZP c'=false:=by
        cases c<;>simp [ZP] at ha<;>simp only [Z3a,Z99,cond_true,Option.some.injEq] at h1<;>first|(subst h1;rfl)|(obtain ⟨_,h1⟩:=Z2 h1;cases h1;rfl)|(obtain ⟨_,_,h1⟩:=Z0 h1;cases h1;rfl)|skip
        rename_i id v
        cases hj:Z5a id v 0 L with
        | some j=>rw [hj] at h1;cases h1;rfl
        | none=>rw [hj] at h1;obtain ⟨_,h1⟩:=Z2 h1;cases h1;rfl
      have e2:Y0 T c'=[dv T c']:=by cases c'<;>simp [Y0,ZP] at ha' ⊢
      rw [e1,e2]
      simp only [Z2e,hc,Option.bind_some]
theorem ZbI (n:Nat) (L:List (Option (Nat×Nat))):∀ (cs cs':List (TV S)),Z7m n L cs=some cs'→Z2e n L (dvl T cs)=some (dvl T cs')
  | [],cs',h=>by cases h;simp [dvl,Z2e]
  | c::cs,r,h=>by
    simp only [Z7m] at h
    obtain ⟨c',h1,h⟩:=Z0 h
    obtain ⟨cs',h2,h⟩:=Z0 h
    cases h
    simp only [dvl,Z2e,Zaz n L c c' h1,ZbI n L cs cs' h2,Option.bind_some]
end
omit hT in
theorem Z6t (h:Nat→Option (Zi S)):∀ is,Zn (dvh T h) is=dvu T (Z5l h is)
  | []=>rfl
  | i::is=>by
    simp only [Zn,Z5l,Z6t h is,dvh,dvu,List.map_append]
    cases h i with
    | none=>rfl
    | some o =>
      cases o with
      | row e t xs p u=>simp only [Option.map_some,dvO];cases Nat.beq p 1<;>simp [dvO]
      | _=>simp [dvO]
end
end Go.Ab
namespace Go.Ab
variable {S:Nat→Type} {R:Type}
def Zcu:Option (Zi S)→Bool
  | some (.loop ..)=>true
  | _=>false
def Z5o (u:List (Nat×Option (Zi S))):Prop:=∀ p∈u,Zcu p.2=false
theorem ZW:Z5o (S:=S) []:=fun _ h=>by cases h
theorem ZQ {i:Nat} {x:Option (Zi S)} {u:List (Nat×Option (Zi S))} (hx:Zcu x=false) (h:Z5o u):Z5o ((i,x)::u):=fun p hp=>by
  rcases List.mem_cons.1 hp with e|hp
  · subst e;exact hx
  · exact h p hp
theorem Z2b (h:Nat→Option (Zi S)):∀ is,Z5o (Z5l h is)
  | []=>ZW
  | i::is=>fun p hp=>by
    simp only [Z5l,List.mem_append] at hp
    rcases hp with hp|hp
    · cases hi:h i with
      | none=>rw [hi] at hp;simp at hp
      | some o =>
        rw [hi] at hp
        cases o with
        | row e t xs p1 u =>
          simp only at hp
          cases hb:Nat.beq p1 1 with
          | true=>rw [hb] at hp;cases hp
          | false=>rw [hb] at hp;simp only [cond_false,List.mem_singleton] at hp;subst hp;rfl
        | _=>cases hp
    · exact Z2b h is p hp
def Sim (T:TS S) (e:Option Out) (k:Z2w S R) (r:R):Prop:=∃ o:Z9Z S,e=some (Y6 T o)∧Z5o o.upd∧k o=some r
theorem Zr {T:TS S} {k:Z2w S R} {r:R} {v:TV S} {e:Option Out} (h:ZL v k=some r) (he:e=ret (dv T v)):Sim T e k r:=⟨⟨some v,[]⟩,by rw [he];rfl,ZW,h⟩
theorem Z1G:∀ {x y x' y':List DV},Z9 x y=true→Z9 (x++x') (y++y')=Z9 x' y'
  | [],[],_,_,_=>rfl
  | [],_::_,_,_,h=>by simp [Z9] at h
  | a::x,[],_,_,h=>by cases a<;>simp [Z9] at h
  | a::x,b::y,x',y',h=>by
    cases a<;>cases b<;>simp only [Z9,Bool.and_eq_true,Bool.false_eq_true] at h<;>simp only [List.cons_append,Z9]
    · exact Z1G h
    · rw [h.1,Z1G h.2,Bool.true_and]
    · exact Z1G h
theorem Z11:∀ {x y x' y':List DV} {p q:Bool},Zg x y=some p→Zg x' y'=some q→Zg (x++x') (y++y')=some (p&&q)
  | [],[],_,_,p,q,h,h'=>by simp [Zg] at h;subst h;simpa using h'
  | [],_::_,_,_,_,_,h,_=>by simp [Zg] at h
  | a::x,[],_,_,_,_,h,_=>by cases a<;>simp [Zg] at h
  | a::x,b::y,x',y',p,q,h,h'=>by
    cases a<;>cases b<;>simp only [Zg,reduceCtorEq] at h<;>simp only [List.cons_append,Zg]
    · obtain ⟨r,h1,h⟩:=Z0 h
      cases h
      rw [Z11 h1 h'];simp [Bool.and_assoc]
    · obtain ⟨h0,h⟩:=Z2 h
      obtain ⟨r,h1,h⟩:=Z0 h
      cases h
      rw [h0,Z11 h1 h'];simp [Bool.and_assoc]
    · obtain ⟨r,h1,h⟩:=Z0 h
      cases h
      rw [Z11 h1 h'];simp [Bool.and_assoc]
section
variable (T:TS S)
theorem ZcS {t:Ty} (hs:(Z3r (S:=S) t).isSome=true) (x y:Val S t):Z9 (dcl T t x) (dcl T t y)=true:=by
  cases t<;>simp [Z3r] at hs<;>simp [dcl,Z9]
theorem Zgi {t:Ty} {e:Val S t→Val S t→Bool} (hs:Z3r t=some e) (x y:Val S t):Zg (dcl T t x) (dcl T t y)=some (e x y):=by
  cases t<;>simp only [Z3r,reduceCtorEq] at hs<;>cases hs<;>simp [dcl,Zg]
theorem Z9i {t:Ty} (hs:(Z3r (S:=S) t).isSome=true) (a b:Nat→Val S t):∀ l:List Nat,Z9 (l.flatMap fun j=>dcl T t (a j)) (l.flatMap fun j=>dcl T t (b j))=true
  | []=>rfl
  | j::l=>by
    simp only [List.flatMap_cons]
    rw [Z1G (ZcS T hs _ _)]
    exact Z9i hs a b l
theorem Zey {t:Ty} {e:Val S t→Val S t→Bool} (hs:Z3r t=some e) (a b:Nat→Val S t):∀ l:List Nat,Zg (l.flatMap fun j=>dcl T t (a j)) (l.flatMap fun j=>dcl T t (b j))=some (l.all fun j=>e (a j) (b j))
  | []=>rfl
  | j::l=>by
    simp only [List.flatMap_cons,List.all_cons]
    exact Z11 (Zgi T hs _ _) (Zey hs a b l)
theorem Z1N:∀ {z a:List (TV S)},Z2T z a=true→Z9 (dvs T z) (dvs T a)=true
  | [],[],_=>by simp [dvs,Z9]
  | [],_::_,h=>by simp [Z2T] at h
  | z::zs,[],h=>by cases z<;>simp [Z2T] at h
  | z::zs,a::as,h=>by
    cases z<;>cases a<;>simp only [Z2T,Bool.and_eq_true,Bool.false_eq_true] at h<;>simp only [dvs,dv,Z9]
    · exact Z1N h
    · rw [h.1,Z1N h.2];rfl
    · exact Z1N h
    · obtain ⟨⟨⟨h1,h2⟩,h3⟩,h4⟩:=h
      have h1:=of_decide_eq_true h1
      have h2:=Nat.eq_of_beq_eq_true h2
      subst h1 h2
      exact (Z1G (Z9i T h3 _ _ (List.range _))).trans (Z1N h4)
theorem Z1u:∀ {a b:List (TV S)} {r:Bool},Z10 a b=some r→Zg (dvs T a) (dvs T b)=some r
  | [],[],r,h=>by simp [Z10] at h;subst h;simp [dvs,Zg]
  | [],_::_,_,h=>by simp [Z10] at h
  | z::zs,[],_,h=>by cases z<;>simp [Z10] at h
  | z::zs,a::as,r,h=>by
    cases z<;>cases a<;>simp only [Z10,reduceCtorEq] at h<;>simp only [dvs,dv,Zg]
    · obtain ⟨q,h1,h⟩:=Z0 h
      rw [Z1u h1];exact h
    · obtain ⟨h0,h⟩:=Z2 h
      obtain ⟨q,h1,h⟩:=Z0 h
      rw [h0,Z1u h1];exact h
    · obtain ⟨q,h1,h⟩:=Z0 h
      rw [Z1u h1];exact h
    · split at h
      · rename_i e
        obtain ⟨h0,h⟩:=Z2 h
        obtain ⟨eq,h1,h⟩:=Z0 h
        obtain ⟨q,h2,h⟩:=Z0 h
        cases h
        have h0:=Nat.eq_of_beq_eq_true h0
        subst e h0
        exact Z11 (Zey T h1 _ _ _) (Z1u h2)
      · cases h
end
variable {X:Y9 S} (hX:XOk X)
include hX
theorem ZfH {op:BinOp} {t:TypeId} {x y:TV S} {k:Z2w S R} {r:R} (h:Zgy X op t x y k=some r):Sim X.T ((Za3 X.E op t (dv X.T x) (dv X.T y)).bind ret) k r:=by
  unfold Zgy at h
  split at h
  · rename_i kd a kd' b
    simp only [dv,Za3]
    cases op<;>simp only [reduceCtorEq] at h<;>simp only [Z4U,cond_false,cond_true,ZfV,ZaM,ZfI,Zda]
    case shl =>
      cases hb:decide (b<0) with
      | true=>rw [hb] at h;cases h
      | false=>rw [hb] at h;exact Zr h rfl
    case shr =>
      cases hb:decide (b<0) with
      | true=>rw [hb] at h;cases h
      | false=>rw [hb] at h;exact Zr h rfl
    case quo =>
      obtain ⟨h0,h⟩:=Z2 h
      rw [h0]
      cases hb:b==0 with
      | true=>rw [hb] at h;cases h
      | false=>rw [hb] at h;exact Zr h rfl
    case rem =>
      obtain ⟨h0,h⟩:=Z2 h
      rw [h0]
      cases hb:b==0 with
      | true=>rw [hb] at h;cases h
      | false=>rw [hb] at h;exact Zr h rfl
    all_goals
      obtain ⟨h0,h⟩:=Z2 h
      rw [h0]
      exact Zr h rfl
  · rename_i a b
    simp only [dv,Za3,Zgk]
    cases op<;>simp only [reduceCtorEq] at h
    case add =>
      obtain ⟨h0,h⟩:=Z2 h
      rw [h0]
      exact Zr h rfl
    all_goals exact Zr h rfl
  · rename_i a b
    obtain ⟨ti,h1,h⟩:=Z0 h
    simp only [dv,Za3,h1,Option.bind_some]
    cases hk:ti.k<;>rw [hk] at h<;>first|(cases h;done)|skip
    cases op<;>simp only [reduceCtorEq] at h<;>exact Zr h rfl
  · rename_i a b
    obtain ⟨ti,h1,h⟩:=Z0 h
    obtain ⟨z,h2,h⟩:=Z0 h
    obtain ⟨h3,h⟩:=Z2 h
    simp only [Bool.and_eq_true] at h3
    simp only [dv,Za3,h1,Option.bind_some]
    have hz:=hX.zero t z ti h2 h1
    have k1:=Z1N X.T h3.1.2
    have k2:=Z1N X.T h3.2
    rw [Z23 hX.t,Z23 hX.t] at k1 k2
    rw [h3.1.1,←hz,k1,k2]
    simp only [Bool.and_self,cond_true]
    split at h
    · obtain ⟨q,h4,h⟩:=Z0 h
      have k3:=Z1u X.T h4
      rw [Z23 hX.t,Z23 hX.t] at k3
      rw [k3];exact Zr h rfl
    · obtain ⟨q,h4,h⟩:=Z0 h
      have k3:=Z1u X.T h4
      rw [Z23 hX.t,Z23 hX.t] at k3
      rw [k3];exact Zr h rfl
    · cases h
  · rename_i tt xs
    obtain ⟨ti,h1,h⟩:=Z0 h
    cases xs with
    | nil =>
      cases hk:ti.k<;>rw [hk] at h<;>first|(cases h;done)|skip
      cases op<;>simp at h
    | cons c cs =>
      simp only [dv,List.map_cons,Za3,h1,Option.bind_some]
      cases hk:ti.k<;>rw [hk] at h<;>first|(cases h;done)|skip
      cases op<;>simp only [reduceCtorEq] at h<;>exact Zr h rfl
  · cases h
omit hX in
theorem ZgR {T:TS S} {op:UnOp} {x:TV S} {k:Z2w S R} {r:R} (h:unK op x k=some r):Sim T ((unD op (dv T x)).bind ret) k r:=by
  unfold unK at h
  split at h
  · split at h
    · exact Zr h rfl
    · cases h
  · split at h
    · exact Zr h rfl
    · cases h
  · cases h
omit hX in
theorem Z4T {T:TS S} {n:Nat} {x:TV S} {k:Nat→Option R} {r:R} (h:Zbl n x k=some r):∃ i,Z2S n (dv T x)=some i∧i<n∧k i=some r:=by
  unfold Zbl at h
  split at h
  · rename_i kd i
    obtain ⟨h1,h⟩:=Z2 h
    have h2:=h1
    simp only [Bool.and_eq_true,decide_eq_true_eq] at h2
    refine ⟨i.toNat,?_,by omega,h⟩
    simp only [dv,Z2S]
    rw [h1];rfl
  · cases h
omit hX in
theorem Z2H {T:TS S} {d:Option (TV S)} {dflt y:Nat} {k:Nat→Option R} {r:R} (h:Z4k d dflt y k=some r):∃ i,Z3i (d.map (dv T)) dflt y=some i∧k i=some r:=by
  unfold Z4k at h
  split at h
  · exact ⟨dflt,rfl,h⟩
  · rename_i kd i
    obtain ⟨h1,h⟩:=Z2 h
    refine ⟨i.toNat,?_,h⟩
    simp only [Option.map_some,dv,Z3i]
    rw [h1];rfl
  · cases h
omit hX in
theorem Z9p {T:TS S} {t:Ty} {h:Nat→Option (Zi S)} {x:TV S} {xs:List (Val S t)} (he:Za9 t h x=some xs):Ym (dvh T h) (dv T x)=some (xs.map (dcl T t)):=by
  unfold Za9 at he
  split at he
  · cases he;rfl
  · cases he;simp [dv,Ym]
  · split at he
    · rename_i e;subst e;cases he;simp [dv,Ym]
    · cases he
  · rename_i id v
    obtain ⟨o,ho,he⟩:=Z0 he
    simp only [dv,Ym,dvh,ho,Option.map_some,Option.bind_some]
    cases o<;>simp only [reduceCtorEq] at he
    obtain ⟨h1,he⟩:=Z2 he
    split at he
    · rename_i e;subst e;cases he
      simp only [dvO,h1,cond_true]
    · cases he
  · cases he
omit hX in
theorem Z3z {i n:Nat} (h:i<n):List.range n=List.range i++(i::List.range' (i+1) (n-(i+1))):=by
  rw [List.range_eq_range',List.range_eq_range',←List.range'_succ,show n-(i+1)+1=n-i by omega]
  have:=(List.range'_append_1 (s:=0) (m:=i) (n:=n-i))
  rw [Nat.zero_add,show i+(n-i)=n by omega] at this
  exact this.symm
omit hX in
theorem Zb7 {T:TS S} {pid m:Nat} {k:Z2w S R} {r:R}:∀ {ts:List TypeId} {j:Nat},ZfO pid m ts j k=some r→j≤m→∃ v:TV S,dv T v=enD pid ts (m-j+1)∧ZL v k=some r
  | [],_,h,_=>by cases h
  | t::ts,j,h,hj=>by
    simp only [ZfO] at h
    cases hq:Nat.beq m j with
    | true =>
      rw [hq] at h
      have:=Nat.eq_of_beq_eq_true hq
      subst this
      refine ⟨_,?_,h⟩
      rw [Nat.sub_self];simp [dv,dvs,enD]
    | false =>
      rw [hq] at h
      have hne:m≠j:=fun e=>by subst e;rw [Nat.beq_refl] at hq;cases hq
      obtain ⟨v,h1,h2⟩:=Zb7 h (by omega)
      refine ⟨v,?_,h2⟩
      rw [h1,show m-j+1=(m-(j+1))+2 by omega]
      simp [enD]
omit hX in
theorem ZfP {T:TS S} {ts:List TypeId} {pid m:Nat} {k:Z2w S R} {r:R} (h:enK ts pid m k=some r):∃ v:TV S,dv T v=enD pid ts m∧ZL v k=some r:=by
  unfold enK at h
  cases hq:Nat.beq m 0 with
  | true =>
    rw [hq] at h
    have:=Nat.eq_of_beq_eq_true hq
    subst this
    exact ⟨.nilif,by cases ts<;>rfl,h⟩
  | false =>
    rw [hq] at h
    have hne:m≠0:=fun e=>by subst e;cases hq
    obtain ⟨v,h1,h2⟩:=Zb7 (T:=T) h (by omega)
    exact ⟨v,by rw [h1,show m-1+1=m by omega],h2⟩
theorem Z84 {cs:List (TV S)} {base n pid:Nat} {ts:List TypeId} {a:Nat→Nat} (h:Za8 X.T cs base=some (ts,pid,n,a)):∃ q,base+n≤(dvs X.T cs).length∧(dvs X.T cs).drop base=eal ts pid n a++q:=by
  unfold Za8 at h
  obtain ⟨q,h1,h⟩:=Z0 h
  split at h
  · rename_i ts' pid' n' a' q' hq'
    cases h
    obtain ⟨h5,h6⟩:=Z1t hX.t h1
    rw [←Z2y hX.t 10 q,hq',Zv] at h6
    refine ⟨dvs X.T q',?_,h6⟩
    have:=congrArg List.length h6
    simp [Y0,eal] at this
    rw [ZX hX.t]
    rw [ZX hX.t] at this
    omega
  · cases h
theorem Zbs {ti:TI} {h:Nat→Option (Zi S)} {a:TV S} {k:Z2w S R} {r:R} (hk:Zdr X ti h a k=some r):Sim X.T ((Z2U ti (dvh X.T h) (dv X.T a)).bind ret) k r:=by
  unfold Zdr at hk
  split at hk
  · rename_i id off
    obtain ⟨o,ho,hk⟩:=Z0 hk
    simp only [dv,Z2U,dvh,ho,Option.map_some,Option.bind_some]
    cases o<;>simp only [reduceCtorEq] at hk
    obtain ⟨v,h1,hk⟩:=Z0 hk
    simp only [dvO,(Z3y hX.t h1).1]
    exact Zr hk rfl
  · rename_i id base i e off
    obtain ⟨o,ho,hk⟩:=Z0 hk
    simp only [dv,Z2U,dvh,ho,Option.map_some,Option.bind_some]
    cases o<;>simp only [reduceCtorEq] at hk
    rename_i ct cs
    split at hk
    · rename_i ts pid n a hE
      obtain ⟨h1,hk1⟩:=Z2 hk
      obtain ⟨h2,hk2⟩:=Z2 hk1
      clear hk hk1
      simp only [Bool.and_eq_true,Bool.not_eq_true'] at h1
      obtain ⟨⟨h3,h4⟩,h5⟩:=h1
      have h3:=Nat.eq_of_beq_eq_true h3
      have h4:=Nat.eq_of_beq_eq_true h4
      subst h3 h4
      have h2:i<n:=by simpa [Tr.blt_dec] using h2
      obtain ⟨v,h6,h7⟩:=ZfP (T:=X.T) hk2
      obtain ⟨q,h8,h9⟩:=Z84 hX hE
      have hp:Yy ti (dvs X.T cs) (base+i*1+0)=some (dv X.T v):=by
        unfold Yy
        rw [h5]
        simp only [cond_false]
        have:(dvs X.T cs)[base+i*1+0]? = ((dvs X.T cs).drop base)[i]? := by simp
        rw [this,h9,List.getElem?_append_left (by simp [eal];exact h2),h6]
        simp [eal,h2]
      simp only [dvO,hp]
      exact Zr h7 rfl
    obtain ⟨A,hA,hk⟩:=Z0 hk
    obtain ⟨t,n,a⟩:=A
    simp only at hk
    obtain ⟨h1,hk1⟩:=Z2 hk
    obtain ⟨h2,hk2⟩:=Z2 hk1
    obtain ⟨v,h3,hk3⟩:=Z0 hk2
    clear hk hk1 hk2
    have h1:=Nat.eq_of_beq_eq_true h1
    have h2:i<n:=by simpa [Tr.blt_dec] using h2
    subst h1
    unfold Z7S at hA
    obtain ⟨q,h4,hA⟩:=Z0 hA
    split at hA
    · rename_i t' n' a' q' hq'
      cases hA
      obtain ⟨h5,h6⟩:=Z1t hX.t h4
      rw [←Z2y hX.t 10 q,hq'] at h6
      rw [←ZX hX.t q,←Z2y hX.t 10 q,hq',ZX hX.t] at h5
      obtain ⟨h7,h8⟩:=Z3y hX.t h3
      rw [Z2F hX.t] at h7
      have h9:Yy ti (dvs X.T cs) (base+i*tsz X.T t+off)=some (dv X.T v):=by
        have hcut:∀ m,(dvs X.T cs).drop (base+m)=(acl X.T t n a++dvs X.T q').drop m:=fun m=>by
          rw [←List.drop_drop,h6,Zv];rfl
        have hlen:=ZX hX.t cs
        rw [h5] at hlen
        simp only [wds,wd] at hlen
        have hin:(i+1)*tsz X.T t≤n*tsz X.T t:=Nat.mul_le_mul_right _ h2
        have hpart:∀ m,m≤tsz X.T t→∃ rest,(acl X.T t n a++dvs X.T q').drop (i*tsz X.T t+m)=(dcl X.T t (a i)).drop m++rest:=fun m hm=>by
          refine ⟨((List.range' (i+1) (n-(i+1))).flatMap fun j=>dcl X.T t (a j))++dvs X.T q',?_⟩
          have hsplit:acl X.T t n a=((List.range i).flatMap fun j=>dcl X.T t (a j))++(dcl X.T t (a i)++(List.range' (i+1) (n-(i+1))).flatMap fun j=>dcl X.T t (a j)):=by
            unfold acl
            rw [Z3z h2,List.flatMap_append,List.flatMap_cons]
          have hl:((List.range i).flatMap fun j=>dcl X.T t (a j)).length=i*tsz X.T t:=YT hX.t t i a
          rw [hsplit,List.append_assoc,List.drop_append,hl,List.drop_eq_nil_of_le (by rw [hl];omega),List.nil_append,Nat.add_sub_cancel_left,List.append_assoc,List.drop_append_of_le_length (by rw [Y7 hX.t];exact hm)]
        unfold Yy at h7 ⊢
        cases hag:ti.isAgg with
        | true =>
          rw [hag] at h7
          simp only [cond_true] at h7 ⊢
          obtain ⟨h10,h11⟩:=Z2 h7
          rw [Nat.ble_eq,Y7 hX.t] at h10
          obtain ⟨rest,hr⟩:=hpart off (by omega)
          have hle:Nat.ble (base+i*tsz X.T t+off+ti.size) (dvs X.T cs).length=true:=by
            rw [Nat.ble_eq,hlen]
            rw [Nat.add_mul,Nat.one_mul] at hin
            omega
          rw [hle,Nat.add_assoc,hcut,hr]
          simp only [cond_true]
          rw [List.take_append_of_le_length (by rw [List.length_drop,Y7 hX.t];omega)]
          exact h11
        | false =>
          rw [hag] at h7
          simp only [cond_false] at h7 ⊢
          have hlt:=(List.getElem?_eq_some_iff.1 h7).1
          rw [Y7 hX.t] at hlt
          obtain ⟨rest,hr⟩:=hpart off (by omega)
          have:(dvs X.T cs)[base+i*tsz X.T t+off]? = ((dvs X.T cs).drop (base+(i*tsz X.T t+off)))[0]? := by simp [Nat.add_assoc]
          rw [this,hcut,hr,List.getElem?_append_left (by rw [List.length_drop,Y7 hX.t];omega)]
          simpa using h7
      simp only [dvO,h9]
      exact Zr hk3 rfl
    · cases hA
  · rename_i id v i e off
    obtain ⟨o,ho,hk⟩:=Z0 hk
    simp only [dv,Z2U,dvh,ho,Option.map_some,Option.bind_some]
    cases o<;>simp only [reduceCtorEq] at hk
    rename_i re t xs p u
    obtain ⟨h1,hk⟩:=Z2 hk
    obtain ⟨h2,hk⟩:=Z2 hk
    obtain ⟨q,h3,hk⟩:=Z0 hk
    have h2:i<xs.length:=by simpa [Tr.blt_dec] using h2
    simp only [Bool.and_eq_true] at h1
    have h4:=Nat.eq_of_beq_eq_true h1.2
    have h5:=(Z3y hX.t h3).1
    rw [Z2F hX.t] at h5
    have h6:xs.getD i (tdf X.T t)=xs[i]:=by simp [List.getD_eq_getElem?_getD,h2]
    rw [h6] at h5
    simp only [dvO,List.getElem?_map,List.getElem?_eq_getElem h2,Option.map_some,Option.bind_some]
    have h7:Nat.beq (dcl X.T t xs[i]).length e=true:=by rw [Y7 hX.t,←h4];exact Nat.beq_refl _
    rw [h1.1,h7,h5]
    exact Zr hk rfl
  · rename_i cs
    obtain ⟨v,h1,hk⟩:=Z0 hk
    simp only [dv,Z2U,(Z3y hX.t h1).1]
    exact Zr hk rfl
  · cases hk
end Go.Ab
namespace Go.Ab
variable {S:Nat→Type} {R:Type}
theorem Z3t {T:TS S} {t:Ty} {n i:Nat} (h:i<n) (a:Nat→Val S t) :
    acl T t n a=((List.range i).flatMap fun j=>dcl T t (a j))++(dcl T t (a i)++(List.range' (i+1) (n-(i+1))).flatMap fun j=>dcl T t (a j)):=by
  unfold acl
  rw [Z3z h,List.flatMap_append,List.flatMap_cons]
theorem Zd6 {T:TS S} {t:Ty} {n i:Nat} (h:i<n) (a:Nat→Val S t) (x:Val S t) :
    acl T t n (fun j=>bif Nat.beq j i then x else a j)=((List.range i).flatMap fun j=>dcl T t (a j))++(dcl T t x++(List.range' (i+1) (n-(i+1))).flatMap fun j=>dcl T t (a j)):=by
  rw [Z3t h]
  have e1:∀ j∈List.range i,dcl T t ((fun j=>bif Nat.beq j i then x else a j) j)=dcl T t (a j):=fun j hj=>by
    have:j<i:=List.mem_range.1 hj
    have hb:Nat.beq j i=false:=by rw [Tr.beq_dec];simp;omega
    simp [hb]
  have e2:∀ j∈List.range' (i+1) (n-(i+1)),dcl T t ((fun j=>bif Nat.beq j i then x else a j) j)=dcl T t (a j):=fun j hj=>by
    have:=List.mem_range'_1.1 hj
    have hb:Nat.beq j i=false:=by rw [Tr.beq_dec];simp;omega
    simp [hb]
  have e3:Nat.beq i i=true:=Nat.beq_refl i
  simp only [e3,cond_true]
  congr 1
  · rw [List.flatMap_def,List.flatMap_def,List.map_congr_left e1]
  · congr 1
    rw [List.flatMap_def,List.flatMap_def,List.map_congr_left e2]
variable {X:Y9 S} (hX:XOk X)
include hX
theorem Z4X (t:TypeId) (cs:List (TV S)):dvs X.T (Z9B X t cs)=dvs X.T cs:=by
  unfold Z9B
  cases X.code t with
  | none=>rfl
  | some c =>
    simp only
    cases hd:Z6w X.T c cs with
    | none=>rfl
    | some x=>simp only;rw [Z2F hX.t,Z2i hX.t hd]
omit hX in
theorem Zdd {pid:Nat} {l:List DV} (h:l.all (Z4t pid)=true):l.all Zz=true:=by
  rw [List.all_eq_true] at h ⊢
  intro d hd
  rcases Z1p (h d hd) with rfl|⟨t,rfl⟩<;>rfl
theorem Z79 {v:TV S} (h:(Y4 v).all Z7H=true):(cellsOf (dv X.T v)).all Zz=true:=by
  rw [Yp]
  generalize Y4 v=cs at h
  induction cs with
  | nil=>simp [dvs]
  | cons c cs ih =>
    simp only [List.all_cons,Bool.and_eq_true] at h
    rw [Zv,List.all_append,ih h.2,Bool.and_true]
    cases c<;>simp only [Z7H,Bool.false_eq_true] at h<;>simp only [Y0,dv,List.all_cons,List.all_nil,Zz,Bool.and_true]
    · exact Z2c (Yj hX.t _ _ _)
    · exact Z2c (hX.t.plain _ _)
    · exact Zdd (Yq _ _ _ _)
    · exact Zdd (Z15 0 _)
    · exact absurd h.1 (by simp)
    · exact absurd h.1 (by simp)
omit hX in
theorem ZfN {ts:List TypeId} {pid n i m:Nat} {ar:Nat→Nat} (h:i<n):eal ts pid n (fun j=>bif Nat.beq j i then m else ar j)=(eal ts pid n ar).take i++[enD pid ts m]++(eal ts pid n ar).drop (i+1):=by
  have hb:∀ j,j≠i→Nat.beq j i=false:=fun j hj=>by
    cases hq:Nat.beq j i with
    | false=>rfl
    | true=>exact absurd (Nat.eq_of_beq_eq_true hq) hj
  have h1:(eal ts pid n ar).take i=(List.range i).map fun j=>enD pid ts (ar j):=by
    unfold eal
    rw [Z3z h,List.map_append,List.take_left' (by simp)]
  have h2:(eal ts pid n ar).drop (i+1)=(List.range' (i+1) (n-(i+1))).map fun j=>enD pid ts (ar j):=by
    unfold eal
    rw [Z3z h,List.map_append,List.map_cons,List.drop_append]
    simp
  rw [h1,h2]
  unfold eal
  rw [Z3z h,List.map_append,List.map_cons]
  simp only [Nat.beq_refl,cond_true]
  have e1:(List.range i).map (fun j=>enD pid ts (bif Nat.beq j i then m else ar j))=(List.range i).map fun j=>enD pid ts (ar j):=List.map_congr_left fun j hj=>by
    rw [hb j (by have:=List.mem_range.1 hj;omega)];rfl
  have e2:(List.range' (i+1) (n-(i+1))).map (fun j=>enD pid ts (bif Nat.beq j i then m else ar j))=(List.range' (i+1) (n-(i+1))).map fun j=>enD pid ts (ar j):=List.map_congr_left fun j hj=>by
    rw [hb j (by have:=List.mem_range'_1.1 hj;omega)];rfl
  rw [e1,e2]
  simp
omit hX in
theorem Zbm {pid:Nat} {t:TypeId}:∀ {ts:List TypeId} {j m:Nat},ZfU t ts j=some m→j≤m∧enD pid ts (m-j+1) = .iface t (.agg [.ptr pid 0])
  | [],_,_,h=>by cases h
  | u::ts,j,m,h=>by
    simp only [ZfU] at h
    cases hq:Nat.beq u t with
    | true =>
      rw [hq] at h;cases h
      have:=Nat.eq_of_beq_eq_true hq
      subst this
      exact ⟨Nat.le_refl _,by rw [Nat.sub_self];simp [enD]⟩
    | false =>
      rw [hq] at h
      obtain ⟨h1,h2⟩:=Zbm (pid:=pid) h
      refine ⟨by omega,?_⟩
      rw [show m-j+1=(m-(j+1))+2 by omega]
      simpa [enD] using h2
omit hX in
theorem ZeP {ts:List TypeId} {pid m:Nat} {v:TV S} (h:Zgz ts pid v=some m):dvs X.T (Y4 v)=[enD pid ts m]∧Y4 v=[v]∧wds X.T (Y4 v)=1:=by
  unfold Zgz at h
  split at h
  · cases h
    exact ⟨by cases ts<;>simp [Y4,dvs,dv,enD],rfl,rfl⟩
  · rename_i t p
    obtain ⟨h1,hi⟩:=Z2 h
    have hp:=Nat.eq_of_beq_eq_true h1
    obtain ⟨h2,h3⟩:=Zbm (pid:=pid) hi
    refine ⟨?_,rfl,rfl⟩
    rw [show m=m-1+1 by omega,h3,hp]
    simp [Y4,dvs,dv]
  · cases h
theorem Zep {ti:TI} {h:Nat→Option (Zi S)} {a v:TV S} {k:Z2w S R} {r:R} (hk:ZcW X ti h a v k=some r) :
    Sim X.T ((Z4N ti (dvh X.T h) (dv X.T a) (dv X.T v)).bind fun u=>some ⟨some (.tup []),u⟩) k r:=by
  unfold ZcW at hk
  have h0:=(Z2 hk).1
  replace hk:=(Z2 hk).2
  simp only [Bool.and_eq_true] at h0
  have hc:(Nat.beq (cellsOf (dv X.T v)).length ti.size&&(cellsOf (dv X.T v)).all Zz)=true:=by
    rw [Z79 hX h0.2,Yp,ZX hX.t,h0.1];rfl
  have hsz:=Nat.eq_of_beq_eq_true h0.1
  unfold Z4N
  rw [hc]
  simp only [cond_true]
  cases a with
  | ptr id off =>
    simp only at hk
    obtain ⟨o,ho,hk⟩:=Z0 hk
    cases o<;>simp only [reduceCtorEq] at hk
    rename_i ct cs
    obtain ⟨cs',h1,hk⟩:=Z0 hk
    obtain ⟨h2,h3⟩:=Z16 hX.t h1
    have hle:Nat.ble (off+ti.size) (dvs X.T cs).length=true:=by rw [Nat.ble_eq,ZX hX.t];omega
    refine ⟨_,?_,?_,hk⟩
    · simp only [dv,dvh,ho,Option.map_some,Option.bind_some,dvO,hle,cond_true,Yp,h3]
      simp [Y6,dvu,dvO,dv,dvl,Z4X hX]
    · exact ZQ rfl ZW
  | ap id base i e off =>
    simp only at hk
    obtain ⟨o,ho,hk⟩:=Z0 hk
    cases o<;>simp only [reduceCtorEq] at hk
    rename_i ct cs
    split at hk
    · rename_i ts pid n ar hE
      obtain ⟨h1,hk1⟩:=Z2 hk
      obtain ⟨h2,hk2⟩:=Z2 hk1
      obtain ⟨m,hm,hk3⟩:=Z0 hk2
      obtain ⟨cs',h5,hk4⟩:=Z0 hk3
      clear hk hk1 hk2 hk3
      simp only [Bool.and_eq_true] at h1
      obtain ⟨h3,h4⟩:=h1
      have h3:=Nat.eq_of_beq_eq_true h3
      have h4:=Nat.eq_of_beq_eq_true h4
      subst h3 h4
      have h2:i<n:=by simpa [Tr.blt_dec] using h2
      obtain ⟨q,h8,h9⟩:=Z84 hX hE
      obtain ⟨hv,_,hw⟩:=ZeP (X:=X) hm
      have hts:ti.size=1:=by rw [←hsz,hw]
      obtain ⟨g1,g2⟩:=Z16 hX.t h5
      have hle:Nat.ble (base+i*1+0+ti.size) (dvs X.T cs).length=true:=by rw [Nat.ble_eq,hts];omega
      have hnew:Y5 (dvs X.T cs) (base+i*1+0) (dvs X.T (Y4 v))=dvs X.T cs':=by
        rw [←g2,hv]
        have harr:dvs X.T [.earr ts pid n (fun j=>bif Nat.beq j i then m else ar j)]=eal ts pid n (fun j=>bif Nat.beq j i then m else ar j):=by simp [dvs]
        have hl1:(eal ts pid n (fun j=>bif Nat.beq j i then m else ar j)).length=n:=by simp [eal]
        have hl2:(eal ts pid n ar).length=n:=by simp [eal]
        rw [harr,YN _ _ _ (by simp;omega),YN _ _ _ (by rw [hl1];exact h8),hl1]
        have e1:(dvs X.T cs).take (base+i*1+0)=(dvs X.T cs).take base++(eal ts pid n ar).take i:=by
          rw [Nat.mul_one,Nat.add_zero,List.take_add,h9,List.take_append_of_le_length (by rw [hl2];omega)]
        have e2:(dvs X.T cs).drop (base+i*1+0+[enD pid ts m].length)=(eal ts pid n ar).drop (i+1)++(dvs X.T cs).drop (base+n):=by
          have hq:(dvs X.T cs).drop (base+n)=q:=by
            rw [←List.drop_drop,h9,List.drop_append,hl2,Nat.sub_self,List.drop_eq_nil_of_le (by rw [hl2];exact Nat.le_refl _)];rfl
          rw [hq,show base+i*1+0+[enD pid ts m].length=base+(i+1) by simp;omega,←List.drop_drop,h9,List.drop_append_of_le_length (by rw [hl2];omega)]
        have e3:eal ts pid n (fun j=>bif Nat.beq j i then m else ar j)=(eal ts pid n ar).take i++[enD pid ts m]++(eal ts pid n ar).drop (i+1):=by
          exact ZfN h2
        rw [e1,e2,e3]
        simp only [List.append_assoc]
      refine ⟨_,?_,ZQ rfl ZW,hk4⟩
      simp only [dv,dvh,ho,Option.map_some,Option.bind_some,dvO,hle,cond_true,Yp,hnew]
      simp [Y6,dvu,dvO,dv,dvl]
    obtain ⟨A,hA,hk⟩:=Z0 hk
    obtain ⟨t,n,ar⟩:=A
    simp only at hk
    obtain ⟨h1,hk⟩:=Z2 hk
    obtain ⟨h2,hk⟩:=Z2 hk
    obtain ⟨c,h3,hk⟩:=Z0 hk
    obtain ⟨x,h4,hk⟩:=Z0 hk
    obtain ⟨cs',h5,hk⟩:=Z0 hk
    have h1:=Nat.eq_of_beq_eq_true h1
    have h2:i<n:=by simpa [Tr.blt_dec] using h2
    obtain ⟨h6,h7⟩:=Z16 hX.t h3
    obtain ⟨h8,h9⟩:=Z16 hX.t h5
    rw [Z2F hX.t,Z2i hX.t h4] at h7
    unfold Z7S at hA
    obtain ⟨q,h10,hA⟩:=Z0 hA
    split at hA
    · rename_i t' n' a' q' hq'
      cases hA
      obtain ⟨h11,h12⟩:=Z1t hX.t h10
      rw [←Z2y hX.t 10 q,hq'] at h12
      rw [←ZX hX.t q,←Z2y hX.t 10 q,hq',ZX hX.t] at h11
      have hlenT:wds X.T (tcl X.T t (ar i))=tsz X.T t:=by rw [←ZX hX.t,Z2F hX.t,Y7 hX.t]
      rw [hlenT] at h6
      have hlen:=ZX hX.t cs
      rw [h11] at hlen
      simp only [wds,wd] at hlen
      have hin:i*tsz X.T t+tsz X.T t≤n*tsz X.T t:=by
        have:=Nat.mul_le_mul_right (tsz X.T t) h2
        rw [Nat.succ_mul] at this;exact this
      have hle:Nat.ble (base+i*e+off+ti.size) (dvs X.T cs).length=true:=by rw [Nat.ble_eq,h1];omega
      have hnew:Y5 (dvs X.T cs) (base+i*e+off) (dvs X.T (Y4 v))=dvs X.T cs':=by
        rw [←h9]
        have hv2:(dvs X.T (Y4 v)).length=wds X.T (Y4 v):=ZX hX.t _
        rw [YN _ _ _ (by rw [hv2,h1];omega)]
        have hcut:∀ m,(dvs X.T cs).drop (base+m)=(acl X.T t n ar++dvs X.T q').drop m:=fun m=>by
          rw [←List.drop_drop,h12,Zv];rfl
        have hal:(acl X.T t n (fun j=>bif Nat.beq j i then x else ar j)).length=n*tsz X.T t:=YT hX.t t n _
        have harr:dvs X.T [.arr t n (fun j=>bif Nat.beq j i then x else ar j)]=acl X.T t n (fun j=>bif Nat.beq j i then x else ar j):=by simp [dvs]
        rw [harr,YN _ _ _ (by rw [hal];omega),hal]
        have hpre:(dvs X.T cs).take (base+i*e+off)=(dvs X.T cs).take base++(acl X.T t n ar++dvs X.T q').take (i*e+off):=by
          have:=hcut 0
          rw [Nat.add_zero,List.drop_zero] at this
          rw [←this,Nat.add_assoc,List.take_add]
        have hq:(dvs X.T cs).drop (base+n*tsz X.T t)=dvs X.T q':=by
          rw [hcut,List.drop_append,YT hX.t,Nat.sub_self,List.drop_eq_nil_of_le (by rw [YT hX.t];exact Nat.le_refl _)];rfl
        rw [hpre,hq,Nat.add_assoc base,Nat.add_assoc base,hcut,hv2,Zd6 h2 ar x,←h7,YN _ _ _ (by rw [hv2,Y7 hX.t];omega),Z3t h2 ar,hv2]
        have hl:((List.range i).flatMap fun j=>dcl X.T t (ar j)).length=i*tsz X.T t:=YT hX.t t i ar
        have hd:=Y7 hX.t t (ar i)
        generalize ((List.range i).flatMap fun j=>dcl X.T t (ar j))=P1 at *
        generalize ((List.range' (i+1) (n-(i+1))).flatMap fun j=>dcl X.T t (ar j))=P2 at *
        generalize dcl X.T t (ar i)=M at *
        generalize dvs X.T (Y4 v)=Vv at *
        have e1:((P1++(M++P2))++dvs X.T q').take (i*e+off)=P1++M.take off:=by
          rw [List.append_assoc,List.take_append,hl,h1,List.take_of_length_le (by rw [hl];omega),Nat.add_sub_cancel_left,List.append_assoc,List.take_append_of_le_length (by rw [hd];omega)]
        have e2:((P1++(M++P2))++dvs X.T q').drop (i*e+off+wds X.T (Y4 v))=M.drop (off+wds X.T (Y4 v))++P2++dvs X.T q':=by
          rw [List.append_assoc,List.drop_append,hl,h1,List.drop_eq_nil_of_le (by rw [hl];omega),List.nil_append,show i*tsz X.T t+off+wds X.T (Y4 v)-i*tsz X.T t=off+wds X.T (Y4 v) by omega,List.append_assoc,List.drop_append_of_le_length (by rw [hd];omega),List.append_assoc]
        rw [e1,e2]
        simp only [List.append_assoc]
      refine ⟨_,?_,?_,hk⟩
      · simp only [dv,dvh,ho,Option.map_some,Option.bind_some,dvO,hle,cond_true,Yp,hnew]
        simp [Y6,dvu,dvO,dv,dvl,Z4X hX]
      · exact ZQ rfl ZW
    · cases hA
  | rptr id v' i e off =>
    simp only at hk
    obtain ⟨o,ho,hk⟩:=Z0 hk
    cases o<;>simp only [reduceCtorEq] at hk
    rename_i et t xs p u
    obtain ⟨h1,hk⟩:=Z2 hk
    obtain ⟨h2,hk⟩:=Z2 hk
    obtain ⟨c,h3,hk⟩:=Z0 hk
    obtain ⟨x,h4,hk⟩:=Z0 hk
    simp only [Bool.and_eq_true] at h1
    obtain ⟨⟨⟨hu,he⟩,hp⟩,hf⟩:=h1
    have h2:i<xs.length:=by simpa [Tr.blt_dec] using h2
    have he':=Nat.eq_of_beq_eq_true he
    obtain ⟨h6,h7⟩:=Z16 hX.t h3
    have hw:wds X.T (tcl X.T t (xs.getD i (tdf X.T t)))=tsz X.T t:=by rw [←ZX hX.t,Z2F hX.t,Y7 hX.t]
    rw [hw] at h6
    rw [Z2F hX.t,Z2i hX.t h4] at h7
    have hget:(xs.map (dcl X.T t))[i]? = some (dcl X.T t (xs.getD i (tdf X.T t))):=by
      rw [List.getElem?_map,List.getElem?_eq_getElem h2,List.getD_eq_getElem?_getD,List.getElem?_eq_getElem h2];rfl
    have hle:Nat.ble (off+ti.size) (dcl X.T t (xs.getD i (tdf X.T t))).length=true:=by rw [Nat.ble_eq,Y7 hX.t];omega
    have hb:(Nat.beq u v'&&Nat.beq (dcl X.T t (xs.getD i (tdf X.T t))).length e&&Nat.beq p 0&&Za (cellsOf (dv X.T v))&&Nat.ble (off+ti.size) (dcl X.T t (xs.getD i (tdf X.T t))).length)=true:=by
      rw [hle,hu,Y7 hX.t,he,hp,Yp,Z4q hX.t,hf];rfl
    refine ⟨_,?_,ZQ rfl ZW,hk⟩
    simp only [dv,dvh,ho,Option.map_some,Option.bind_some,dvO,hget,hb,cond_true]
    rw [Yp,h7]
    simp [Y6,dvu,dvO,dv,dvl,List.map_set]
  | _=>cases hk
end Go.Ab
namespace Go.Ab
variable {S:Nat→Type} {R:Type} {X:Y9 S} (hX:XOk X)
include hX
theorem Z4x {t:Ty} {n:Nat} (hn:tsz X.T t=n) (xs:List (Val S t)):(xs.map (dcl X.T t)).all (fun c=>Nat.beq c.length n)=true:=by
  rw [List.all_eq_true]
  intro c hc
  obtain ⟨x,_,rfl⟩:=List.mem_map.1 hc
  rw [Y7 hX.t,hn];exact Nat.beq_refl n
theorem Zch {nid:Nat} {h:Nat→Option (Zi S)} {t:TypeId} {s x:TV S} {k:Z2w S R} {r:R} (hk:Za0 X nid h t s x k=some r) :
    Sim X.T (Z3c X.E nid (dvh X.T h) t (dv X.T s) (dv X.T x)) k r:=by
  unfold Za0 at hk
  obtain ⟨ti,h1,hk⟩:=Z0 hk
  unfold Z3c
  rw [h1]
  simp only [Option.bind_some]
  split at hk
  · rename_i e he
    simp only [he]
    obtain ⟨ei,h2,hk⟩:=Z0 hk
    obtain ⟨te,h3,hk⟩:=Z0 hk
    obtain ⟨xs,h4,hk⟩:=Z0 hk
    obtain ⟨h5,hk⟩:=Z2 hk
    have hsz:=(hX.code e te ei h3 h2).1
    rw [h2,Z9p h4]
    simp only [Option.bind_some,h5,cond_true]
    cases s with
    | nils =>
      cases xs with
      | nil=>exact Zr hk rfl
      | cons y ys =>
        simp only at hk
        obtain ⟨h6,hk⟩:=Z2 hk
        refine ⟨_,?_,ZQ rfl ZW,hk⟩
        simp only [dv,List.map_cons]
        rw [←List.map_cons,Z4x hX hsz.symm,List.length_map,h6]
        simp [Y6,dvu,dvO,dv]
    | rs id v =>
      simp only at hk
      obtain ⟨o,ho,hk⟩:=Z0 hk
      cases o<;>simp only [reduceCtorEq] at hk
      rename_i e' te' es p u
      obtain ⟨h6,hk⟩:=Z2 hk
      split at hk
      · rename_i q
        subst q
        obtain ⟨h7,hk⟩:=Z2 hk
        refine ⟨_,?_,ZQ rfl ZW,hk⟩
        simp only [dv,dvh,ho,Option.map_some,Option.bind_some,dvO]
        rw [h6,Z4x hX hsz.symm,List.length_map,List.length_map,h7]
        simp [Y6,dvu,dvO,dv]
      · cases hk
    | _=>cases hk
  · cases hk
theorem Z6O (ρ:Nat→Option (TV S)):∀ {ps:List (Nat×Operand)} {vs:List (Nat×TV S)},Z8A ρ ps=some vs→Z1O (dvr X.T ρ) ps=some (vs.map fun p=>(p.1,dv X.T p.2))
  | [],vs,h=>by cases h;rfl
  | (i,x)::ps,vs,h=>by
    simp only [Z8A] at h
    obtain ⟨v,h1,h⟩:=Z0 h
    obtain ⟨vs',h2,h⟩:=Z0 h
    cases h
    simp only [Z1O,ZG,h1,Option.map_some,Option.bind_some,Z6O ρ h2,List.map_cons]
theorem Z8b {fs:List (Nat×Nat)}:∀ {ps:List (Nat×TV S)} {cs r:List (TV S)},Z7E X fs ps cs=some r→Z13 fs X.E (ps.map fun p=>(p.1,dv X.T p.2)) (dvs X.T cs)=some (dvs X.T r)
  | [],cs,r,h=>by cases h;rfl
  | (i,v)::ps,cs,r,h=>by
    simp only [Z7E] at h
    obtain ⟨⟨ft,off⟩,h1,h⟩:=Z0 h
    obtain ⟨ti,h2,h⟩:=Z0 h
    obtain ⟨h3,h⟩:=Z2 h
    obtain ⟨cs',h4,h⟩:=Z0 h
    simp only at h2 h4
    obtain ⟨h5,h6⟩:=Z16 hX.t h4
    have h7:=Nat.eq_of_beq_eq_true h3
    have hle:Nat.ble (off+ti.size) (dvs X.T cs).length=true:=by rw [Nat.ble_eq,ZX hX.t];omega
    simp only [List.map_cons,Z13,h1,Option.bind_some,h2,Yp,ZX hX.t (Y4 v),h3,hle,Bool.and_self,cond_true,h6]
    exact Z8b h
theorem Z8a {t:Ty} {n:Nat}:∀ {ps:List (Nat×TV S)} {a a':Nat→Val S t},Z7D X t n ps a=some a'→Z1w (tsz X.T t) (ps.map fun p=>(p.1,dv X.T p.2)) (acl X.T t n a)=some (acl X.T t n a')
  | [],a,a',h=>by cases h;rfl
  | (i,v)::ps,a,a',h=>by
    simp only [Z7D] at h
    obtain ⟨x,h1,h⟩:=Z0 h
    obtain ⟨h2,h⟩:=Z2 h
    have h2:i<n:=by simpa [Tr.blt_dec] using h2
    have h3:cellsOf (dv X.T v)=dcl X.T t x:=by
      rw [Z35 hX.t h1]
      cases t<;>rfl
    have hin:i*tsz X.T t+tsz X.T t≤n*tsz X.T t:=by
      have:=Nat.mul_le_mul_right (tsz X.T t) h2
      rw [Nat.succ_mul] at this;exact this
    have h4:Y5 (acl X.T t n a) (i*tsz X.T t) (dcl X.T t x)=acl X.T t n (fun j=>bif Nat.beq j i then x else a j):=by
      rw [YN _ _ _ (by rw [YT hX.t,Y7 hX.t];exact hin),Zd6 h2,Z3t h2,Y7 hX.t]
      have hl:((List.range i).flatMap fun j=>dcl X.T t (a j)).length=i*tsz X.T t:=YT hX.t t i a
      generalize ((List.range i).flatMap fun j=>dcl X.T t (a j))=P1 at *
      rw [List.take_append_of_le_length (by omega),List.take_of_length_le (by omega),List.drop_append,List.drop_eq_nil_of_le (by omega),List.nil_append,hl,Nat.add_sub_cancel_left,List.drop_append,List.drop_eq_nil_of_le (by rw [Y7 hX.t];exact Nat.le_refl _),Y7 hX.t,Nat.sub_self,List.drop_zero,List.nil_append,List.append_assoc]
    have hb:Nat.beq (dcl X.T t x).length (tsz X.T t)=true:=by rw [Y7 hX.t];exact Nat.beq_refl _
    have hle:Nat.ble (i*tsz X.T t+tsz X.T t) (acl X.T t n a).length=true:=by rw [Nat.ble_eq,YT hX.t];exact hin
    simp only [List.map_cons,Z1w,h3,hb,hle,Bool.and_self,cond_true,h4]
    exact Z8a h
theorem ZbR {h:Nat→Option (Zi S)} {t:Ty}:∀ {k:Nat} {ps:List (Nat×TV S)} {xs:List (Val S t)},ZdG X h t k ps=some xs→Z5i (dvh X.T h) (tsz X.T t) k (ps.map fun p=>(p.1,dv X.T p.2))=some (xs.map (dcl X.T t))
  | _,[],xs,hr=>by cases hr;rfl
  | k,(i,v)::ps,xs,hr=>by
    simp only [ZdG] at hr
    obtain ⟨h1,hr⟩:=Z2 hr
    obtain ⟨c,h2,hr⟩:=Z0 hr
    obtain ⟨x,h3,hr⟩:=Z0 hr
    obtain ⟨r,h4,hr⟩:=Z0 hr
    cases hr
    have h5:=Z2i hX.t h3
    simp only [List.map_cons,Z5i,Yp,ZX hX.t,h1,cond_true,Z8j hX.t,h2,Option.map_some,Option.bind_some,h5,Z2c (Z2J hX.t t x),ZbR h4]
theorem Z5j:∀ (vs:List (Nat×TV S)),Zf ((vs.map fun p=>(p.1,dv X.T p.2)).map (·.2))=Yi (vs.map (·.2))
  | []=>rfl
  | v::vs=>by simp only [List.map_cons,Zf,Yi,Z6r hX.t,Z5j vs]
theorem ZdS {cs:List (TV S)} {base n:Nat} {t:Ty} {a:Nat→Val S t} (h:Z7S X.T cs base=some ⟨t,n,a⟩):∃ q,base+n*tsz X.T t≤(dvs X.T cs).length∧(dvs X.T cs).drop base=acl X.T t n a++q:=by
  unfold Z7S at h
  obtain ⟨q,h1,h⟩:=Z0 h
  split at h
  · rename_i t' n' a' q' hq'
    cases h
    obtain ⟨h5,h6⟩:=Z1t hX.t h1
    rw [←Z2y hX.t 10 q,hq',Zv] at h6
    refine ⟨dvs X.T q',?_,h6⟩
    have hl:=congrArg List.length h6
    rw [List.length_drop,List.length_append] at hl
    simp only [Y0] at hl
    rw [YT hX.t] at hl
    by_cases h0:n*tsz X.T t=0
    · have:wds X.T cs=base+wds X.T q:=h5
      rw [ZX hX.t];omega
    · omega
  · cases h
theorem Z7Y (t:Ty):∀ (n:Nat) (a:Nat→Val S t) (q:List DV),Z1J (tsz X.T t) n (acl X.T t n a++q)=((List.range n).map a).map (dcl X.T t)
  | 0,_,_=>rfl
  | n+1,a,q=>by
    have h1:acl X.T t (n+1) a=dcl X.T t (a 0)++acl X.T t n (fun j=>a (j+1)):=by
      unfold acl
      rw [List.range_succ_eq_map,List.flatMap_cons,List.flatMap_map]
    have hd:=Y7 hX.t t (a 0)
    unfold Z1J
    rw [h1,List.append_assoc,←hd,List.take_left,List.drop_left,hd,Z7Y t n,List.range_succ_eq_map,List.map_cons,List.map_cons,List.map_map,List.map_map,List.map_map]
    rfl
theorem Z8o {t:Ty} {e:Val S t→Val S t→Bool} (hs:Z8n X.T t=some e) (x y:Val S t):Z68 (YC X.T t x) (YC X.T t y)=some (e x y):=by
  cases t with
  | st i =>
    have hs':X.T.seq i=some e:=hs
    have h:=hX.t.seq i e hs' x y
    show Zg (X.T.dcells i x) (X.T.dcells i y)=some (e x y)
    exact h
  | bool=>cases hs;rfl
  | int k=>cases hs;simp [YC,Z68]
  | str=>cases hs;rfl
  | sl t=>cases hs
  | arr n t=>cases hs
theorem Z9x {kt et:Ty} {e:Val S kt→Val S kt→Bool} (hs:Z8n X.T kt=some e) (key:Val S kt):∀ m:List (Val S kt×Val S et),
    Z2A (YC X.T kt key) (m.map fun p=>(YC X.T kt p.1,YC X.T et p.2))=some ((Z8u e key m).map (YC X.T et))
  | []=>rfl
  | (k',v)::m=>by
    simp only [List.map_cons,Z2A,Z8o hX hs,Option.bind_some,Z8u]
    cases e key k' with
    | true=>rfl
    | false=>simp only [cond_false];exact Z9x hs key m
theorem Zby {kt et:Ty} {e:Val S kt→Val S kt→Bool} (hs:Z8n X.T kt=some e) (key:Val S kt) (x:Val S et):∀ m:List (Val S kt×Val S et),
    Z4w (YC X.T kt key) (YC X.T et x) (m.map fun p=>(YC X.T kt p.1,YC X.T et p.2))=some ((Zg8 e key x m).map fun p=>(YC X.T kt p.1,YC X.T et p.2))
  | []=>rfl
  | (k',v)::m=>by
    simp only [List.map_cons,Z4w,Z8o hX hs,Option.bind_some,Zg8]
    cases e key k' with
    | true=>simp
    | false=>simp only [cond_false,Zby hs key x m,Option.bind_some,List.map_cons]
theorem Z7j {ki:TI} {kt:TypeId} (hki:X.E.ty kt=some ki) {t:Ty} {x:Val S t} (h:Z69 X.T ki (X.zero kt) t x=true):Yg ki (YC X.T t x)=true:=by
  unfold Z69 at h
  split at h
  · rename_i k n x hk;simp [YC,Yg,hk]
  · rename_i x hk;simp [YC,Yg,hk]
  · rename_i x hk;simp [YC,Yg,hk]
  · rename_i fs i x hk
    simp only [Bool.and_eq_true] at h
    obtain ⟨⟨h1,h2⟩,h3⟩:=h
    cases hz:X.zero kt with
    | none=>rw [hz] at h3;cases h3
    | some z =>
      rw [hz] at h3
      simp only at h3
      have h4:=Z1N X.T h3
      rw [Z23 hX.t,Z23 hX.t,hX.zero kt z ki hz hki] at h4
      simp only [dvs,List.append_nil] at h4
      simp [YC,Yg,hk,h1,h2,h4]
  · cases h
omit hX in
theorem Ze0 {T:TS S} {t:Ty} (h:YM t=false) (x:Val S t):Zz (YC T t x)=true∧Zb (YC T t x)=true:=by
  cases t<;>simp [YM] at h<;>simp [YC,Zz,Zb]
theorem Zg1 {k:TK} {h:Nat→Option (Zi S)} {d v:TV S} (hl:ZgD k h d=some v):Z5y k (dvh X.T h) (dv X.T d)=some (dv X.T v):=by
  unfold ZgD at hl
  split at hl<;>first|(cases hl;done)|skip
  · cases hl;simp [dv,Z5y]
  · cases hl;simp [dv,Z5y]
  · obtain ⟨o,ho,hl⟩:=Z0 hl
    cases o<;>simp only [reduceCtorEq] at hl
    cases hl
    simp [dv,Z5y,dvh,ho,dvO]
  · cases hl;simp [dv,Z5y,Ym]
  · cases hl;simp [dv,Z5y,Ym]
  · cases hl;simp [dv,Z5y,Ym]
  · obtain ⟨o,ho,hl⟩:=Z0 hl
    cases o<;>simp only [reduceCtorEq] at hl
    obtain ⟨h1,hl⟩:=Z2 hl
    cases hl
    simp [dv,Z5y,dvh,ho,dvO,Ym,h1]
  · cases hl;simp [dv,Z5y]
theorem Z8f {f:TV S→TV S→Option (TV S)} {g:DV→DV→Option DV} (hf:∀ x y z,f x y=some z→g (dv X.T x) (dv X.T y)=some (dv X.T z)):∀ {xs:List (TV S)} {x z:TV S},Zbd f x xs=some z→Z63 g (dv X.T x) (dvl X.T xs)=some (dv X.T z)
  | [],x,z,h=>by cases h;simp [dvl,Z63]
  | y::ys,x,z,h=>by
    simp only [Zbd] at h
    obtain ⟨w,h1,h⟩:=Z0 h
    simp only [dvl,Z63,hf _ _ _ h1,Option.bind_some]
    exact Z8f hf h
theorem Zg6 (x y z:TV S) (h:Zf6 x y=some z):Zbx (dv X.T x) (dv X.T y)=some (dv X.T z):=by
  unfold Zf6 at h
  split at h
  · cases h;simp [dv,Zbx]
  · cases h
theorem Zg5 (x y z:TV S) (h:Zf4 x y=some z):Zbw (dv X.T x) (dv X.T y)=some (dv X.T z):=by
  unfold Zf4 at h
  split at h
  · cases h;simp [dv,Zbw]
  · cases h
omit hX in
theorem ZeF (s:ByteArray) (i:Nat) (hi:i<s.size):(s[i]?).bind (fun b=>ret (.int .u8 b.toNat))=ret (.int .u8 (s.toList.getD i 0).toNat):=by
  have h1:s[i]? = some s[i]:=by simp [hi]
  rw [h1]
  have h2:s.toList.getD i 0=s[i]:=by
    rw [List.getD_eq_getElem?_getD]
    simp [ByteArray.toList_eq,hi]
    rfl
  rw [h2];rfl
end Go.Ab
namespace Go.Ab
variable {S:Nat→Type} {R:Type} {X:Y9 S} (hX:XOk X)
include hX
theorem Z3L {nid:Nat} {ρ:Nat→Option (TV S)} {h:Nat→Option (Zi S)} {op:Op} {k:Z2w S R} {r:R} (hk:opK X nid ρ h op k=some r)
    (hop:(∃ t ps,op = .build t ps)∨(∃ t n ps,op = .buildSlice t n ps)∨(∃ t x lo hi,op = .slice t x lo hi none)∨(∃ t x i,op = .indexAddr t x i)∨(∃ t x i,op = .index t x i)∨(∃ t m x ok,op = .lookup t m x ok)∨(∃ t m x v,op = .mapUpdate t m x v)) :
    Sim X.T (Zx X.E nid (dvr X.T ρ) (dvh X.T h) op) k r:=by
  rcases hop with ⟨t,ps,rfl⟩|⟨t,n,ps,rfl⟩|⟨t,x,lo,hi,rfl⟩|⟨t,x,i,rfl⟩|⟨t,x,i,rfl⟩|⟨t,m,x,ok,rfl⟩|⟨t,m,x,v,rfl⟩
  · simp only [opK] at hk
    obtain ⟨ti,h1,hkk⟩:=Z0 hk;replace hk:=hkk;clear hkk
    obtain ⟨vs,h2,hkk⟩:=Z0 hk;replace hk:=hkk;clear hkk
    obtain ⟨z,h3,hkk⟩:=Z0 hk;replace hk:=hkk;clear hkk
    have hz:=hX.zero t z ti h3 h1
    simp only [Zx,h1,Option.bind_some,Z6O hX ρ h2]
    split at hk
    · rename_i fs he
      obtain ⟨cs,h4,hkk⟩:=Z0 hk;replace hk:=hkk;clear hkk
      simp only [he]
      rw [←hz,Z8b hX h4]
      exact Zr hk rfl
    · rename_i len e he
      obtain ⟨ei,hei,hkk⟩:=Z0 hk;replace hk:=hkk;clear hkk
      obtain ⟨te,h4,hkk⟩:=Z0 hk;replace hk:=hkk;clear hkk
      split at hk
      · rename_i te' n a
        split at hk
        · rename_i q
          subst q
          obtain ⟨a',h5,hkk⟩:=Z0 hk;replace hk:=hkk;clear hkk
          simp only [he]
          have hsz:=(hX.code e te' ei h4 hei).1
          have hz':ti.zero=acl X.T te' n a:=by rw [←hz];simp [dvs]
          simp only [hei,Option.bind_some]
          rw [hz',hsz,Z8a hX h5]
          refine Zr hk ?_
          simp [dv,dvs,ret]
        · cases hk
      · cases hk
    · cases hk
  · simp only [opK] at hk
    obtain ⟨ti,h1,hkk⟩:=Z0 hk;replace hk:=hkk;clear hkk
    simp only [Zx,h1,Option.bind_some]
    split at hk
    · rename_i e he
      obtain ⟨ei,h2,hkk⟩:=Z0 hk;replace hk:=hkk;clear hkk
      obtain ⟨te,h3,hkk⟩:=Z0 hk;replace hk:=hkk;clear hkk
      obtain ⟨vs,h4,hkk⟩:=Z0 hk;replace hk:=hkk;clear hkk
      obtain ⟨es,h5,hkk⟩:=Z0 hk;replace hk:=hkk;clear hkk
      obtain ⟨h6,hkk⟩:=Z2 hk;replace hk:=hkk;clear hkk
      have hsz:=(hX.code e te ei h3 h2).1
      simp only [he,h2,Option.bind_some,Z6O hX ρ h4]
      rw [hsz,ZbR hX h5]
      simp only [Option.bind_some,List.length_map]
      rw [hsz] at h6
      rw [h6]
      refine ⟨_,?_,ZQ rfl (Z2b _ _),hk⟩
      simp only [cond_true,Y6,dvu,List.map_cons,Option.map_some,dvO,dv,Z6t,Z5j hX]
    · cases hk
  · simp only [opK] at hk
    obtain ⟨ti,h1,hkk⟩:=Z0 hk;replace hk:=hkk;clear hkk
    obtain ⟨d,h2,hkk⟩:=Z0 hk;replace hk:=hkk;clear hkk
    obtain ⟨lo',h3,hkk⟩:=Z0 hk;replace hk:=hkk;clear hkk
    obtain ⟨hi',h4,hkk⟩:=Z0 hk;replace hk:=hkk;clear hkk
    simp only [Zx,h1,Option.bind_some,ZG,h2,Option.map_some,ZgH,h3,h4]
    split at hk
    · rename_i s he
      simp only [he,dv]
      obtain ⟨hh,h5,hkk⟩:=Z2H (T:=X.T) hk;replace hk:=hkk;clear hkk
      obtain ⟨l,h6,hkk⟩:=Z2H (T:=X.T) hk;replace hk:=hkk;clear hkk
      simp only [ZcZ,h5,h6,Option.bind_some]
      exact Zr hk rfl
    · rename_i n e id off he
      obtain ⟨ei,h5,hkk⟩:=Z0 hk;replace hk:=hkk;clear hkk
      obtain ⟨o,ho,hkk⟩:=Z0 hk;replace hk:=hkk;clear hkk
      cases o<;>simp only [reduceCtorEq] at hk
      rename_i ct cs
      obtain ⟨A,hA,hkk⟩:=Z0 hk;replace hk:=hkk;clear hkk
      obtain ⟨h8,hkk⟩:=Z2 hk;replace hk:=hkk;clear hkk
      obtain ⟨hh,h9,hkk⟩:=Z2H (T:=X.T) hk;replace hk:=hkk;clear hkk
      obtain ⟨l,h10,hkk⟩:=Z2H (T:=X.T) hk;replace hk:=hkk;clear hkk
      obtain ⟨t,m,a⟩:=A
      simp only [Bool.and_eq_true] at h8
      obtain ⟨⟨e1,e2⟩,e3⟩:=h8
      have e1:=Nat.eq_of_beq_eq_true e1
      have e2:=Nat.eq_of_beq_eq_true e2
      subst e1
      obtain ⟨q,g1,g2⟩:=ZdS hX hA
      have hal:=YT hX.t t m a
      have hdl:=congrArg List.length g2
      rw [List.length_drop,List.length_append,hal] at hdl
      have c1:Nat.ble (off+m*ei.size) (dvs X.T cs).length=true:=by rw [Nat.ble_eq,←e2];omega
      have c2:Za (((dvs X.T cs).drop off).take (m*ei.size))=true:=by
        rw [g2,←e2,←hal,List.take_left]
        exact Z1z (Yj hX.t t m a)
      have c3:Z1J ei.size m ((dvs X.T cs).drop off)=((List.range m).map a).map (dcl X.T t):=by
        rw [g2,←e2];exact Z7Y hX t m a q
      simp only [he,dv,h5,Option.bind_some,dvh,ho,Option.map_some,dvO,c1,c2,e3,Bool.and_self,cond_true,c3,Z7s,List.length_map,List.length_range,h9,h10]
      refine ⟨_,?_,ZQ rfl ZW,hk⟩
      simp [Y6,dvu,dv,List.map_drop,List.map_take]
    · rename_i d e he
      obtain ⟨ei,h5,hkk⟩:=Z0 hk;replace hk:=hkk;clear hkk
      obtain ⟨te,h6,hkk⟩:=Z0 hk;replace hk:=hkk;clear hkk
      obtain ⟨es,h7,hkk⟩:=Z0 hk;replace hk:=hkk;clear hkk
      obtain ⟨h8,hkk⟩:=Z2 hk;replace hk:=hkk;clear hkk
      obtain ⟨hh,h9,hkk⟩:=Z2H (T:=X.T) hk;replace hk:=hkk;clear hkk
      obtain ⟨l,h10,hkk⟩:=Z2H (T:=X.T) hk;replace hk:=hkk;clear hkk
      have hsz:=(hX.code e te ei h6 h5).1
      simp only [he,h5,Option.bind_some,Z9p h7,Z4x hX hsz.symm,h8,Bool.and_self,cond_true,Z7s,List.length_map,h9,h10]
      refine ⟨_,?_,Z2b _ _,hk⟩
      simp only [Y6,Option.map_some,dv,List.map_drop,List.map_take,Z6t,Z6r hX.t]
    · cases hk
  · simp only [opK] at hk
    obtain ⟨ti,h1,hkk⟩:=Z0 hk;replace hk:=hkk;clear hkk
    obtain ⟨d,h2,hkk⟩:=Z0 hk;replace hk:=hkk;clear hkk
    obtain ⟨i',h3,hkk⟩:=Z0 hk;replace hk:=hkk;clear hkk
    simp only [Zx,h1,Option.bind_some,ZG,h2,Option.map_some,h3]
    split at hk
    · rename_i len e he
      obtain ⟨ei,h4,hkk⟩:=Z0 hk;replace hk:=hkk;clear hkk
      simp only [he,h4,Option.bind_some]
      cases d with
      | ptr id o =>
        simp only at hk
        obtain ⟨j,h5,h6,hkk⟩:=Z4T (T:=X.T) hk;replace hk:=hkk;clear hkk
        obtain ⟨_,hkk⟩:=Z2 hk;replace hk:=hkk;clear hkk
        simp only [h5,Option.bind_some,dv,Z19]
        exact Zr hk (by simp [dv,ret])
      | pub cs0 =>
        simp only at hk
        split at hk
        · rename_i t' n a cs hcs
          obtain ⟨h5,hkk⟩:=Z2 hk;replace hk:=hkk;clear hkk
          obtain ⟨j,h6,h7,hkk⟩:=Z4T (T:=X.T) hk;replace hk:=hkk;clear hkk
          simp only [Bool.and_eq_true] at h5
          have e1:=Nat.eq_of_beq_eq_true h5.1
          have e2:=Nat.eq_of_beq_eq_true h5.2
          subst e1
          have hl:((List.range j).flatMap fun j=>dcl X.T t' (a j)).length=j*tsz X.T t':=YT hX.t t' j a
          have hcut:(dvs X.T cs0).drop (j*ei.size)=dvs X.T (tcl X.T t' (a j) ++ .arr t' (n-(j+1)) (fun m=>a (j+1+m))::cs):=by
            rw [←Z2y hX.t 10 cs0,hcs,Z1K,Zv,Zv,Z2F hX.t,←e2]
            simp only [Y0]
            rw [Z3t h7,List.append_assoc,List.drop_append,hl,Nat.sub_self,List.drop_eq_nil_of_le (by omega),List.nil_append,List.drop_zero,List.append_assoc]
            congr 2
            unfold acl
            rw [List.range'_eq_map_range,List.flatMap_map]
          simp only [h6,Option.bind_some,dv,Z19,hcut]
          exact Zr hk (by simp [dv,ret])
        · cases hk
      | _=>cases hk
    · rename_i e he
      obtain ⟨ei,h4,hkk⟩:=Z0 hk;replace hk:=hkk;clear hkk
      simp only [he,h4,Option.bind_some]
      cases d with
      | sl te xs =>
        simp only at hk
        obtain ⟨h5,hkk⟩:=Z2 hk;replace hk:=hkk;clear hkk
        obtain ⟨j,h6,h7,hkk⟩:=Z4T (T:=X.T) hk;replace hk:=hkk;clear hkk
        simp only [Bool.and_eq_true] at h5
        have e1:=Nat.eq_of_beq_eq_true h5.1
        have hg:xs.getD j (tdf X.T te)=xs[j]:=by simp [List.getD_eq_getElem?_getD,h7]
        rw [hg] at hk
        simp only [dv,List.length_map,h6,Option.bind_some,List.getElem?_map,List.getElem?_eq_getElem h7,Option.map_some]
        have h8:Nat.beq (dcl X.T te xs[j]).length ei.size=true:=by rw [Y7 hX.t,e1];exact Nat.beq_refl _
        rw [h8,h5.2]
        exact Zr hk (by simp [dv,Z2F hX.t,ret])
      | rs id v =>
        simp only at hk
        obtain ⟨o,ho,hkk⟩:=Z0 hk;replace hk:=hkk;clear hkk
        cases o<;>simp only [reduceCtorEq] at hk
        obtain ⟨h5,hkk⟩:=Z2 hk;replace hk:=hkk;clear hkk
        obtain ⟨j,h6,h7,hkk⟩:=Z4T (T:=X.T) hk;replace hk:=hkk;clear hkk
        simp only [dv,dvh,ho,Option.map_some,Option.bind_some,dvO,List.length_map,h6,h5,cond_true]
        exact Zr hk rfl
      | _=>cases hk
    · cases hk
  · simp only [opK] at hk
    obtain ⟨ti,h1,hkk⟩:=Z0 hk;replace hk:=hkk;clear hkk
    obtain ⟨d,h2,hkk⟩:=Z0 hk;replace hk:=hkk;clear hkk
    obtain ⟨i',h3,hkk⟩:=Z0 hk;replace hk:=hkk;clear hkk
    simp only [Zx,h1,Option.bind_some,ZG,h2,Option.map_some,h3]
    split at hk
    · rename_i len e te n a he
      obtain ⟨ei,h4,hkk⟩:=Z0 hk;replace hk:=hkk;clear hkk
      obtain ⟨h5,hkk⟩:=Z2 hk;replace hk:=hkk;clear hkk
      obtain ⟨j,h6,h7,hkk⟩:=Z4T (T:=X.T) hk;replace hk:=hkk;clear hkk
      simp only [Bool.and_eq_true] at h5
      have e1:=Nat.eq_of_beq_eq_true h5.1.1
      have e2:=Nat.eq_of_beq_eq_true h5.1.2
      have e3:=eq_of_beq h5.2
      subst e1
      simp only [he,h4,Option.bind_some,dv,h6]
      have hp:Yy ei (dvs X.T [.arr te n a]) (j*ei.size)=some (YC X.T te (a j)):=by
        have hl:((List.range j).flatMap fun j=>dcl X.T te (a j)).length=j*tsz X.T te:=YT hX.t te j a
        have hd:=Y7 hX.t te (a j)
        have hal:=YT hX.t te n a
        have hin:j*tsz X.T te+tsz X.T te≤n*tsz X.T te:=by
          have:=Nat.mul_le_mul_right (tsz X.T te) h7
          rw [Nat.succ_mul] at this;exact this
        simp only [dvs,List.append_nil]
        unfold Yy
        rw [←e2,e3]
        have hle:Nat.ble (j*tsz X.T te+tsz X.T te) (acl X.T te n a).length=true:=by rw [Nat.ble_eq,hal];exact hin
        have hdrop:(acl X.T te n a).drop (j*tsz X.T te)=dcl X.T te (a j)++(List.range' (j+1) (n-(j+1))).flatMap fun j=>dcl X.T te (a j):=by
          rw [Z3t h7,List.drop_append,hl,Nat.sub_self,List.drop_eq_nil_of_le (by omega)];rfl
        cases hag:YM te with
        | true =>
          simp only [cond_true,hle,hdrop]
          rw [List.take_append_of_le_length (by omega),List.take_of_length_le (by omega)]
          cases te<;>simp [YM] at hag<;>rfl
        | false =>
          simp only [cond_false]
          have:(acl X.T te n a)[j*tsz X.T te]? = ((acl X.T te n a).drop (j*tsz X.T te))[0]? := by simp
          rw [this,hdrop,Z81 _ hag];rfl
      rw [hp]
      exact Zr hk (by rw [Z1B hX.t];rfl)
    · rename_i s he
      obtain ⟨j,h6,h7,hkk⟩:=Z4T (T:=X.T) hk;replace hk:=hkk;clear hkk
      simp only [he,dv,h6,Option.bind_some,ZeF s j h7]
      exact Zr hk rfl
    · cases hk
  · simp only [opK] at hk
    obtain ⟨ti,h1,hkk⟩:=Z0 hk;replace hk:=hkk;clear hkk
    obtain ⟨mv,h2,hkk⟩:=Z0 hk;replace hk:=hkk;clear hkk
    obtain ⟨kv,h3,hkk⟩:=Z0 hk;replace hk:=hkk;clear hkk
    simp only [Zx,h1,Option.bind_some,ZG,h2,Option.map_some,h3]
    split at hk
    · rename_i kt e id he
      obtain ⟨ei,h4,hkk⟩:=Z0 hk;replace hk:=hkk;clear hkk
      obtain ⟨ki,h5,hkk⟩:=Z0 hk;replace hk:=hkk;clear hkk
      obtain ⟨z,h6,hkk⟩:=Z0 hk;replace hk:=hkk;clear hkk
      obtain ⟨o,ho,hkk⟩:=Z0 hk;replace hk:=hkk;clear hkk
      cases o<;>simp only [reduceCtorEq] at hk
      rename_i kc ec es
      obtain ⟨key,h8,hkk⟩:=Z0 hk;replace hk:=hkk;clear hkk
      obtain ⟨h7,hkk⟩:=Z2 hk;replace hk:=hkk;clear hkk
      obtain ⟨zv,h9,hkk⟩:=Z0 hk;replace hk:=hkk;clear hkk
      obtain ⟨eq,h10,hkk⟩:=Z0 hk;replace hk:=hkk;clear hkk
      simp only [Bool.and_eq_true,Bool.not_eq_true'] at h7
      obtain ⟨⟨⟨q1,q2⟩,q3⟩,q4⟩:=h7
      have hz:=hX.zero e z ei h6 h4
      have hkey:=Z35 hX.t h8
      have hzd:ei.zero=[YC X.T ec zv]:=by rw [←hz,Z2i hX.t h9,Z81 _ q4]
      simp only [he,h4,h5,Option.bind_some,dv,dvh,ho,Option.map_some,dvO,hkey,Z7j hX h5 q1,q2,q3,Bool.not_false,Bool.and_self,cond_true,Z9x hX h10,hzd]
      cases hm:Z8u eq key es with
      | none =>
        rw [hm] at hk
        cases ok
        · exact Zr hk (by simp [Z1B hX.t])
        · exact Zr hk (by simp [dv,dvl,Z1B hX.t])
      | some v =>
        rw [hm] at hk
        cases ok
        · exact Zr hk (by simp [Z1B hX.t])
        · exact Zr hk (by simp [dv,dvl,Z1B hX.t])
    · cases hk
  · simp only [opK] at hk
    obtain ⟨ti,h1,hkk⟩:=Z0 hk;replace hk:=hkk;clear hkk
    obtain ⟨mv,h2,hkk⟩:=Z0 hk;replace hk:=hkk;clear hkk
    obtain ⟨kv,h3,hkk⟩:=Z0 hk;replace hk:=hkk;clear hkk
    obtain ⟨vv,h3',hkk⟩:=Z0 hk;replace hk:=hkk;clear hkk
    simp only [Zx,h1,Option.bind_some,ZG,h2,Option.map_some,h3,h3']
    split at hk
    · rename_i kt e id he
      obtain ⟨ki,h5,hkk⟩:=Z0 hk;replace hk:=hkk;clear hkk
      obtain ⟨o,ho,hkk⟩:=Z0 hk;replace hk:=hkk;clear hkk
      cases o<;>simp only [reduceCtorEq] at hk
      rename_i kc ec es
      obtain ⟨key,h8,hkk⟩:=Z0 hk;replace hk:=hkk;clear hkk
      obtain ⟨h7,hkk⟩:=Z2 hk;replace hk:=hkk;clear hkk
      obtain ⟨_,_,hkk⟩:=Z0 hk;replace hk:=hkk;clear hkk
      obtain ⟨xv,h9,hkk⟩:=Z0 hk;replace hk:=hkk;clear hkk
      obtain ⟨eq,h10,hkk⟩:=Z0 hk;replace hk:=hkk;clear hkk
      simp only [Bool.and_eq_true,Bool.not_eq_true'] at h7
      obtain ⟨q1,q4⟩:=h7
      have hkey:=Z35 hX.t h8
      have hval:=Z35 hX.t h9
      obtain ⟨c1,c2⟩:=Ze0 q4 xv
      simp only [he,h5,Option.bind_some,dv,dvh,ho,Option.map_some,dvO,hkey,hval,Z7j hX h5 q1,c1,c2,Bool.and_self,cond_true,Zby hX h10]
      refine ⟨_,?_,ZQ rfl ZW,hk⟩
      rw [c1,c2]
      simp [Y6,dvu,dvO,dv,dvl]
    · cases hk
omit hX in
theorem Z50 {T:TS S} (nid:Nat):∀ cs:List (TV S),dvs T (Z8G nid cs)=dvs T cs
  | []=>rfl
  | c::cs=>by
    cases c<;>first|(simp only [Z8G,Zv,Z50 nid cs];done)|skip
    rename_i ts n
    simp only [Z8G,Zv,Z50 nid cs]
    congr 1
    simp only [Y0,eal]
    have e:enD nid ts 0 = .nilif:=by cases ts<;>rfl
    rw [e,List.map_const',List.length_range]
theorem Zet {t:TypeId} {ti:TI} {z:TV S} (h1:X.E.ty t=some ti) (h:zeroT X t ti=some z):Z17 ti=some (dv X.T z):=by
  unfold zeroT at h
  obtain ⟨zs,h2,h⟩:=Z0 h
  have hz:=hX.zero t zs ti h2 h1
  unfold Z17
  cases ha:ti.isAgg with
  | true =>
    rw [ha] at h
    simp only [cond_true,Option.some.injEq] at h ⊢
    subst h
    rw [←hz];simp [dv]
  | false =>
    rw [ha] at h
    simp only [cond_false] at h ⊢
    split at h
    · rename_i c
      cases hc:ZP c with
      | true=>rw [hc] at h;cases h
      | false =>
        rw [hc] at h
        cases h
        rw [←hz]
        have:dvs X.T [z]=[dv X.T z]:=by
          rw [Zv,Z7C,List.append_nil]
          cases z<;>simp [Y0,ZP] at hc ⊢
        rw [this];rfl
    · cases h
theorem ZgG {nid:Nat} {ρ:Nat→Option (TV S)} {h:Nat→Option (Zi S)} {op:Op} {k:Z2w S R} {r:R} (hk:opK X nid ρ h op k=some r) :
    Sim X.T (Zx X.E nid (dvr X.T ρ) (dvh X.T h) op) k r:=by
  cases op with
  | build t ps=>exact Z3L hX hk (.inl ⟨_,_,rfl⟩)
  | buildSlice t n ps=>exact Z3L hX hk (.inr (.inl ⟨_,_,_,rfl⟩))
  | slice t x lo hi mx =>
    cases mx with
    | none=>exact Z3L hX hk (.inr (.inr (.inl ⟨_,_,_,_,rfl⟩)))
    | some _=>cases hk
  | indexAddr t x i=>exact Z3L hX hk (.inr (.inr (.inr (.inl ⟨_,_,_,rfl⟩))))
  | index t x i=>exact Z3L hX hk (.inr (.inr (.inr (.inr (.inl ⟨_,_,_,rfl⟩)))))
  | lookup t m x ok=>exact Z3L hX hk (.inr (.inr (.inr (.inr (.inr (.inl ⟨_,_,_,_,rfl⟩))))))
  | mapUpdate t m x v=>exact Z3L hX hk (.inr (.inr (.inr (.inr (.inr (.inr ⟨_,_,_,_,rfl⟩))))))
  | makeInterface t x =>
    obtain ⟨ti,h1,hk⟩:=Z0 hk
    obtain ⟨v,h2,hk⟩:=Z0 hk
    cases ha:ZP v with
    | true=>rw [ha] at hk;cases hk
    | false =>
      rw [ha] at hk
      simp only [cond_false] at hk
      simp only [Zx,h1,Option.bind_some,ZG,h2,Option.map_some]
      cases hk2:ti.k<;>rw [hk2] at hk<;>first|exact Zr hk rfl|cases hk
  | typeAssert x xt t ok =>
    obtain ⟨ti,h1,hk⟩:=Z0 hk
    obtain ⟨v,h2,hk⟩:=Z0 hk
    simp only [Zx,h1,Option.bind_some,ZG,h2,Option.map_some]
    have hf:∀ {r:R},(bif ok then (zeroT X t ti).bind fun z=>ZL (.tup [z,.bool false]) k else none)=some r→Sim X.T (bif ok then (Z17 ti).bind fun z=>ret (.tup [z,.bool false]) else none) k r:=fun h=>by
      cases ok with
      | false=>cases h
      | true =>
        obtain ⟨z,h3,h⟩:=Z0 h
        simp only [cond_true,Zet hX h1 h3,Option.bind_some]
        exact Zr h (by simp [dv,dvl])
    cases v with
    | nilif=>cases hk2:ti.k<;>rw [hk2] at hk<;>first|exact hf hk|cases hk
    | iface t' w =>
      have h3:(bif Nat.beq t' t then ZL (bif ok then .tup [w,.bool true] else w) k else bif ok then (zeroT X t ti).bind fun z=>ZL (.tup [z,.bool false]) k else none)=some r∧ti.k ≠ .iface:=by
        cases hk2:ti.k<;>rw [hk2] at hk<;>first|exact ⟨hk,by simp⟩|cases hk
      obtain ⟨h3,hni⟩:=h3
      have h4:Sim X.T (bif Nat.beq t' t then ret (bif ok then .tup [dv X.T w,.bool true] else dv X.T w) else bif ok then (Z17 ti).bind fun z=>ret (.tup [z,.bool false]) else none) k r:=by
        cases hq:Nat.beq t' t with
        | true =>
          rw [hq] at h3
          cases ok
          · exact Zr h3 rfl
          · exact Zr h3 (by simp [dv,dvl])
        | false=>rw [hq] at h3;exact hf h3
      simp only [dv]
      cases hk2:ti.k<;>first|exact h4|exact absurd hk2 hni
    | _=>cases hk2:ti.k<;>rw [hk2] at hk<;>cases hk
  | makeSlice t l c =>
    obtain ⟨ti,h1,hk⟩:=Z0 hk
    obtain ⟨dl,h2,hk⟩:=Z0 hk
    obtain ⟨dc,h3,hk⟩:=Z0 hk
    simp only [Zx,h1,Option.bind_some,ZG,h2,h3,Option.map_some]
    cases he:ti.k with
    | slice e =>
      rw [he] at hk
      obtain ⟨k1,n,rfl⟩:∃ k n,dl = .int k n:=by cases dl<;>first|exact ⟨_,_,rfl⟩|cases hk
      obtain ⟨k2,n',rfl⟩:∃ k n,dc = .int k n:=by cases dc<;>first|exact ⟨_,_,rfl⟩|cases hk
      simp only at hk
      obtain ⟨ei,h4,hk⟩:=Z0 hk
      obtain ⟨te,h5,hk⟩:=Z0 hk
      obtain ⟨z,h6,hk⟩:=Z0 hk
      obtain ⟨zv,h7,hk⟩:=Z0 hk
      obtain ⟨h8,hk⟩:=Z2 hk
      have hz:=hX.zero e z ei h6 h4
      have hzd:ei.zero=dcl X.T te zv:=by rw [←hz,Z2i hX.t h7]
      have hfree:Za ei.zero=true:=by rw [hzd];exact Z1z (Z2J hX.t te zv)
      simp only [dv,h4,Option.bind_some,h8,hfree,Bool.and_self,cond_true]
      refine ⟨_,?_,ZQ rfl ZW,hk⟩
      simp [Y6,dvu,dvO,dv,hzd,List.map_replicate]
    | _=>rw [he] at hk;cases hk
  | move x =>
    obtain ⟨v,h1,hk⟩:=Z0 hk
    simp only [Zx,ZG,h1,Option.map_some,Option.bind_some]
    exact Zr hk rfl
  | assign x =>
    obtain ⟨v,h1,hk⟩:=Z0 hk
    simp only [Zx,ZG,h1,Option.map_some,Option.bind_some]
    exact Zr hk rfl
  | pick c a b =>
    obtain ⟨v,h1,hk⟩:=Z0 hk
    cases v<;>simp only [reduceCtorEq] at hk
    rename_i c
    simp only [Zx,ZG,h1,Option.map_some,Option.bind_some,dv]
    unfold Zgs at hk
    split at hk
    · rename_i x y ha hb
      rw [ha,hb]
      cases c<;>exact Zr hk rfl
    · cases c with
      | true =>
        simp only [cond_true] at hk ⊢
        obtain ⟨v,h2,hk⟩:=Z0 hk
        rw [h2];exact Zr hk rfl
      | false =>
        simp only [cond_false] at hk ⊢
        obtain ⟨v,h2,hk⟩:=Z0 hk
        rw [h2];exact Zr hk rfl
  | alloc t =>
    obtain ⟨ti,h1,hk⟩:=Z0 hk
    obtain ⟨z,h2,hk⟩:=Z0 hk
    refine ⟨_,?_,ZQ rfl ZW,hk⟩
    simp only [Zx,h1,Option.bind_some,Y6,dvu,List.map_cons,List.map_nil,Option.map_some,dv,dvO,Z4X hX,Z50,hX.zero t z ti h2 h1]
  | box t x =>
    obtain ⟨v,h1,hk⟩:=Z0 hk
    obtain ⟨h2,hk⟩:=Z2 hk
    refine ⟨_,?_,ZQ rfl ZW,hk⟩
    have h3:=Z79 hX h2
    rw [Yp] at h3
    simp only [Zx,ZG,h1,Option.map_some,Option.bind_some,Yp,h3,cond_true,Y6,dvu,List.map_cons,List.map_nil,dv,dvO,Z4X hX,Z50]
  | load t a =>
    obtain ⟨ti,h1,hk⟩:=Z0 hk
    obtain ⟨v,h2,hk⟩:=Z0 hk
    simp only [Zx,h1,ZG,h2,Option.map_some,Option.bind_some]
    exact Zbs hX hk
  | store t a x =>
    obtain ⟨ti,h1,hk⟩:=Z0 hk
    obtain ⟨v,h2,hk⟩:=Z0 hk
    obtain ⟨u,h3,hk⟩:=Z0 hk
    simp only [Zx,h1,ZG,h2,h3,Option.map_some,Option.bind_some]
    exact Zep hX hk
  | nilCheck x =>
    obtain ⟨v,h1,hk⟩:=Z0 hk
    simp only [Zx,ZG,h1,Option.map_some,Option.bind_some]
    cases v<;>simp only [reduceCtorEq] at hk<;>exact Zr hk rfl
  | binOp op t x y u =>
    obtain ⟨a,h1,hk⟩:=Z0 hk
    obtain ⟨b,h2,hk⟩:=Z0 hk
    simp only [Zx,ZG,h1,h2,Option.map_some,Option.bind_some]
    exact ZfH hX hk
  | unOp op t x =>
    obtain ⟨a,h1,hk⟩:=Z0 hk
    simp only [Zx,ZG,h1,Option.map_some,Option.bind_some]
    exact ZgR hk
  | convert s d x =>
    obtain ⟨ts,h1,hk⟩:=Z0 hk
    obtain ⟨td,h2,hk⟩:=Z0 hk
    obtain ⟨v,h3,hk⟩:=Z0 hk
    simp only [Zx,h1,h2,ZG,h3,Option.map_some,Option.bind_some]
    split at hk
    · rename_i he;simp only [he,dv];exact Zr hk rfl
    · rename_i he;simp only [he,dv];exact Zr hk rfl
    · cases hk
  | makeFunc f a c =>
    obtain ⟨as,h1,hk⟩:=Z0 hk
    obtain ⟨bs,h2,hk⟩:=Z0 hk
    simp only [Zx,Z2X,h1,h2,Option.map_some,Option.bind_some]
    exact Zr hk (by simp [dv,ret])
  | makeMap t sz =>
    cases sz with
    | some _=>cases hk
    | none =>
      obtain ⟨ti,h1,hk⟩:=Z0 hk
      split at hk
      · obtain ⟨kt,h2,hk⟩:=Z0 hk
        obtain ⟨et,h3,hk⟩:=Z0 hk
        refine ⟨_,?_,ZQ rfl ZW,hk⟩
        simp [Zx,Y6,dvu,dv,dvO]
      · cases hk
  | fieldAddr s x f =>
    obtain ⟨ti,h1,hk⟩:=Z0 hk
    obtain ⟨v,h2,hk⟩:=Z0 hk
    simp only [Zx,h1,ZG,h2,Option.map_some,Option.bind_some]
    split at hk
    · rename_i fs he
      obtain ⟨⟨ft,off⟩,h3,hk⟩:=Z0 hk
      obtain ⟨fi,h4,hk⟩:=Z0 hk
      obtain ⟨h5,hk⟩:=Z2 hk
      obtain ⟨w,h6,hk⟩:=Z0 hk
      simp only at h4 h6
      simp only [he,h3,h4,Option.bind_some,h5,cond_true,ZeA hX.t h6]
      exact Zr hk rfl
    · cases hk
  | field s x f =>
    obtain ⟨ti,h1,hk⟩:=Z0 hk
    obtain ⟨v,h2,hk⟩:=Z0 hk
    simp only [Zx,h1,ZG,h2,Option.map_some,Option.bind_some]
    split at hk
    · rename_i fs cs he
      obtain ⟨⟨ft,off⟩,h3,hk⟩:=Z0 hk
      obtain ⟨fi,h4,hk⟩:=Z0 hk
      obtain ⟨w,h6,hk⟩:=Z0 hk
      simp only at h4 h6
      simp only [he,dv,h3,h4,Option.bind_some,(Z3y hX.t h6).1]
      exact Zr hk rfl
    · cases hk
  | range t x =>
    obtain ⟨ti,h1,hk⟩:=Z0 hk
    obtain ⟨v,h2,hk⟩:=Z0 hk
    simp only [Zx,h1,ZG,h2,Option.map_some,Option.bind_some]
    split at hk
    · rename_i s he
      refine ⟨_,?_,ZQ rfl ZW,hk⟩
      simp [he,Y6,dvu,dv,dvO]
    · cases hk
  | next it b =>
    cases b with
    | false=>cases hk
    | true =>
      obtain ⟨v,h1,hk⟩:=Z0 hk
      cases v<;>simp only [reduceCtorEq] at hk
      rename_i id
      obtain ⟨o,ho,hk⟩:=Z0 hk
      cases o<;>simp only [reduceCtorEq] at hk
      rename_i s pos
      simp only [Zx,ZG,h1,Option.map_some,Option.bind_some,dv,dvh,ho,dvO]
      cases hp:decide (pos<s.size) with
      | true =>
        rw [hp] at hk
        refine ⟨_,?_,ZQ rfl ZW,hk⟩
        simp [Y6,dvu,dv,dvl,dvO]
      | false =>
        rw [hp] at hk
        exact Zr hk (by simp [dv,dvl])
  | extract t i =>
    obtain ⟨v,h1,hk⟩:=Z0 hk
    cases v<;>simp only [reduceCtorEq] at hk
    rename_i vs
    obtain ⟨w,h2,hk⟩:=Z0 hk
    simp only [Zx,ZG,h1,Option.map_some,Option.bind_some,dv,Z4Q,List.getElem?_map,h2]
    exact Zr hk rfl
  | call c =>
    simp only [opK] at hk
    split at hk
    · rename_i hc
      split at hk
      · rename_i x t ts hx ht
        obtain ⟨ti,h1,hk⟩:=Z0 hk
        obtain ⟨v,h2,hk⟩:=Z0 hk
        obtain ⟨w,h3,hk⟩:=Z0 hk
        simp only [Zx,hc,hx,ht,h1,ZG,h2,Option.map_some,Option.bind_some,Zg1 hX h3]
        exact Zr hk rfl
      · cases hk
    · rename_i hc
      split at hk
      · rename_i s x t t' hx ht
        obtain ⟨h0,hk⟩:=Z2 hk
        obtain ⟨v,h2,hk⟩:=Z0 hk
        obtain ⟨w,h3,hk⟩:=Z0 hk
        simp only [Zx,hc,hx,ht,h0,cond_true,ZG,h2,h3,Option.map_some,Option.bind_some]
        exact Zch hX hk
      · cases hk
    · rename_i hc
      obtain ⟨vs,h1,hk⟩:=Z0 hk
      simp only [Zx,hc,Z2X,h1,Option.map_some,Option.bind_some]
      split at hk
      · obtain ⟨w,h2,hk⟩:=Z0 hk
        simp only [dvl,Z8f hX (Zg6 hX) h2,Option.bind_some]
        exact Zr hk rfl
      · cases hk
    · rename_i hc
      obtain ⟨vs,h1,hk⟩:=Z0 hk
      simp only [Zx,hc,Z2X,h1,Option.map_some,Option.bind_some]
      split at hk
      · obtain ⟨w,h2,hk⟩:=Z0 hk
        simp only [dvl,Z8f hX (Zg5 hX) h2,Option.bind_some]
        exact Zr hk rfl
      · cases hk
    · cases hk
  | _=>cases hk
end Go.Ab
namespace Go.Ab
variable {S:Nat→Type} {R:Type}
theorem Z1L {α β:Type} (f:α→β):∀ (t:Tr α) (a b:Nat),(t.mapv f).ents a b=(t.ents a b).map fun p=>(p.1,f p.2)
  | .leaf,_,_=>rfl
  | .node l v r,a,b=>by
    simp only [Tr.mapv,Tr.ents,Z1L f l,Z1L f r,List.map_append]
    cases v<;>rfl
theorem Z7p:∀ (a b:List DV),Z1k (a++b)=Z1k a++Z1k b
  | [],b=>by simp [Z1k]
  | c::a,b=>by simp only [List.cons_append,Z1k,Z7p a b,List.append_assoc]
theorem Z5H:∀ {cs:List DV},cs.all plain=true→Z1k cs=[]
  | [],_=>rfl
  | c::cs,h=>by
    simp only [List.all_cons,Bool.and_eq_true] at h
    simp only [Z1k,Z5H h.2,List.append_nil]
    cases c<;>simp [plain] at h<;>simp [rid]
theorem Z86 {pid:Nat}:∀ {cs:List DV},cs.all (Z4t pid)=true→Z1k cs=[]
  | [],_=>rfl
  | c::cs,h=>by
    simp only [List.all_cons,Bool.and_eq_true] at h
    simp only [Z1k,Z86 h.2,List.append_nil]
    cases c<;>simp [Z4t] at h<;>simp [rid]
theorem Z5C (h:Nat→Option Z8):∀ {cs:List DV},cs.all plain=true→cs.map (Z5x h)=cs
  | [],_=>rfl
  | c::cs,hp=>by
    simp only [List.all_cons,Bool.and_eq_true] at hp
    rw [List.map_cons,Z5C h hp.2]
    cases c<;>simp [plain] at hp<;>simp [Z5x]
theorem Z5W (h:Nat→Option Z8) {pid:Nat}:∀ {cs:List DV},cs.all (Z4t pid)=true→cs.map (Z5x h)=cs
  | [],_=>rfl
  | c::cs,hp=>by
    simp only [List.all_cons,Bool.and_eq_true] at hp
    rw [List.map_cons,Z5W h hp.2]
    cases c<;>simp [Z4t] at hp<;>simp [Z5x]
section
variable {T:TS S} (hT:TOk T)
include hT
mutual
theorem ZaB:∀ v:TV S,rid (dv T v)=Z2g v
  | .bool _=>rfl | .int _ _=>rfl | .str _=>rfl | .nilp=>rfl | .nils=>rfl
  | .sl0=>by simp [dv,rid,Z2g] | .sl _ _=>by simp [dv,rid,Z2g]
  | .arr _ _ _=>by simp [dv,rid,Z2g]
  | .stc _ _=>by simp [dv,rid,Z2g]
  | .narr _ n=>by simp only [dv,rid,Z2g];exact Z86 (Z15 0 n)
  | .earr ts pid n a=>by simp only [dv,rid,Z2g];exact Z86 (Yq ts pid n a)
  | .ptr _ _=>by simp [dv,rid,Z2g] | .ap _ _ _ _ _=>by simp [dv,rid,Z2g] | .rptr _ _ _ _ _=>by simp [dv,rid,Z2g]
  | .pub _=>by simp [dv,rid,Z2g]
  | .rs _ _=>by simp [dv,rid,Z2g] | .map _=>by simp [dv,rid,Z2g] | .iter _=>by simp [dv,rid,Z2g] | .yld _=>by simp [dv,rid,Z2g]
  | .nilfn=>by simp [dv,rid,Z2g] | .nilmap=>by simp [dv,rid,Z2g] | .nilif=>by simp [dv,rid,Z2g]
  | .agg cs=>by simp only [dv,rid,Z2g];exact ZaC cs
  | .tup cs=>by simp only [dv,rid,Z2g];exact Z40 cs
  | .fn _ a c=>by simp only [dv,rid,Z2g,Z40 a,Z40 c]
  | .iface _ v=>by simp only [dv,rid,Z2g]
theorem ZaC:∀ cs:List (TV S),Z1k (dvs T cs)=Z2v cs
  | []=>by simp [dvs,Z1k,Z2v]
  | c::cs=>by
    rw [Zv,Z7p,Z2v,ZaC cs]
    have h:=ZaB c
    cases c<;>simp only [Y0,Z1k,List.append_nil]<;>first|rw [h]|skip
    · rw [Z5H (Yj hT _ _ _)];rfl
    · rw [Z5H (hT.plain _ _)];rfl
    · rw [Z86 (Yq _ _ _ _)];rfl
    · rw [Z86 (Z15 0 _)];rfl
theorem Z40:∀ cs:List (TV S),Z1k (dvl T cs)=Z2v cs
  | []=>by simp [dvl,Z1k,Z2v]
  | c::cs=>by simp only [dvl,Z1k,Z2v,ZaB c,Z40 cs]
end
theorem Zgg (o:Zi S):ZgK (dvO T o)=Zfn o:=by
  cases o<;>simp only [dvO,ZgK,Zfn]
  · exact ZaC hT _
  · rw [Z1L,List.flatMap_map]
    congr 1
    funext p
    exact ZaB hT p.2
theorem Z2Z (h:Nat→Option (Zi S)):∀ (n:Nat) (todo acc:List Nat),Z1a (dvh T h) n todo acc=Z1P h n todo acc
  | 0,_,_=>by simp [Z1a,Z1P]
  | n+1,[],_=>by simp [Z1a,Z1P]
  | n+1,i::todo,acc=>by
    simp only [Z1a,Z1P,dvh]
    cases acc.any (Nat.beq i) with
    | true=>exact Z2Z h n todo acc
    | false =>
      simp only [cond_false]
      cases hi:h i with
      | none=>exact Z2Z h n todo acc
      | some o =>
        simp only [Option.map_some,Zgg hT]
        exact Z2Z h n _ _
omit hT in
theorem Z8X (h:Nat→Option (Zi S)):∀ (is:List Nat),Z2h (dvh T h) is=(Z72 h is).mapv (dvO T)
  | []=>rfl
  | i::is=>by
    simp only [Z2h,Z72,Z8X h is,Yr,dvh]
omit hT in
theorem Z9m (o:Tr (Zi S)) (Rs:List Nat) (nx:Nat):Z4m (o.mapv (dvO T)) Rs nx=dvu T (Za6 o Rs nx):=by
  unfold Z4m Za6 dvu
  rw [Z1L,List.map_map,List.map_map]
  have e:((fun x=>x.1)∘fun (p:Nat×Zi S)=>(p.1,dvO T p.2))=fun p=>p.1:=rfl
  rw [e]
  congr 1
  funext i
  simp only [Function.comp,Y8]
theorem Zdk (h:Nat→Option (Zi S)) (v:TV S):Z5x (dvh T h) (dv T v)=dv T (Z2u h v):=by
  cases v<;>simp only [dv,Z5x,Z2u]
  rename_i id ver
  simp only [dvh]
  cases h id with
  | none=>rfl
  | some o =>
    cases o<;>simp only [Option.map_some,dvO,dv]
    rename_i e t xs p u
    cases Nat.beq p 1&&Nat.beq u ver<;>simp [dv]
theorem Zbh (h:Nat→Option (Zi S)):∀ cs:List (TV S),(dvs T cs).map (Z5x (dvh T h))=dvs T (cs.map (Z2u h))
  | []=>by simp [dvs]
  | c::cs=>by
    rw [Zv,List.map_append,List.map_cons,Zv,Zbh h cs]
    congr 1
    have hc:=Zdk hT h c
    by_cases ha:ZP c=true
    · cases c<;>simp only [ZP,Bool.false_eq_true] at ha<;>simp only [Y0,Z2u]
      · exact Z5C _ (Yj hT _ _ _)
      · exact Z5C _ (hT.plain _ _)
      · exact Z5W _ (Yq _ _ _ _)
      · exact Z5W _ (Z15 0 _)
    · have h1:Y0 T c=[dv T c]:=by cases c<;>simp [Y0,ZP] at ha ⊢
      have h2:Y0 T (Z2u h c)=[dv T (Z2u h c)]:=by
        have ha':ZP (Z2u h c)=false:=by
          cases c<;>simp [ZP] at ha<;>simp only [Z2u]<;>first|rfl|skip
          split
          · rename_i p u _
            cases Nat.beq p 1&&Nat.beq u _<;>rfl
          · rfl
        cases hq:Z2u h c<;>rw [hq] at ha'<;>simp [ZP] at ha'<;>simp [Y0]
      rw [h1,h2,List.map_cons,List.map_nil,hc]
theorem ZfT (h:Nat→Option (Zi S)) (v:TV S):Z39 (dvh T h) (dv T v)=dv T (Z5b h v):=by
  cases v with
  | agg cs=>simp only [dv,Z39,Z5b,Zbh hT]
  | arr t n a=>simp only [dv,Z39,Z5b,Z2u,Z5x]
  | stc i x=>simp only [dv,Z39,Z5b,Z2u,Z5x]
  | earr ts pid n a =>
    simp only [dv,Z39,Z5b,Z2u]
    rw [Z5W _ (Yq ts pid n a)]
  | narr ts n =>
    simp only [dv,Z39,Z5b,Z2u]
    rw [Z5W _ (Z15 0 n)]
  | rs id ver=>exact Zdk hT h (.rs id ver)
  | _=>simp only [dv,Z39,Z5b,Z2u,Z5x]
theorem Z8g (h:Nat→Option (Zi S)):∀ vs:List (TV S),(dvl T vs).map (Z39 (dvh T h))=dvl T (vs.map (Z5b h))
  | []=>by simp [dvl]
  | c::cs=>by simp only [dvl,List.map_cons,ZfT hT,Z8g h cs]
end
theorem Z3g {α:Type} (n:Nat) (k:Nat→α):sN n k=k n:=by cases n<;>rfl
mutual
theorem Z9M {α:Type}:∀ (v:TV S) (k:TV S→α),sV v k=k v
  | .ptr _ _,_=>by simp only [sV,Z3g]
  | .ap _ _ _ _ _,_=>by simp only [sV,Z3g]
  | .rptr _ _ _ _ _,_=>by simp only [sV,Z3g]
  | .pub cs,_=>by simp only [sV,Z33 cs]
  | .rs _ _,_=>by simp only [sV,Z3g]
  | .agg cs,_=>by simp only [sV,Z33 cs]
  | .tup cs,_=>by simp only [sV,Z33 cs]
  | .fn _ a c,_=>by simp only [sV,Z33 a,Z33 c]
  | .map _,_=>by simp only [sV,Z3g]
  | .iface _ v,_=>by simp only [sV,Z9M v]
  | .iter _,_=>by simp only [sV,Z3g]
  | .yld _,_=>by simp only [sV,Z3g]
  | .bool _,_=>by simp only [sV]
  | .int _ _,_=>by simp only [sV]
  | .str _,_=>by simp only [sV]
  | .nilp,_=>by simp only [sV]
  | .nils,_=>by simp only [sV]
  | .sl0,_=>by simp only [sV]
  | .sl _ _,_=>by simp only [sV]
  | .arr _ _ _,_=>by simp only [sV]
  | .stc _ _,_=>by simp only [sV]
  | .earr _ _ _ _,_=>by simp only [sV,Z3g]
  | .narr _ _,_=>by simp only [sV]
  | .nilfn,_=>by simp only [sV]
  | .nilmap,_=>by simp only [sV]
  | .nilif,_=>by simp only [sV]
theorem Z33 {α:Type}:∀ (v:List (TV S)) (k:List (TV S)→α),sVs v k=k v
  | [],_=>by simp only [sVs]
  | c::cs,_=>by simp only [sVs,Z9M c,Z33 cs]
end
theorem Z32 {α β:Type} {f:β→(β→α)→α} (hf:∀ v k,f v k=k v):∀ (t:Tr β) (k:Tr β→α),sTr f t k=k t
  | .leaf,_=>rfl
  | .node l v r,k=>by
    simp only [sTr,Z32 hf l,Z32 hf r]
    cases v with
    | none=>rfl
    | some x=>simp only [hf]
theorem Z8R {α:Type} (v:Zi S) (k:Zi S→α):sO v k=k v:=by
  cases v<;>simp only [sO,Z33,Z3g,Z32 Z9M]
theorem Zfr {α:Type} (s:StT S) (k:StT S→α):sSt s k=k s:=by
  unfold sSt
  rw [Z32 Z9M,Z32 Z8R,Z3g]
theorem Z8Q {α:Type}:∀ (v:List Nat) (k:List Nat→α),sNs v k=k v
  | [],_=>rfl
  | i::is,k=>by simp only [sNs,Z3g,Z8Q is]
end Go.Ab
namespace Go.Ab
variable {S:Nat→Type} {R:Type}
def Evt (p:Nat→Prop):Prop:=∃ N,∀ n,N≤n→p n
theorem Evt.and {p q:Nat→Prop} (hp:Evt p) (hq:Evt q):Evt fun n=>p n∧q n:=by
  obtain ⟨a,ha⟩:=hp
  obtain ⟨b,hb⟩:=hq
  exact ⟨max a b,fun n hn=>⟨ha n (by omega),hb n (by omega)⟩⟩
theorem Evt.mono {p q:Nat→Prop} (hp:Evt p) (h:∀ n,p n→q n):Evt q:=by
  obtain ⟨a,ha⟩:=hp
  exact ⟨a,fun n hn=>h n (ha n hn)⟩
theorem Evt.of {p:Nat→Prop} (h:∀ n,p n):Evt p:=⟨0,fun n _=>h n⟩
theorem Evt.succ {p:Nat→Prop} (hp:Evt fun n=>p (n+1)):Evt p:=by
  obtain ⟨a,ha⟩:=hp
  refine ⟨a+1,fun n hn => ?_⟩
  cases n with
  | zero=>omega
  | succ n=>exact ha n (by omega)
def WfL (E:Env) (o:Option (Zi S)):Prop:=match o with
  | some (.loop fid _ ps as bo _ _ _ po)=>∃ F f,E.fn fid=some F∧Code.sub F.body po=some (.rangeFunc f ps.toArray as bo)
  | _=>True
def WfO (E:Env) (o:Tr (Zi S)):Prop:=∀ i,WfL E (o.get i)
theorem Z94 {E:Env} {x:Option (Zi S)} (h:Zcu x=false):WfL E x:=by
  cases x with
  | none=>trivial
  | some o=>cases o<;>first|trivial|cases h
theorem WfO.set {E:Env} {o:Tr (Zi S)} (h:WfO E o) {i:Nat} {x:Option (Zi S)} (hx:WfL E x):WfO E (o.set i x):=fun j=>by
  rw [Tr.get_set]
  split
  · exact hx
  · exact h j
theorem WfO.upd {E:Env}:∀ {u:List (Nat×Option (Zi S))} {o:Tr (Zi S)},WfO E o→Z5o u→WfO E (Z4c o u)
  | [],_,h,_=>h
  | (i,x)::u,o,h,hu=>by
    simp only [Z4c]
    exact WfO.upd (h.set (Z94 (hu (i,x) (by simp)))) (fun p hp=>hu p (by simp [hp]))
theorem WfO.updW {E:Env}:∀ {u:List (Nat×Option (Zi S))} {o:Tr (Zi S)},WfO E o→(∀ p∈u,WfL E p.2)→WfO E (Z4c o u)
  | [],_,h,_=>h
  | (i,x)::u,o,h,hu=>by
    simp only [Z4c]
    exact WfO.updW (h.set (hu (i,x) (by simp))) (fun p hp=>hu p (by simp [hp]))
def Zff (E:Env) (n:Nat):Yh:=Z8M E (fun g as=>(evX E n false g as .leaf 0).bind fun x=>frz x.2.1.get x.1) (evX E n false) (evX E n true) n
structure Z7z (X:Y9 S) (cs:Z3s S R):Prop where
  fn:∀ g as k r,cs.fn g as k=some r→∃ d,Evt (fun n=>evF X.E n g (dvl X.T as)=some (dv X.T d))∧k d=some r
  pr:∀ g as s n0 k r,cs.pr g as s n0 k=some r→WfO X.E s→∃ v os n',
    Evt (fun n=>(Zff X.E n g (dvl X.T as) (s.mapv (dvO X.T)) n0).bind (Z7e n0)=some (dv X.T v,os.mapv (dvO X.T),n'))∧WfO X.E os∧k v os n'=some r
def Z2l (X:Y9 S) (b:Bool) (callH:Z2k S R):Prop:=∀ path g as objs next k r,callH path g as objs next k=some r→WfO X.E objs →
  ∃ v objs' next',Evt (fun n=>evX X.E n b g (dvl X.T as) (objs.mapv (dvO X.T)) next=some (dv X.T v,objs'.mapv (dvO X.T),next'))∧WfO X.E objs'∧k v objs' next'=some r
def Zb4 (T:TS S) (l:List (Nat×Option (TV S))):Loc:=l.map fun p=>(p.1,p.2.map (dv T))
def dvM (T:TS S) (m:Z25 S):Mid:=⟨m.base.mapv (dv T),Zb4 T m.loc,m.objs.mapv (dvO T),m.next⟩
def ZR (T:TS S) (s:StT S):St:=⟨s.base.mapv (dv T),s.objs.mapv (dvO T),s.next⟩
section
variable (T:TS S)
theorem Zdh:∀ (l:List (Nat×Option (TV S))) (t:Nat),Loc.find (Zb4 T l) t=(Z8d l t).map (Option.map (dv T))
  | [],t=>rfl
  | (s,v)::l,t=>by
    simp only [Zb4,List.map_cons,Loc.find,Z8d]
    cases Nat.beq s t with
    | true=>rfl
    | false=>exact Zdh l t
theorem ZaO (V:Nat) (b:Tr (TV S)) (l:List (Nat×Option (TV S))):ZV V (b.mapv (dv T)) (Zb4 T l)=dvr T (Z1l V b l):=by
  funext t
  unfold ZV Z1l dvr
  cases hv:Nat.testBit V t with
  | true=>simp only [hv,cond_true];exact Y8 _ _ _
  | false =>
    simp only [hv,cond_false,Zdh]
    cases Z8d l t with
    | none=>rfl
    | some v=>rfl
theorem Z93:∀ (u:List (Nat×Option (Zi S))) (o:Tr (Zi S)),ZZ (o.mapv (dvO T)) (dvu T u)=(Z4c o u).mapv (dvO T)
  | [],o=>rfl
  | (i,x)::u,o=>by
    simp only [dvu,List.map_cons,ZZ,Z4c]
    rw [←Yr]
    exact Z93 u _
theorem ZcI (V nt:Nat) (m:Z25 S) (dst:Option Tmp) (v:Option (TV S)):(dvM T m).put V nt dst (v.map (dv T))=dvM T (m.put V nt dst v):=by
  unfold Mid.put Z25.put
  cases dst with
  | none=>rfl
  | some d =>
    simp only
    cases (!Nat.blt d nt) with
    | true=>rfl
    | false =>
      cases Nat.testBit V d with
      | true=>simp only [cond_false,cond_true,dvM,Yr]
      | false=>simp only [cond_false,dvM,Zb4,List.map_cons]
theorem Zdz (V nt:Nat) (m:Z25 S) (dst:Option Tmp) (o:Z9Z S):({ dvM T m with objs:=ZZ (dvM T m).objs (Y6 T o).upd }:Mid).put V nt dst (Y6 T o).val=dvM T (({ m with objs:=Z4c m.objs o.upd }:Z25 S).put V nt dst o.val):=by
  rw [←ZcI]
  simp only [dvM,Y6,Z93]
theorem Z8v (m:Z25 S):(dvM T m).objs.get=dvh T m.objs.get:=funext fun i=>Y8 _ _ _
end
theorem Z4Y (V nt:Nat) (m:Z25 S) (dst:Option Tmp) (v:Option (TV S)):(m.put V nt dst v).objs=m.objs:=by
  unfold Z25.put
  cases dst with
  | none=>rfl
  | some d =>
    simp only
    cases (!Nat.blt d nt) with
    | true=>rfl
    | false=>cases Nat.testBit V d<;>rfl
theorem Zeo (V nt:Nat) (m:Z25 S) (dst:Option Tmp) (v:Option (TV S)) (t:Nat) :
    Z1l V (m.put V nt dst v).base (m.put V nt dst v).loc t=if dst=some t∧t<nt then v else Z1l V m.base m.loc t:=by
  unfold Z25.put
  cases dst with
  | none=>simp
  | some d =>
    simp only [Tr.blt_dec]
    by_cases hl:d<nt
    · simp only [hl,decide_true,Bool.not_true,cond_false]
      cases hv:Nat.testBit V d with
      | true =>
        simp only [cond_true]
        unfold Z1l
        by_cases e:d=t
        · subst e;simp [hv,hl,Tr.get_set]
        · have:¬ t=d:=fun h=>e h.symm
          simp [e,Tr.get_set,this]
      | false =>
        simp only [cond_false]
        unfold Z1l
        by_cases e:d=t
        · subst e;simp [hv,hl,Z8d]
        · simp [e,Z8d,Tr.beq_dec]
    · simp only [hl,decide_false,Bool.not_false,cond_true]
      by_cases e:d=t
      · subst e;simp [hl]
      · simp [e]
def Z98 (kn:List (Nat×Bool)) (ρ:Nat→Option (TV S)):Prop:=∀ t b0 b,knF kn t=some b0→ρ t=some (.bool b)→b=b0
theorem Zat {kn:List (Nat×Bool)} {ρ:Nat→Option (TV S)} (h:Z98 kn ρ):(fun t=>ovK kn t (ρ t))=ρ:=by
  funext t
  unfold ovK
  cases kn with
  | nil=>rfl
  | cons p l =>
    simp only
    cases hv:ρ t with
    | none=>rfl
    | some v =>
      cases v<;>simp only
      rename_i b
      cases hk:knF (p::l) t with
      | none=>rfl
      | some b0=>rw [h t b0 b hk hv]
theorem ZfY (kn:List (Nat×Bool)) (d t:Nat):knF (Z4u kn (some d)) t=if t=d then none else knF kn t:=by
  unfold Z4u
  induction kn with
  | nil=>simp [knF]
  | cons p l ih =>
    simp only [List.filter_cons]
    by_cases e:p.1=d
    · subst e
      simp only [Tr.beq_dec,decide_true,Bool.not_true,Bool.false_eq_true,if_false]
      simp only [Tr.beq_dec] at ih
      rw [ih]
      simp only [knF,Tr.beq_dec]
      by_cases e2:t=p.1
      · simp [e2]
      · have:¬ p.1=t:=fun h=>e2 h.symm
        simp [e2,this]
    · simp only [Tr.beq_dec] at ih ⊢
      simp only [e,decide_false,Bool.not_false,if_true,knF,Tr.beq_dec]
      by_cases e2:p.1=t
      · subst e2;simp [e]
      · simp only [e2,decide_false,cond_false];exact ih
theorem Zbr {kn:List (Nat×Bool)} {ρ ρ':Nat→Option (TV S)} {dst:Option Tmp} (h:Z98 kn ρ) (hρ:∀ t v,dst≠some t→ρ' t=some v→ρ t=some v):Z98 (Z4u kn dst) ρ':=fun t b0 b hk hv=>by
  cases dst with
  | none=>exact h t b0 b hk (hρ t _ (by simp) hv)
  | some d =>
    rw [ZfY] at hk
    by_cases e:t=d
    · rw [if_pos e] at hk;cases hk
    · rw [if_neg e] at hk
      exact h t b0 b hk (hρ t _ (fun q=>e (by cases q;rfl)) hv)
theorem Z8q {kn:List (Nat×Bool)} {V nt:Nat} {m:Z25 S} {dst:Option Tmp} {v:Option (TV S)} (h:Z98 kn (Z1l V m.base m.loc)):Z98 (Z4u kn dst) (Z1l V (m.put V nt dst v).base (m.put V nt dst v).loc) :=
  Zbr h fun t w hne hw=>by
    rw [Zeo,if_neg (fun q=>hne q.1)] at hw;exact hw
theorem Zc9 (T:TS S) {ops:Array Oper} {ρ:Nat→Option (TV S)} {o:Oper} {kn:List (Nat×Bool)} (hkn:Z98 kn ρ) {f:Bool→List (Nat×Bool)→Option R} {r:R} (h:ZdO ops ρ o kn f=some r) :
    ∃ want kn',Z1n ops (dvr T ρ) o=some want∧Z98 kn' ρ∧(∀ t b,knF kn' t=some b→knF kn t=some b∨ρ t=some (.bool b))∧f want kn'=some r:=by
  unfold ZdO at h
  unfold Z1n
  split at h
  · rename_i hg
    rw [hg];exact ⟨true,kn,rfl,hkn,fun t b hb => .inl hb,h⟩
  · rename_i j want hg
    rw [hg]
    simp only
    split at h
    · rename_i t ht
      rw [ht]
      simp only [dvr]
      split at h
      · rename_i b hb
        rw [hb]
        simp only [Option.map_some,dv]
        have hk2:Z98 ((t,b)::kn) ρ:=fun t' b0 b' hk hv=>by
          simp only [knF,Tr.beq_dec] at hk
          by_cases e:t=t'
          · subst e;simp at hk;subst hk;rw [hb] at hv;cases hv;rfl
          · simp [e] at hk;exact hkn t' b0 b' hk hv
        have hk3:∀ t' b',knF ((t,b)::kn) t'=some b'→knF kn t'=some b'∨ρ t'=some (.bool b'):=fun t' b' hk=>by
          simp only [knF,Tr.beq_dec] at hk
          by_cases e:t=t'
          · subst e;simp at hk;subst hk;exact .inr hb
          · simp [e] at hk;exact .inl hk
        cases b with
        | true=>exact ⟨_,_,rfl,hk2,hk3,h⟩
        | false=>exact ⟨_,_,rfl,hk2,hk3,h⟩
      · rename_i v hv hne
        rw [hne]
        simp only [Option.map_some]
        have:∀ b,dv T v ≠ .bool b:=fun b hb=>by
          cases v<;>simp [dv] at hb
          exact hv _ rfl
        refine ⟨false,kn,?_,hkn,fun t b hb => .inl hb,h⟩
        split
        · rename_i b hb
          injection hb with hb
          exact absurd hb (this _)
        · rfl
        · rename_i hq;cases hq
      · cases h
    · cases h
theorem Zd0 {T:TS S} {E:Env} {ρ:Nat→Option (TV S)} {c:Call} {tgt:TV S×List (TV S)} (h:ZaP E ρ c=some tgt):target E (dvr T ρ) c=some (dv T tgt.1,dvl T tgt.2):=by
  unfold ZaP at h
  unfold target
  split at h
  · rename_i f hc
    rw [hc]
    obtain ⟨v,h1,h⟩:=Z0 h
    simp only [ZG,h1,Option.map_some,Option.bind_some]
    split at h
    · obtain ⟨as,h2,h⟩:=Z0 h
      cases h
      simp only [dv,Z2X,h2,Option.map_some,Option.bind_some,Z5s,dvl]
    · obtain ⟨as,h2,h⟩:=Z0 h
      cases h
      simp only [dv,Z2X,h2,Option.map_some,Option.bind_some]
    · cases h
  · rename_i rv m hc
    rw [hc]
    obtain ⟨v,h1,h⟩:=Z0 h
    simp only [ZG,h1,Option.map_some,Option.bind_some]
    split at h
    · obtain ⟨ti,h2,h⟩:=Z0 h
      obtain ⟨g,h3,h⟩:=Z0 h
      obtain ⟨as,h4,h⟩:=Z0 h
      cases h
      simp only [dv,h2,h3,Z2X,h4,Option.map_some,Option.bind_some,dvl]
    · cases h
  · cases h
theorem Zfd (T:TS S) (E:Env) (tgt:TV S×List (TV S)):Zee E (dv T tgt.1,dvl T tgt.2)=Zdx E tgt:=by
  obtain ⟨v,as⟩:=tgt
  cases v<;>simp only [dv,Zee,Zdx]
  rename_i f a c
  cases f<;>rfl
section
variable {X:Y9 S} (hX:XOk X) {cs:Z3s S R} (hcs:Z7z X cs)
include hX hcs
theorem Zc3 {nid:Nat} {ρ:Nat→Option (TV S)} {h:Nat→Option (Zi S)} {op:Op} {k:Z2w S R} {ki:TV S×List (TV S)→Option R} {r:R} (hk:ZdN X cs nid ρ h op k ki=some r) :
    (∃ o:Z9Z S,Evt (fun n=>Z4b X.E (evF X.E n) nid (dvr X.T ρ) (dvh X.T h) op=some (some (Y6 X.T o)))∧Z5o o.upd∧k o=some r) ∨
    (∃ c tgt,Z3m op=some c∧(∀ call,Z4b X.E call nid (dvr X.T ρ) (dvh X.T h) op=some none)∧target X.E (dvr X.T ρ) c=some (dv X.T tgt.1,dvl X.T tgt.2)∧ki tgt=some r):=by
  unfold ZdN at hk
  split at hk
  · rename_i hc
    obtain ⟨o,h1,h2,h3⟩:=ZgG hX hk
    refine .inl ⟨o,Evt.of fun n => ?_,h2,h3⟩
    unfold Z4b
    rw [hc,h1];rfl
  · rename_i c hc
    obtain ⟨tgt,h1,hk⟩:=Z0 hk
    have h2:=Zd0 (T:=X.T) h1
    cases hp:Zdx X.E tgt with
    | false =>
      rw [hp] at hk
      refine .inr ⟨c,tgt,hc,fun call => ?_,h2,hk⟩
      unfold Z4b
      rw [hc]
      simp only [h2,Option.bind_some,Zfd,hp,cond_false]
    | true =>
      rw [hp] at hk
      simp only [cond_true] at hk
      unfold Zgo at hk
      split at hk
      · rename_i g x y as
        obtain ⟨fs,h3,hk⟩:=Z0 hk
        obtain ⟨d,h4,hk⟩:=hcs.fn _ _ _ _ hk
        refine .inl ⟨_,h4.mono fun n hn => ?_,Z2b _ _,hk⟩
        unfold Z4b
        rw [hc]
        simp only [h2,Option.bind_some]
        rw [show Zee X.E (dv X.T (TV.fn (Fn.func g) x y,as).1,dvl X.T (TV.fn (Fn.func g) x y,as).2)=true from (Zfd X.T X.E _).trans hp]
        simp only [cond_true]
        unfold Z5u
        rw [h2]
        simp only [Option.bind_some,dv,Z8i hX.t,h3,Option.map_some,hn]
        simp [Y6,Z6t,Z3E hX.t]
      · cases hk
omit hcs in
theorem Zdc {callH callY:Z2k S R} (hH:Z2l X false callH) (hY:Z2l X true callY) {path:List Nat} {h:Nat→Option (Zi S)} {nx:Nat} {tgt:TV S×List (TV S)} {k:Z9Z S→List Nat→Nat→Option R} {r:R}
    (hd:Z5T callH callY path h nx tgt k=some r) (hw:∀ i,WfL X.E (h i)) :
    ∃ x Ts n,Evt (fun m=>YL (evX X.E m false) (evX X.E m true) (dvh X.T h) nx (dv X.T tgt.1,dvl X.T tgt.2)=some (Y6 X.T x,Ts,n))∧(∀ u∈x.upd,WfL X.E u.2)∧k x Ts n=some r:=by
  have hsub:∀ Rs:List Nat,WfO X.E (Z72 h Rs):=fun Rs=>by
    induction Rs with
    | nil=>intro i;exact trivial
    | cons j Rs ih =>
      simp only [Z72]
      exact ih.set (hw j)
  unfold Z5T at hd
  split at hd
  · rename_i g x y as
    rw [Z33] at hd
    unfold ZfK at hd
    rw [Z8Q,Z32 (fun v k=>Z8R v k)] at hd
    obtain ⟨v,o',n',h1,h2,hd⟩:=hH _ _ _ _ _ _ _ hd (hsub _)
    obtain ⟨h3,hd⟩:=Z2 hd
    refine ⟨_,_,_,h1.mono fun m hm => ?_,fun u hu => ?_,hd⟩
    · simp only [dv,YL,Z3j]
      rw [Z8g hX.t,Z40 hX.t,Z2Z hX.t,Z8X,hm]
      simp only [Option.bind_some,h3,cond_true,Z9m,Z3E hX.t,Y6,Option.map_some]
    · obtain ⟨j,_,rfl⟩:=List.mem_map.1 hu
      exact h2 j
  · rename_i id as
    rw [Z33] at hd
    unfold ZfK at hd
    rw [Z8Q,Z32 (fun v k=>Z8R v k)] at hd
    obtain ⟨v,o',n',h1,h2,hd⟩:=hY _ _ _ _ _ _ _ hd (hsub _)
    obtain ⟨h3,hd⟩:=Z2 hd
    refine ⟨_,_,_,h1.mono fun m hm => ?_,fun u hu => ?_,hd⟩
    · simp only [dv,YL,Z3j]
      rw [Z8g hX.t,Z40 hX.t,Z2Z hX.t,Z8X,hm]
      simp only [Option.bind_some,h3,cond_true,Z9m,Z3E hX.t,Y6,Option.map_some]
    · obtain ⟨j,_,rfl⟩:=List.mem_map.1 hu
      exact h2 j
  · cases hd
theorem Z7K {callH callY:Z2k S R} (hH:Z2l X false callH) (hY:Z2l X true callY) {path:List Nat} {V nt:Nat} {ops:Array Oper} {b:Nat} :
    ∀ (os:List Oper) (k:Nat) (kn:List (Nat×Bool)) (m:Z25 S) (kk:Z25 S→Option R) (r:R),Zel X cs callH callY path V nt ops b k os kn m kk=some r→Z98 kn (Z1l V m.base m.loc)→WfO X.E m.objs →
      ∃ m',Evt (fun n=>Z2Q X.E (evF X.E n) (evX X.E n false) (evX X.E n true) V nt ops b k os (dvM X.T m)=some (dvM X.T m'))∧WfO X.E m'.objs∧kk m'=some r
  | [],k,kn,m,kk,r,h,_,hw=>⟨m,Evt.of fun _=>rfl,hw,h⟩
  | o::os,k,kn,m,kk,r,h,hkn,hw=>by
    simp only [Zel] at h
    rw [Zat hkn] at h
    obtain ⟨want,kn',h1,hkn',_,h⟩:=Zc9 X.T hkn h
    cases want with
    | false =>
      simp only [cond_false] at h
      obtain ⟨m',h2,h3,h4⟩:=Z7K hH hY os (k+1) _ _ kk r h (Z8q hkn') (by rw [Z4Y];exact hw)
      refine ⟨m',h2.mono fun n hn => ?_,h3,h4⟩
      simp only [Z2Q]
      have e1:ZV V (dvM X.T m).base (dvM X.T m).loc=dvr X.T (Z1l V m.base m.loc):=ZaO X.T V m.base m.loc
      rw [e1,h1]
      simp only [Option.bind_some,cond_false]
      have e2:=ZcI X.T V nt m o.dst (some (.tup []))
      simp only [Option.map_some,dv,dvl] at e2
      rw [e2];exact hn
    | true =>
      simp only [cond_true] at h
      rw [Zat hkn'] at h
      have e1:ZV V (dvM X.T m).base (dvM X.T m).loc=dvr X.T (Z1l V m.base m.loc):=ZaO X.T V m.base m.loc
      rcases Zc3 hX hcs h with ⟨q,h2,h3,h⟩|⟨c,tgt,h2,h3,h4,h⟩
      · obtain ⟨m',h5,h6,h7⟩:=Z7K hH hY os (k+1) _ _ kk r h (Z8q (m:={ m with objs:=Z4c m.objs q.upd }) hkn') (by rw [Z4Y];exact hw.upd h3)
        refine ⟨m',(h2.and h5).mono fun n hn => ?_,h6,h7⟩
        simp only [Z2Q]
        rw [e1,h1]
        simp only [Option.bind_some,cond_true,Z8v]
        rw [hn.1]
        simp only [Option.bind_some]
        rw [Zdz];exact hn.2
      · obtain ⟨x,Ts,nn,h5,h6,h⟩:=Zdc hX hH hY h hw
        obtain ⟨m',h7,h8,h9⟩:=Z7K hH hY os (k+1) _ _ kk r h (Z8q (m:={ m with objs:=Z4c m.objs x.upd,next:=nn }) hkn') (by rw [Z4Y];exact hw.updW h6)
        refine ⟨m',(h5.and h7).mono fun n hn => ?_,h8,h9⟩
        simp only [Z2Q]
        rw [e1,h1]
        simp only [Option.bind_some,cond_true,Z8v,h3,h2,h4]
        have e5:YL (evX X.E n false) (evX X.E n true) (dvh X.T m.objs.get) (dvM X.T m).next (dv X.T tgt.1,dvl X.T tgt.2)=some (Y6 X.T x,Ts,nn):=hn.1
        rw [e5]
        simp only [Option.bind_some]
        have e2:=ZcI X.T V nt { m with objs:=Z4c m.objs x.upd,next:=nn } o.dst x.val
        have e4:({ dvM X.T m with objs:=ZZ (dvM X.T m).objs (Y6 X.T x).upd,next:=nn }:Mid)=dvM X.T { m with objs:=Z4c m.objs x.upd,next:=nn }:=by
          simp only [dvM,Y6,Z93]
        rw [e4]
        have e6:(Y6 X.T x).val=x.val.map (dv X.T):=rfl
        rw [e6,e2];exact hn.2
end
end Go.Ab
namespace Go.Ab
variable {S:Nat→Type} {R:Type}
def dvD (T:TS S) (d:Z1e S):Yv:=⟨d.dst,d.anc,d.touch,Y6 T d.out,d.new⟩
def YQ (T:TS S) (ds:List (Nat×Z1e S)):List (Nat×Yv):=ds.map fun p=>(p.1,dvD T p.2)
section
variable {T:TS S} (hT:TOk T)
include hT
theorem Zfy (ρ:Nat→Option (TV S)) (op:Op):touch (dvr T ρ) op=Z90 ρ op:=by
  unfold touch Z90
  congr 1
  funext x
  rw [ZG]
  cases ZM ρ x with
  | none=>rfl
  | some v=>exact Zai hT v
omit hT in
theorem ZdJ (anc:Nat) (ρ:Nat→Option (TV S)):∀ (ds:List (Nat×Z1e S)) (t:Nat),Z5O anc (dvr T ρ) (YQ T ds) t=(Z3h anc ρ ds t).map (dv T)
  | [],t=>rfl
  | (j,d)::ds,t=>by
    have ih:=ZdJ anc ρ ds t
    show Z5O anc (dvr T ρ) ((j,dvD T d)::YQ T ds) t=_
    simp only [Z5O,Z3h,dvD]
    rw [ih]
    cases d.dst with
    | none=>rfl
    | some s =>
      simp only
      cases Nat.beq s t with
      | true =>
        simp only [cond_true]
        cases Nat.testBit anc j<;>rfl
      | false=>rfl
omit hT in
theorem Z7L (id:Nat):∀ (u:List (Nat×Option (Zi S))),Zp id (dvu T u)=(Z37 id u).map (Option.map (dvO T))
  | []=>rfl
  | (i,x)::u=>by
    have ih:=Z7L id u
    unfold dvu at ih
    simp only [dvu,List.map_cons,Zp,Z37,ih]
    cases Z37 id u with
    | some y=>rfl
    | none =>
      simp only [Option.map_none]
      cases Nat.beq i id<;>rfl
omit hT in
theorem ZbW (anc:Nat) (h:Nat→Option (Zi S)):∀ (ds:List (Nat×Z1e S)),Z5k anc (dvh T h) (YQ T ds)=dvh T (Z42 anc h ds)
  | []=>rfl
  | (j,d)::ds=>by
    funext id
    have ih:=congrFun (ZbW anc h ds) id
    unfold YQ at ih
    simp only [YQ,List.map_cons,Z5k,dvD,Y6,Z7L]
    show _=(Z42 anc h ((j,d)::ds) id).map (dvO T)
    simp only [Z42]
    cases Z37 id d.out.upd with
    | none=>exact ih
    | some x =>
      simp only [Option.map_some]
      cases Nat.testBit anc j<;>rfl
omit hT in
theorem Z4i (ops:Array Oper) (ds:List (Nat×Z1e S)) (o:Oper) (k:Nat):Z1C ops (YQ T ds) o k=Z4h ops ds o k:=by
  unfold Z1C Z4h
  congr 1
  funext m e
  have:((YQ T ds).find? (fun d=>Nat.beq d.1 e.on)).map (·.2.anc)=(ds.find? (fun d=>Nat.beq d.1 e.on)).map (·.2.anc):=by
    unfold YQ
    rw [List.find?_map,Option.map_map]
    rfl
  rw [this]
omit hT in
theorem Z9D (V nt:Nat):∀ (ds:List (Nat×Z1e S)) (m:Z25 S),YG V nt (YQ T ds) (dvM T m)=dvM T (Z3X V nt ds m)
  | [],m=>rfl
  | (j,d)::ds,m=>by
    have ih:=Z9D V nt ds m
    unfold YQ at ih
    simp only [YQ,List.map_cons,YG,Z3X,ih]
    exact Zdz T V nt (Z3X V nt ds m) d.dst d.out
end
def Zgv (E:Env) (ds:List (Nat×Z1e S)):Prop:=∀ p∈ds,∀ u∈p.2.out.upd,WfL E u.2
theorem Z9E {E:Env} {V nt:Nat}:∀ {ds:List (Nat×Z1e S)} {m:Z25 S},Zgv E ds→WfO E m.objs→WfO E (Z3X V nt ds m).objs
  | [],_,_,h=>h
  | (j,d)::ds,m,hd,h=>by
    simp only [Z3X]
    rw [Z4Y]
    exact (Z9E (fun p hp=>hd p (by simp [hp])) h).updW (hd (j,d) (by simp))
theorem Z5P {ρ:Nat→Option (TV S)} {a a':Nat} {v v':TV S}:∀ {ds:List (Nat×Z1e S)} {t:Nat},Z3h a ρ ds t=some v→Z3h a' ρ ds t=some v'→v=v'
  | [],t,h,h'=>by simp only [Z3h] at h h';rw [h] at h';cases h';rfl
  | (j,d)::ds,t,h,h'=>by
    simp only [Z3h] at h h'
    cases hd:d.dst with
    | none =>
      rw [hd] at h h'
      exact Z5P h h'
    | some s =>
      rw [hd] at h h'
      simp only at h h'
      cases hm:Nat.beq s t with
      | true =>
        rw [hm] at h h'
        simp only [cond_true] at h h'
        cases h1:Nat.testBit a j with
        | false=>rw [h1] at h;cases h
        | true=>cases h2:Nat.testBit a' j with
          | false=>rw [h2] at h';cases h'
          | true=>rw [h1] at h;rw [h2] at h';simp only [cond_true] at h h';rw [h] at h';cases h';rfl
      | false =>
        rw [hm] at h h'
        exact Z5P h h'
def KnD (kn:List (Nat×Bool)) (ρ:Nat→Option (TV S)) (ds:List (Nat×Z1e S)):Prop:=∀ anc,Z98 kn (Z3h anc ρ ds)
theorem Z8p {kn:List (Nat×Bool)} {ρ:Nat→Option (TV S)} {ds:List (Nat×Z1e S)} {j:Nat} {d:Z1e S} (h:KnD kn ρ ds):KnD (Z4u kn d.dst) ρ ((j,d)::ds):=fun anc =>
  Zbr (h anc) fun t v hne hv=>by
    simp only [Z3h] at hv
    cases hd:d.dst with
    | none=>rw [hd] at hv;exact hv
    | some s =>
      rw [hd] at hv
      have hm:Nat.beq s t=false:=by
        simp only [Tr.beq_dec,decide_eq_false_iff_not]
        intro e;subst e;exact hne hd
      simp only [hm,cond_false] at hv
      exact hv
theorem Z3v {α:Type} {c:Bool} {x y:α} (h:c=true):(bif c then x else y)=x:=by rw [h];rfl
theorem Za5 {T:TS S} {ops:Array Oper} {ds:List (Nat×Z1e S)} {o:Oper} {k nt:Nat}
    (hc:(o.after.all (fun e => !Region.binds .any e||Nat.blt e.on k)&&(match o.dst with|none=>true|some t=>Nat.blt t nt)&&ds.all (fun d=>Nat.testBit (Z4h ops ds o k) d.1||(match o.dst with
        | none=>true
        | some t => !((ops.getD d.1 o).looksAt ops).contains t && !(match d.2.dst with|some s=>Nat.beq s t|none=>false))))=true) :
    (o.after.all (fun e => !Region.binds .any e||Nat.blt e.on k)&&(match o.dst with|none=>true|some t=>Nat.blt t nt)&&(YQ T ds).all (fun d=>Nat.testBit (Z1C ops (YQ T ds) o k) d.1||(match o.dst with
        | none=>true
        | some t => !((ops.getD d.1 o).looksAt ops).contains t && !(match d.2.dst with|some s=>Nat.beq s t|none=>false))))=true:=by
  refine Eq.trans ?_ hc
  rw [Z4i]
  congr 1
  have:∀ f:Nat×Yv→Bool,(YQ T ds).all f=ds.all fun p=>f (p.1,dvD T p.2):=fun f=>by
    unfold YQ;rw [List.all_map];rfl
  rw [this]
  rfl
section
variable {X:Y9 S} (hX:XOk X) {cs:Z3s S R} (hcs:Z7z X cs)
include hX hcs
omit hX hcs in
theorem ZbX {anc:Nat} {h:Nat→Option (Zi S)} (hw:∀ i,WfL X.E (h i)):∀ {ds:List (Nat×Z1e S)},Zgv X.E ds→∀ i,WfL X.E (Z42 anc h ds i)
  | [],_,i=>hw i
  | (j,d)::ds,hd,i=>by
    simp only [Z42]
    have ih:=ZbX (anc:=anc) hw (ds:=ds) (fun p hp=>hd p (by simp [hp])) i
    cases hq:Z37 i d.out.upd with
    | none=>exact ih
    | some x =>
      simp only
      cases Nat.testBit anc j with
      | false=>trivial
      | true =>
        obtain ⟨u,h1,rfl⟩:∃ u∈d.out.upd,u.2=x:=by
          have key:∀ (us:List (Nat×Option (Zi S))),Z37 i us=some x→∃ u∈us,u.2=x:=by
            intro us
            induction us with
            | nil=>intro h;cases h
            | cons u us ihu =>
              obtain ⟨i',y⟩:=u
              intro h
              simp only [Z37] at h
              cases hu:Z37 i us with
              | some z =>
                rw [hu] at h;cases h
                obtain ⟨v,h1,h2⟩:=ihu hu
                exact ⟨v,by simp [h1],h2⟩
              | none =>
                rw [hu] at h
                simp only at h
                cases hb:Nat.beq i' i with
                | false=>rw [hb] at h;cases h
                | true=>rw [hb] at h;cases h;exact ⟨(i',x),by simp,rfl⟩
          exact key _ hq
        exact hd (j,d) (by simp) u h1
theorem Z5U {callH callY:Z2k S R} (hH:Z2l X false callH) (hY:Z2l X true callY) {path:List Nat} {V nt:Nat} {ops:Array Oper} {b:Nat} :
    ∀ (os:List Oper) (k:Nat) (kn:List (Nat×Bool)) (m:Z25 S) (ds:List (Nat×Z1e S)) (kk:Z25 S→Option R) (r:R),Z82 X cs callH callY path V nt ops b k os kn m ds kk=some r→KnD kn (Z1l V m.base m.loc) ds→Zgv X.E ds→WfO X.E m.objs →
      ∃ m',Evt (fun n=>Z12 X.E (evF X.E n) (evX X.E n false) (evX X.E n true) V nt ops b k os (dvM X.T m) (YQ X.T ds)=some (dvM X.T m'))∧WfO X.E m'.objs∧kk m'=some r
  | [],k,kn,m,ds,kk,r,h,_,hd,hw=>by
    simp only [Z82] at h
    exact ⟨_,Evt.of fun _=>by simp only [Z12,Z9D],Z9E hd hw,h⟩
  | o::os,k,kn,m,ds,kk,r,h,hkn,hd,hw=>by
    simp only [Z82] at h
    obtain ⟨hc,h⟩:=Z2 h
    rw [Zat (hkn _)] at h
    obtain ⟨want,kn',h1,hkn1,hext,h⟩:=Zc9 X.T (hkn _) h
    have hkn':KnD kn' (Z1l V m.base m.loc) ds:=fun anc t b0 b' hk hv=>by
      rcases hext t b0 hk with h2|h2
      · exact hkn anc t b0 b' h2 hv
      · have:=Z5P h2 hv;cases this;rfl
    have e1:ZV V (dvM X.T m).base (dvM X.T m).loc=dvr X.T (Z1l V m.base m.loc):=ZaO X.T V m.base m.loc
    have e2:Z5O (Z1C ops (YQ X.T ds) o k) (ZV V (dvM X.T m).base (dvM X.T m).loc) (YQ X.T ds)=dvr X.T (Z3h (Z4h ops ds o k) (Z1l V m.base m.loc) ds):=by
      rw [e1,Z4i];exact funext fun t=>ZdJ _ _ ds t
    have e3:Z5k (Z1C ops (YQ X.T ds) o k) (dvM X.T m).objs.get (YQ X.T ds)=dvh X.T (Z42 (Z4h ops ds o k) m.objs.get ds):=by
      rw [Z8v,Z4i];exact ZbW _ _ ds
    cases want with
    | false =>
      simp only [cond_false] at h
      obtain ⟨m',h2,h3,h4⟩:=Z5U hH hY os (k+1) _ m _ kk r h (Z8p (d:=⟨o.dst,Z4h ops ds o k,[],⟨some (.tup []),[]⟩,none⟩) hkn')
        (fun p hp=>by
          rcases List.mem_cons.1 hp with e|hp
          · subst e;intro u hu;cases hu
          · exact hd p hp) hw
      refine ⟨m',h2.mono fun n hn => ?_,h3,h4⟩
      simp only [Z12]
      refine (Z3v (Za5 hc)).trans ?_
      simp only [e2,h1,Option.bind_some,cond_false]
      have e4:YQ X.T ((k,⟨o.dst,Z4h ops ds o k,[],⟨some (.tup []),[]⟩,none⟩)::ds)=(k,⟨o.dst,Z1C ops (YQ X.T ds) o k,[],⟨some (.tup []),[]⟩,none⟩)::YQ X.T ds:=by
        rw [Z4i]
        simp [YQ,dvD,Y6,dv,dvl,dvu]
      rw [e4] at hn
      exact hn
    | true =>
      simp only [cond_true] at h
      rw [Zat (hkn' _)] at h
      have e9:∀ (up:List (Nat×Option (Zi S))) (f:Z1e S→Bool) (g:Yv→Bool),(∀ d,g (dvD X.T d)=f d) →
          (YQ X.T ds).all (fun d=>Nat.testBit (Z1C ops (YQ X.T ds) o k) d.1||g d.2&&(dvu X.T up).all (fun u => !d.2.touch.contains u.1&&(Zp u.1 d.2.out.upd).isNone)) =
          ds.all (fun d=>Nat.testBit (Z4h ops ds o k) d.1||f d.2&&up.all (fun u => !d.2.touch.contains u.1&&(Z37 u.1 d.2.out.upd).isNone)):=fun up f g hfg=>by
        rw [Z4i]
        simp only [YQ,List.all_map]
        congr 1
        funext d
        simp only [Function.comp,dvD,dvu,List.all_map]
        have:=hfg d.2
        simp only [dvD] at this
        rw [this]
        congr 2
        congr 1
        funext u
        simp only [Function.comp,Y6,Z7L]
        cases Z37 u.1 d.2.out.upd<;>rfl
      rcases Zc3 hX hcs h with ⟨q,h2,h3,h⟩|⟨cl,tgt,h2,h3,h4,h⟩
      · obtain ⟨h5,h⟩:=Z2 h
        obtain ⟨m',h6,h7,h8⟩:=Z5U hH hY os (k+1) _ m _ kk r h (Z8p (d:=⟨o.dst,Z4h ops ds o k,Z90 (Z3h (Z4h ops ds o k) (Z1l V m.base m.loc) ds) o.op,q,none⟩) hkn')
          (fun p hp=>by
            rcases List.mem_cons.1 hp with e|hp
            · subst e;exact fun u hu=>Z94 (h3 u hu)
            · exact hd p hp) hw
        refine ⟨m',(h2.and h6).mono fun n hn => ?_,h7,h8⟩
        simp only [Z12]
        refine (Z3v (Za5 hc)).trans ?_
        simp only [e2,e3,h1,Option.bind_some,cond_true]
        rw [hn.1]
        simp only [Option.bind_some]
        have h9:(Y6 X.T q).upd.all (fun u=>(YQ X.T ds).all (fun d=>Nat.testBit (Z1C ops (YQ X.T ds) o k) d.1 || !d.2.touch.contains u.1&&(Zp u.1 d.2.out.upd).isNone))=true:=by
          rw [←h5,Z4i]
          simp only [Y6,dvu,YQ,List.all_map]
          congr 1
          funext u
          simp only [Function.comp]
          congr 1
          funext d
          simp only [Function.comp,dvD,Y6,Z7L]
          cases Z37 u.1 d.2.out.upd<;>rfl
        rw [h9]
        simp only [cond_true]
        have e4:YQ X.T ((k,⟨o.dst,Z4h ops ds o k,Z90 (Z3h (Z4h ops ds o k) (Z1l V m.base m.loc) ds) o.op,q,none⟩)::ds)=(k,⟨o.dst,Z1C ops (YQ X.T ds) o k,touch (dvr X.T (Z3h (Z4h ops ds o k) (Z1l V m.base m.loc) ds)) o.op,Y6 X.T q,none⟩)::YQ X.T ds:=by
          rw [Z4i,Zfy hX.t]
          simp [YQ,dvD]
        rw [←e4]
        exact hn.2
      · obtain ⟨x,Ts,nn,h5,h6,h⟩:=Zdc hX hH hY h (ZbX hw hd)
        obtain ⟨h7,h⟩:=Z2 h
        obtain ⟨m',h8,h9,h10⟩:=Z5U hH hY os (k+1) _ { m with next:=nn } _ kk r h (Z8p (d:=⟨o.dst,Z4h ops ds o k,Ts,x,some (m.next,nn)⟩) hkn')
          (fun p hp=>by
            rcases List.mem_cons.1 hp with e|hp
            · subst e;exact h6
            · exact hd p hp) hw
        refine ⟨m',(h5.and h8).mono fun n hn => ?_,h9,h10⟩
        simp only [Z12]
        refine (Z3v (Za5 hc)).trans ?_
        simp only [e2,e3,h1,Option.bind_some,cond_true,h3,h2,h4]
        have e5:YL (evX X.E n false) (evX X.E n true) (dvh X.T (Z42 (Z4h ops ds o k) m.objs.get ds)) (dvM X.T m).next (dv X.T tgt.1,dvl X.T tgt.2)=some (Y6 X.T x,Ts,nn):=hn.1
        rw [e5]
        simp only [Option.bind_some]
        have h11:=e9 x.upd (fun d=>d.new.isNone) (fun d=>d.new.isNone) (fun d=>rfl)
        refine (Z3v (h11.trans h7)).trans ?_
        have e4:YQ X.T ((k,⟨o.dst,Z4h ops ds o k,Ts,x,some (m.next,nn)⟩)::ds)=(k,⟨o.dst,Z1C ops (YQ X.T ds) o k,Ts,Y6 X.T x,some ((dvM X.T m).next,nn)⟩)::YQ X.T ds:=by
          rw [Z4i]
          simp [YQ,dvD,dvM]
        rw [e4] at hn
        exact hn.2
theorem ZcK {callH callY:Z2k S R} (hH:Z2l X false callH) (hY:Z2l X true callY) {path:List Nat} {V nt:Nat} {ops:Array Oper} {draw:Bool} {s:StT S} {kk:StT S→Option R} {r:R}
    (h:Zax X cs callH callY path V nt ops draw s kk=some r) (hw:WfO X.E s.objs) :
    ∃ s',Evt (fun n=>Z26 X.E (evF X.E n) (evX X.E n false) (evX X.E n true) V nt ops draw (ZR X.T s)=some (ZR X.T s'))∧WfO X.E s'.objs∧kk s'=some r:=by
  unfold Zax at h
  cases draw with
  | true =>
    simp only [cond_true] at h
    obtain ⟨m',h1,h2,h3⟩:=Z5U hX hcs hH hY _ 0 [] ⟨s.base,[],s.objs,s.next+ops.size⟩ [] _ r h (fun _ _ _ _ hk _=>by cases hk) (fun _ hp=>by cases hp) hw
    rw [Zfr] at h3
    refine ⟨⟨m'.base,m'.objs,m'.next⟩,h1.mono fun n hn => ?_,h2,h3⟩
    unfold Z26
    simp only [cond_true]
    have e:Z12 X.E (evF X.E n) (evX X.E n false) (evX X.E n true) V nt ops (ZR X.T s).next 0 ops.toList ⟨(ZR X.T s).base,[],(ZR X.T s).objs,(ZR X.T s).next+ops.size⟩ []=some (dvM X.T m'):=hn
    rw [e];rfl
  | false =>
    simp only [cond_false] at h
    obtain ⟨m',h1,h2,h3⟩:=Z7K hX hcs hH hY _ 0 [] ⟨s.base,[],s.objs,s.next+ops.size⟩ _ r h (fun _ _ _ hk _=>by cases hk) hw
    rw [Zfr] at h3
    refine ⟨⟨m'.base,m'.objs,m'.next⟩,h1.mono fun n hn => ?_,h2,h3⟩
    unfold Z26
    simp only [cond_false]
    have e:Z2Q X.E (evF X.E n) (evX X.E n false) (evX X.E n true) V nt ops (ZR X.T s).next 0 ops.toList ⟨(ZR X.T s).base,[],(ZR X.T s).objs,(ZR X.T s).next+ops.size⟩=some (dvM X.T m'):=hn
    rw [e];rfl
end
end Go.Ab
namespace Go.Ab
variable {S:Nat→Type} {R:Type}
section
variable (T:TS S)
theorem Z7W (hT:TOk T) {cs:List (TV S)} {off:Nat} {o:Option (TV S)} (h:Za4 T cs off=some o):(o=none∧(dvs T cs)[off]? = none)∨(∃ c d,o=some c∧(dvs T cs)[off]? = some d∧((ZP c=false∧d=dv T c)∨(c = .bool false∧plain d=true))):=by
  unfold Za4 at h
  obtain ⟨r,h1,h⟩:=Z0 h
  obtain ⟨h2,h3⟩:=Z1t hT h1
  have e:(dvs T cs)[off]? = (dvs T r)[0]? := by rw [←h3];simp
  cases r with
  | nil=>cases h;exact .inl ⟨rfl,by rw [e,Z7C];rfl⟩
  | cons c r =>
    simp only at h
    cases ha:ZP c with
    | true =>
      rw [ha] at h
      obtain ⟨h4,h⟩:=Z2 h
      cases h
      rw [Bool.and_eq_true] at h4
      obtain ⟨h40,h4⟩:=h4
      have h4:0<wd T c:=by simpa [Tr.blt_dec] using h4
      rw [←Z2I hT c] at h4
      refine .inr ⟨_,(Y0 T c)[0],rfl,?_,.inr ⟨rfl,?_⟩⟩
      · rw [e,Zv,List.getElem?_append_left h4,List.getElem?_eq_getElem h4]
      · have hp:(Y0 T c).all plain=true:=by
          cases c<;>simp only [ZgX,Bool.false_eq_true] at h40
          · exact Yj hT _ _ _
          · exact hT.plain _ _
        exact List.all_eq_true.1 hp _ (List.getElem_mem h4)
    | false =>
      rw [ha] at h
      cases h
      refine .inr ⟨c,dv T c,rfl,?_,.inl ⟨ha,rfl⟩⟩
      rw [e,Zv]
      cases c<;>simp [Y0,ZP] at ha ⊢
theorem ZfE (hT:TOk T) {o:Tr (Zi S)} {b:Tr (TV S)} {a:Acc} {x:Option (Nat×Nat)} (h:ZfD T o b a=some x):Z5q (o.mapv (dvO T)) (b.mapv (dv T)) a=x:=by
  cases a with
  | slot t e =>
    simp only [ZfD] at h
    simp only [Z5q,Y8]
    cases hb:b.get t with
    | none=>rw [hb] at h;cases h;rfl
    | some v =>
      rw [hb] at h
      cases v<;>simp only [Option.some.injEq] at h<;>subst h<;>simp [dv]
  | cell t off e =>
    simp only [ZfD] at h
    simp only [Z5q,Y8]
    cases hb:b.get t with
    | none=>rw [hb] at h;cases h;rfl
    | some v =>
      rw [hb] at h
      cases v with
      | ptr q p =>
        cases p with
        | zero =>
          simp only [Option.map_some,dv]
          simp only at h
          cases ho:o.get q with
          | none=>rw [ho] at h;cases h;rfl
          | some ob =>
            rw [ho] at h
            cases ob with
            | cells ct cs =>
              simp only at h
              simp only [Option.map_some,dvO]
              obtain ⟨oc,h1,h⟩:=Z0 h
              rcases Z7W T hT h1 with ⟨rfl,h2⟩|⟨c,d,rfl,h2,h3⟩
              · rw [h2];cases h;rfl
              · rw [h2]
                rcases h3 with ⟨_,rfl⟩|⟨rfl,h3⟩
                · cases c<;>simp only [Option.some.injEq] at h<;>subst h<;>simp [dv]
                · cases h
                  cases d<;>simp [plain] at h3<;>rfl
            | _=>simp only [Option.some.injEq] at h;subst h;simp [dvO]
        | succ p=>simp only [Option.some.injEq] at h;subst h;simp [dv]
      | ap=>cases h
      | _=>simp only [Option.some.injEq] at h;subst h;simp [dv]
theorem ZaT (hT:TOk T) {o:Tr (Zi S)} {b:Tr (TV S)}:∀ {as:List Acc} {L:List (Option (Nat×Nat))},Zd5 T o b as=some L→as.map (Z5q (o.mapv (dvO T)) (b.mapv (dv T)))=L
  | [],L,h=>by cases h;rfl
  | a::as,L,h=>by
    simp only [Zd5] at h
    obtain ⟨x,h1,h⟩:=Z0 h
    obtain ⟨xs,h2,h⟩:=Z0 h
    cases h
    rw [List.map_cons,ZfE T hT h1,ZaT hT h2]
end
theorem Z8W:∀ (cs:List DV) (off:Nat) (v:DV),off<cs.length→Y5 cs off [v]=cs.set off v
  | [],off,v,h=>by simp at h
  | c::cs,0,v,h=>by cases cs<;>simp [Y5]
  | c::cs,n+1,v,h=>by
    simp only [Y5,List.set_cons_succ]
    rw [Z8W cs n v (by simpa using h)]
theorem Z5g:∀ (a b:List DV),Yz (a++b)=Yz a++Yz b
  | [],b=>by simp [Yz]
  | c::a,b=>by simp only [List.cons_append,Yz,Z5g a b,List.append_assoc]
theorem Z4C:∀ {cs:List DV},cs.all plain=true→Yz cs=[]
  | [],_=>rfl
  | c::cs,h=>by
    simp only [List.all_cons,Bool.and_eq_true] at h
    simp only [Yz,Z4C h.2,List.append_nil]
    cases c<;>simp [plain,YB] at h ⊢
theorem Z5X {pid:Nat}:∀ {l:List DV},l.all (Z4t pid)=true→Yz l=[]
  | [],_=>rfl
  | d::l,h=>by
    simp only [List.all_cons,Bool.and_eq_true] at h
    rcases Z1p h.1 with rfl|⟨t,rfl⟩<;>simp [Yz,YB,Z5X h.2]
section
variable {T:TS S} (hT:TOk T)
include hT
mutual
theorem Z6j:∀ v:TV S,YB (dv T v)=YK v
  | .rs _ _=>by simp [dv,YB,YK]
  | .agg cs=>by simp only [dv,YB,YK];exact Z8F cs
  | .tup cs=>by simp only [dv,YB,YK];exact Z6k cs
  | .fn _ a c=>by simp only [dv,YB,YK,Z6k a,Z6k c]
  | .iface _ v=>by simp only [dv,YB,YK];exact Z6j v
  | .bool _=>rfl | .int _ _=>rfl | .str _=>rfl | .nilp=>rfl | .nils=>rfl
  | .sl0=>by simp [dv,YB,YK] | .sl _ _=>by simp [dv,YB,YK]
  | .arr _ _ _=>by simp [dv,YB,YK] | .stc _ _=>by simp [dv,YB,YK]
  | .earr _ _ _ _=>by simp only [dv,YB,YK];exact Z5X (Yq _ _ _ _)
  | .narr _ _=>by simp only [dv,YB,YK];exact Z5X (Z15 0 _)
  | .ptr _ _=>by simp [dv,YB,YK] | .ap _ _ _ _ _=>by simp [dv,YB,YK] | .rptr _ _ _ _ _=>by simp [dv,YB,YK]
  | .pub _=>by simp [dv,YB,YK] | .map _=>by simp [dv,YB,YK] | .iter _=>by simp [dv,YB,YK] | .yld _=>by simp [dv,YB,YK]
  | .nilfn=>by simp [dv,YB,YK] | .nilmap=>by simp [dv,YB,YK] | .nilif=>by simp [dv,YB,YK]
theorem Z8F:∀ cs:List (TV S),Yz (dvs T cs)=Z2s cs
  | []=>by simp [dvs,Yz,Z2s]
  | c::cs=>by
    rw [Zv,Z5g,Z2s,Z8F cs]
    have h:=Z6j c
    cases c<;>simp only [Y0,Yz,List.append_nil]<;>first|rw [h]|skip
    · rw [Z4C (Yj hT _ _ _)];rfl
    · rw [Z4C (hT.plain _ _)];rfl
    · rw [Z5X (Yq _ _ _ _)];rfl
    · rw [Z5X (Z15 0 _)];rfl
theorem Z6k:∀ cs:List (TV S),Yz (dvl T cs)=Z2s cs
  | []=>by simp [dvl,Yz,Z2s]
  | c::cs=>by simp only [dvl,Yz,Z2s,Z6j c,Z6k cs]
end
theorem Zfh (o:Zi S):Zfg (dvO T o)=ZcJ o:=by
  cases o<;>simp only [dvO,Zfg,ZcJ]
  · exact Z8F hT _
  · rw [Z1L,List.flatMap_map]
    congr 1
    funext p
    exact Z6j hT p.2
theorem ZeU (o:Tr (Zi S)) (b:Tr (TV S)) (n0 keep:Nat) (A:List (Option (Nat×Nat))):Zad (o.mapv (dvO T)) (b.mapv (dv T)) n0 keep A=Zae o b n0 keep A:=by
  unfold Zad Zae
  have e1:ZcP (o.mapv (dvO T)).get=ZaG o.get:=by
    funext p
    unfold ZcP ZaG
    rw [Y8]
    cases o.get p.1 with
    | none=>rfl
    | some x=>cases x<;>rfl
  rw [e1,Z1L,Z1L,List.flatMap_map,List.flatMap_map]
  congr 2
  · congr 1
    funext p
    simp only [Zfh hT]
  · congr 1
    funext p
    simp only [Z6j hT]
end
theorem Zh8 {E:Env} {g:Nat→Zi S→Option (Option (Zi S))} {t t':Tr (Zi S)} (h:t.tm g 1 0=some t') (hw:WfO E t) (hg:∀ k x y,g k x=some y→WfL E (some x)→WfL E y):WfO E t':=fun i=>by
  rcases Tr.tm_get1 h i with ⟨_,h2⟩|⟨x,y,h1,h2,h3⟩
  · rw [h2];trivial
  · rw [h3];have:=hw i;rw [h1] at this;exact hg i x y h2 this
section
variable {X:Y9 S} (hX:XOk X)
include hX
theorem Zfi {n0:Nat} {L:List (Option (Nat×Nat))} {x y:Zi S} (h:Z9I n0 L x=some y):Z3p n0 L (dvO X.T x)=some (dvO X.T y):=by
  cases x with
  | cells t cs =>
    simp only [Z9I] at h
    obtain ⟨cs',h1,h⟩:=Z0 h
    cases h
    simp only [dvO,Z3p,Z8H hX.t _ _ _ _ h1,Option.bind_some]
  | loop fid b ps as bo bid ex pa po =>
    simp only [Z9I] at h
    obtain ⟨b',h1,h⟩:=Z0 h
    cases h
    simp only [dvO,Z3p]
    have:=Z6b (dv X.T) (fun _ d=>(Z3a n0 L d).bind fun d=>some (some d)) (fun _ d=>(ren n0 L d).bind fun d=>some (some d)) (fun k x y hxy=>by
      obtain ⟨z,h2,h3⟩:=Z0 hxy
      cases h3
      simp only [Zaz hX.t _ _ _ _ h2,Option.bind_some,Option.map_some]) b 1 0 b' h1
    rw [this];rfl
  | row=>cases h;rfl
  | map=>cases h;rfl
  | siter=>cases h;rfl
theorem Z4g {o:Tr (Zi S)} {n0:Nat}:∀ {L:List (Option (Nat×Nat))} {j:Nat} {no r:Tr (Zi S)},Z3u o n0 j L no=some r→WfO X.E no→Z1T (o.mapv (dvO X.T)) n0 j L (no.mapv (dvO X.T))=some (r.mapv (dvO X.T))∧WfO X.E r
  | [],j,no,r,h,hw=>by cases h;exact ⟨rfl,hw⟩
  | none::L,j,no,r,h,hw=>by simp only [Z3u] at h;simp only [Z1T];exact Z4g h hw
  | some (id,v)::L,j,no,r,h,hw=>by
    simp only [Z3u] at h
    simp only [Z1T,Y8]
    cases ho:o.get id with
    | none=>rw [ho] at h;cases h
    | some ob =>
      rw [ho] at h
      cases ob<;>simp only [reduceCtorEq] at h
      rename_i e t es p u
      obtain ⟨h1,h⟩:=Z2 h
      obtain ⟨h2,h3⟩:=Z4g h (hw.set (x:=some (.row e t es p 0)) trivial)
      simp only [Option.map_some,dvO,h1,cond_true]
      rw [Yr] at h2
      exact ⟨h2,h3⟩
theorem Yc {n0:Nat}:∀ {as:List Acc} {j:Nat} {b:Tr (TV S)} {no:Tr (Zi S)} {r:Tr (TV S)×Tr (Zi S)},YR X n0 j as (b,no)=some r→WfO X.E no →
    Yd X.E n0 j as (b.mapv (dv X.T),no.mapv (dvO X.T))=some (r.1.mapv (dv X.T),r.2.mapv (dvO X.T))∧WfO X.E r.2
  | [],j,b,no,r,h,hw=>by cases h;exact ⟨rfl,hw⟩
  | .slot t e::as,j,b,no,r,h,hw=>by
    simp only [YR] at h
    simp only [Yd,Y8]
    cases hb:b.get t with
    | none=>rw [hb] at h;exact Yc h hw
    | some v =>
      rw [hb] at h
      cases v with
      | nils =>
        simp only at h
        obtain ⟨ei,h1,h⟩:=Z0 h
        obtain ⟨te,h2,h⟩:=Z0 h
        obtain ⟨h3,h⟩:=Z2 h
        obtain ⟨h4,h5⟩:=Yc h (hw.set (x:=some (.row e te [] 0 0)) trivial)
        simp only [Option.map_some,dv,h1,Option.bind_some]
        have h6:(Nat.blt 0 ei.size&&(Option.map (dvO X.T) (no.get (n0+j))).isNone)=true:=by
          rw [←h3];cases no.get (n0+j)<;>rfl
        rw [h6]
        simp only [cond_true]
        rw [Yr,Yr] at h4
        exact ⟨h4,h5⟩
      | _=>simp only [Option.map_some,dv];exact Yc h hw
  | .cell t off e::as,j,b,no,r,h,hw=>by
    simp only [YR] at h
    simp only [Yd,Y8]
    cases hb:b.get t with
    | none=>rw [hb] at h;exact Yc h hw
    | some v =>
      rw [hb] at h
      cases v with
      | ptr q p =>
        cases p with
        | zero =>
          simp only [Option.map_some,dv]
          simp only at h
          cases ho:no.get q with
          | none=>rw [ho] at h;exact Yc h hw
          | some ob =>
            rw [ho] at h
            cases ob with
            | cells ct cs =>
              simp only at h
              simp only [Option.map_some,dvO]
              obtain ⟨oc,hc,h⟩:=Z0 h
              have other:(∀ d,(dvs X.T cs)[off]? = some d→d ≠ .nils)→YR X n0 (j+1) as (b,no)=some r→(match (dvs X.T cs)[off]? with
                  | some .nils=>(X.E.ty e).bind fun ei=>bif Nat.blt 0 ei.size&&(Option.map (dvO X.T) (no.get (n0+j))).isNone then Yd X.E n0 (j+1) as (b.mapv (dv X.T),((no.mapv (dvO X.T)).set q (some (.cells ct ((dvs X.T cs).set off (.rs (n0+j) 0))))).set (n0+j) (some (.row e [] 0 0))) else none
                  | _=>Yd X.E n0 (j+1) as (b.mapv (dv X.T),no.mapv (dvO X.T)))=some (r.1.mapv (dv X.T),r.2.mapv (dvO X.T))∧WfO X.E r.2:=fun hn hh=>by
                obtain ⟨g1,g2⟩:=Yc hh hw
                refine ⟨?_,g2⟩
                split
                · rename_i hq;exact absurd rfl (hn _ hq)
                · exact g1
              rcases Z7W X.T hX.t hc with ⟨rfl,h2⟩|⟨c,d,rfl,h2,h3⟩
              · exact other (fun d hd=>by rw [h2] at hd;cases hd) h
              · by_cases hcn:c = .nils
                · subst hcn
                  rcases h3 with ⟨_,rfl⟩|⟨h3,_⟩
                  · simp only at h
                    obtain ⟨ei,h1,h⟩:=Z0 h
                    obtain ⟨te,h4,h⟩:=Z0 h
                    obtain ⟨cs',h5,h⟩:=Z0 h
                    obtain ⟨h6,h⟩:=Z2 h
                    obtain ⟨h7,h8⟩:=Z16 hX.t h5
                    have h9:dvs X.T cs'=(dvs X.T cs).set off (.rs (n0+j) 0):=by
                      rw [←h8,←Z8W _ _ _ (List.getElem?_eq_some_iff.1 h2).1]
                      simp [dvs,dv]
                    obtain ⟨h10,h11⟩:=Yc h ((hw.set (x:=some (.cells ct cs')) trivial).set (x:=some (.row e te [] 0 0)) trivial)
                    rw [h2]
                    simp only [dv,h1,Option.bind_some]
                    have h12:(Nat.blt 0 ei.size&&(Option.map (dvO X.T) (no.get (n0+j))).isNone)=true:=by
                      rw [←h6];cases no.get (n0+j)<;>rfl
                    rw [h12]
                    simp only [cond_true]
                    rw [Yr,Yr] at h10
                    simp only [Option.map_some,dvO,h9] at h10
                    exact ⟨h10,h11⟩
                  · cases h3
                · refine other (fun d' hd' => ?_) ?_
                  · rw [h2] at hd';cases hd'
                    rcases h3 with ⟨_,rfl⟩|⟨_,h3⟩
                    · cases c<;>simp [dv] at hcn ⊢
                    · intro e;subst e;simp [plain] at h3
                  · cases c<;>first|exact h|exact absurd rfl hcn
            | _=>simp only [Option.map_some,dvO];exact Yc h hw
        | succ p=>simp only [Option.map_some,dv];exact Yc h hw
      | ap=>cases h
      | _=>simp only [Option.map_some,dv];exact Yc h hw
theorem Ze9 {hint:Z3I} {n0:Nat} {s s':StT S} (h:ZcA X hint n0 s=some s') (hw:WfO X.E s.objs):ZbA X.E hint n0 (ZR X.T s)=some (ZR X.T s')∧WfO X.E s'.objs:=by
  unfold ZcA at h
  obtain ⟨A,h1,h⟩:=Z0 h
  have hx:=ZeU hX.t s.objs s.base n0 hint.keep A
  generalize Zae s.objs s.base n0 hint.keep A=XL at h hx
  simp only at h
  generalize hLd:XL.map some++A=L at h
  obtain ⟨h2,h⟩:=Z2 h
  obtain ⟨b,h3,h⟩:=Z0 h
  obtain ⟨o,h4,h⟩:=Z0 h
  obtain ⟨o2,h5,h⟩:=Z0 h
  obtain ⟨r,h6,h⟩:=Z0 h
  cases h
  have e1:=ZaT X.T hX.t h1
  have e2:=Z6b (dv X.T) _ (fun t d=>bif Nat.testBit hint.keep t then (ren n0 L d).bind fun d=>some (some d) else some none) (fun k x y hxy=>by
    cases hk:Nat.testBit hint.keep k with
    | true =>
      rw [hk] at hxy
      obtain ⟨z,h7,h8⟩:=Z0 hxy
      cases h8
      simp only [cond_true,Zaz hX.t _ _ _ _ h7,Option.bind_some,Option.map_some]
    | false=>rw [hk] at hxy;cases hxy;rfl) s.base 1 0 b h3
  have e3:=Z6b (dvO X.T) _ (fun i x=>bif Nat.blt i n0 && !Z2W i L then (Z3p n0 L x).bind fun x=>some (some x) else some none) (fun k x y hxy=>by
    cases hk:(Nat.blt k n0 && !Z2W k L) with
    | true =>
      rw [hk] at hxy
      obtain ⟨z,h7,h8⟩:=Z0 hxy
      cases h8
      simp only [cond_true,Zfi hX h7,Option.map_some,Option.bind_some]
    | false=>rw [hk] at hxy;cases hxy;rfl) s.objs 1 0 o h4
  have w1:WfO X.E o:=Zh8 h4 hw fun k x y hxy hx=>by
    cases hk:(Nat.blt k n0 && !Z2W k L) with
    | true =>
      rw [hk] at hxy
      obtain ⟨z,h7,h8⟩:=Z0 hxy
      cases h8
      cases x with
      | loop fid bb ps as bo bid ex pa po =>
        simp only [Z9I] at h7
        obtain ⟨b',_,h9⟩:=Z0 h7
        cases h9
        exact hx
      | cells t cs =>
        simp only [Z9I] at h7
        obtain ⟨b',_,h9⟩:=Z0 h7
        cases h9
        trivial
      | row=>cases h7;trivial
      | map=>cases h7;trivial
      | siter=>cases h7;trivial
    | false=>rw [hk] at hxy;cases hxy;trivial
  obtain ⟨e4,w2⟩:=Z4g hX h5 w1
  obtain ⟨e5,w3⟩:=Yc hX h6 w2
  refine ⟨?_,w3⟩
  unfold ZbA
  simp only [ZR]
  rw [e1,hx,hLd,h2]
  simp only [cond_true]
  rw [e2]
  simp only [Option.bind_some]
  rw [e3]
  simp only [Option.bind_some]
  rw [e4]
  simp only [Option.bind_some]
  rw [e5];rfl
omit hX in
theorem Zg2 (T:TS S) (x:Zi S):dvO T (Zf0 x)=Z4v (dvO T x):=by cases x<;>rfl
omit hX in
theorem Z4V {α β γ:Type} (f:α→β) (g:β→γ):∀ (t:Tr α),(t.mapv f).mapv g=t.mapv fun x=>g (f x)
  | .leaf=>rfl
  | .node l v r=>by simp only [Tr.mapv,Z4V f g l,Z4V f g r,Option.map_map];rfl
omit hX in
theorem Zg3 {E:Env} {o:Tr (Zi S)} (hw:WfO E o):WfO E (o.mapv Zf0):=fun i=>by
  rw [Y8]
  have:=hw i
  cases hq:o.get i with
  | none=>trivial
  | some x=>rw [hq] at this;cases x<;>exact this
theorem ZbC {hint:Z3I} {n0:Nat} {s s':StT S} (h:Zdu X hint n0 s=some s') (hw:WfO X.E s.objs):Zbz X.E hint n0 (ZR X.T s)=some (ZR X.T s')∧WfO X.E s'.objs:=by
  unfold Zdu at h
  obtain ⟨s1,h1,h⟩:=Z0 h
  cases h
  obtain ⟨k1,k2⟩:=Ze9 hX h1 hw
  unfold Zbz
  rw [k1]
  cases hint.raw with
  | true=>exact ⟨rfl,k2⟩
  | false =>
    refine ⟨?_,Zg3 k2⟩
    simp only [Option.bind_some,cond_false,ZR]
    congr 2
    rw [Z4V,Z4V]
    congr 1
    funext x
    exact (Zg2 X.T x).symm
end
end Go.Ab
namespace Go.Ab
variable {S:Nat→Type} {R:Type}
theorem Z6z {α β:Type} {f:α→β} {p:α→Bool} {q:β→Bool} (hpq:∀ x,p x=true→q (f x)=true):∀ {t:Tr α},t.allV p=true→(t.mapv f).allV q=true
  | .leaf,_=>rfl
  | .node l v r,h=>by
    simp only [Tr.allV,Bool.and_eq_true] at h
    simp only [Tr.mapv,Tr.allV,Bool.and_eq_true]
    refine ⟨Z6z hpq h.1,?_,Z6z hpq h.2.2⟩
    cases v with
    | none=>rfl
    | some x=>exact hpq x h.2.1
theorem Z8J (f:Nat→Nat):∀ (a b:List DV),rns f (a++b)=rns f a++rns f b
  | [],b=>by simp [rns]
  | c::a,b=>by simp only [List.cons_append,rns,Z8J f a b]
theorem Z7k (p:Nat→Bool):∀ (a b:List DV),Z1c p (a++b)=(Z1c p a&&Z1c p b)
  | [],b=>by simp [Z1c]
  | c::a,b=>by simp only [List.cons_append,Z1c,Z7k p a b,Bool.and_assoc]
theorem Z6Q (f:Nat→Nat):∀ {cs:List DV},cs.all plain=true→rns f cs=cs
  | [],_=>rfl
  | c::cs,h=>by
    simp only [List.all_cons,Bool.and_eq_true] at h
    simp only [rns,Z6Q f h.2]
    cases c<;>simp [plain] at h<;>simp [rn]
theorem Z6P (p:Nat→Bool):∀ {cs:List DV},cs.all plain=true→Z1c p cs=true
  | [],_=>rfl
  | c::cs,h=>by
    simp only [List.all_cons,Bool.and_eq_true] at h
    simp only [Z1c,Z6P p h.2,Bool.and_true]
    cases c<;>simp [plain] at h<;>simp [okD]
theorem ZeO (f:Nat→Nat) (pid:Nat):∀ (ts:List TypeId) (m:Nat),rn f (enD pid ts m)=enD (f pid) ts m
  | ts,0=>by cases ts<;>simp [enD,rn]
  | [],m+1=>by simp [enD,rn]
  | t::ts,1=>by simp [enD,rn,rns]
  | t::ts,m+2=>by simp only [enD];exact ZeO f pid ts (m+1)
theorem ZeN (f:Nat→Nat) (ts:List TypeId) (pid n:Nat) (a:Nat→Nat):rns f (eal ts pid n a)=eal ts (f pid) n a:=by
  unfold eal
  generalize List.range n=l
  induction l with
  | nil=>rfl
  | cons x l ih=>simp only [List.map_cons,rns,ih,ZeO]
theorem Zcz (f:Nat→Nat):∀ n:Nat,rns f (List.replicate n .nilif)=List.replicate n .nilif
  | 0=>rfl
  | n+1=>by simp only [List.replicate_succ,rns,Zcz f n,rn]
theorem Zgr {p:Nat→Bool} {pid:Nat} (hp:p pid=true):∀ {cs:List DV},cs.all (Z4t pid)=true→Z1c p cs=true
  | [],_=>rfl
  | c::cs,h=>by
    simp only [List.all_cons,Bool.and_eq_true] at h
    simp only [Z1c,Zgr hp h.2,Bool.and_true]
    rcases Z1p h.1 with e|⟨t,e⟩<;>subst e<;>simp [okD,Z1c,hp]
theorem Zf8 (p:Nat→Bool):∀ n:Nat,Z1c p (List.replicate n .nilif)=true
  | 0=>rfl
  | n+1=>by simp only [List.replicate_succ,Z1c,Zf8 p n,okD,Bool.and_self]
section
variable {T:TS S} (hT:TOk T)
include hT
mutual
theorem Z9K (f:Nat→Nat):∀ v:TV S,rn f (dv T v)=dv T (rnT f v)
  | .bool _=>by simp [dv,rn,rnT] | .int _ _=>by simp [dv,rn,rnT] | .str _=>by simp [dv,rn,rnT] | .nilp=>by simp [dv,rn,rnT] | .nils=>by simp [dv,rn,rnT]
  | .sl0=>by simp [dv,rn,rnT] | .sl _ _=>by simp [dv,rn,rnT]
  | .arr _ _ _=>by simp [dv,rn,rnT]
  | .stc _ _=>by simp [dv,rn,rnT]
  | .narr _ n=>by simp only [dv,rn,rnT,Zcz]
  | .earr ts pid n a=>by simp only [dv,rn,rnT,ZeN]
  | .ptr _ _=>by simp [dv,rn,rnT] | .ap _ _ _ _ _=>by simp [dv,rn,rnT] | .rptr _ _ _ _ _=>by simp [dv,rn,rnT]
  | .pub _=>by simp [dv,rn,rnT]
  | .rs _ _=>by simp [dv,rn,rnT] | .map _=>by simp [dv,rn,rnT] | .iter _=>by simp [dv,rn,rnT] | .yld _=>by simp [dv,rn,rnT]
  | .nilfn=>by simp [dv,rn,rnT] | .nilmap=>by simp [dv,rn,rnT] | .nilif=>by simp [dv,rn,rnT]
  | .agg cs=>by simp only [dv,rn,rnT,ZaF f cs]
  | .tup cs=>by simp only [dv,rn,rnT,Z6p f cs]
  | .fn _ a c=>by simp only [dv,rn,rnT,Z6p f a,Z6p f c]
  | .iface _ v=>by simp only [dv,rn,rnT,Z9K f v]
theorem ZaF (f:Nat→Nat):∀ cs:List (TV S),rns f (dvs T cs)=dvs T (Z6o f cs)
  | []=>by simp [dvs,rns,Z6o]
  | c::cs=>by
    rw [Zv,Z8J,Z6o,Zv,ZaF f cs]
    have h:=Z9K f c
    congr 1
    cases c<;>simp only [Y0,rnT,rns]<;>first|(rw [h];simp only [rnT];done)|skip
    · exact Z6Q f (Yj hT _ _ _)
    · exact Z6Q f (hT.plain _ _)
    · exact ZeN f _ _ _ _
    · exact Zcz f _
theorem Z6p (f:Nat→Nat):∀ cs:List (TV S),rns f (dvl T cs)=dvl T (Z6o f cs)
  | []=>by simp [dvl,rns,Z6o]
  | c::cs=>by simp only [dvl,rns,Z6o,Z9K f c,Z6p f cs]
end
mutual
theorem Z8w (p:Nat→Bool):∀ v:TV S,Zap p v=true→okD p (dv T v)=true
  | .bool _,_=>by simp [dv,okD] | .int _ _,_=>by simp [dv,okD] | .str _,_=>by simp [dv,okD] | .nilp,_=>by simp [dv,okD] | .nils,_=>by simp [dv,okD]
  | .sl0,_=>by simp [dv,okD] | .sl _ _,_=>by simp [dv,okD]
  | .arr _ _ _,_=>by simp [dv,okD]
  | .stc _ _,_=>by simp [dv,okD]
  | .narr _ _,_=>by simp only [dv,okD];exact Zf8 p _
  | .earr _ _ _ _,h=>by simp only [dv,okD];exact Zgr h (Yq _ _ _ _)
  | .ptr _ _,h=>h | .ap _ _ _ _ _,h=>h | .rptr _ _ _ _ _,h=>h
  | .rs _ _,h=>h | .map _,h=>h | .iter _,h=>h | .yld _,h=>h
  | .nilfn,_=>by simp [dv,okD] | .nilmap,_=>by simp [dv,okD] | .nilif,_=>by simp [dv,okD]
  | .pub cs,_=>by simp only [dv,okD]
  | .agg cs,h=>by simp only [dv,okD,Zap] at h ⊢;exact Z8x p cs h
  | .tup cs,h=>by simp only [dv,okD,Zap] at h ⊢;exact Z4z p cs h
  | .fn _ a c,h=>by
    simp only [dv,okD,Zap,Bool.and_eq_true] at h ⊢
    exact ⟨Z4z p a h.1,Z4z p c h.2⟩
  | .iface _ v,h=>by simp only [dv,okD,Zap] at h ⊢;exact Z8w p v h
theorem Z8x (p:Nat→Bool):∀ cs:List (TV S),Z4y p cs=true→Z1c p (dvs T cs)=true
  | [],_=>by simp [dvs,Z1c]
  | c::cs,h=>by
    simp only [Z4y,Bool.and_eq_true] at h
    rw [Zv,Z7k,Z8x p cs h.2,Bool.and_true]
    have hc:=Z8w p c h.1
    cases c<;>simp only [Y0,Z1c,Bool.and_true]<;>first|exact hc|skip
    · exact Z6P p (Yj hT _ _ _)
    · exact Z6P p (hT.plain _ _)
theorem Z4z (p:Nat→Bool):∀ cs:List (TV S),Z4y p cs=true→Z1c p (dvl T cs)=true
  | [],_=>by simp [dvl,Z1c]
  | c::cs,h=>by
    simp only [Z4y,Bool.and_eq_true] at h
    simp only [dvl,Z1c,Z8w p c h.1,Z4z p cs h.2,Bool.and_self]
end
omit hT in
theorem Z3S {α β γ:Type} (f:α→β) (g:β→γ):∀ t:Tr α,(t.mapv f).mapv g=t.mapv fun x=>g (f x)
  | .leaf=>rfl
  | .node l v r=>by
    simp only [Tr.mapv,Z3S f g l,Z3S f g r]
    cases v<;>rfl
theorem Zfo (f:Nat→Nat) (o:Zi S):rnO f (dvO T o)=dvO T (ZcO f o):=by
  cases o<;>simp only [dvO,rnO,ZcO]
  · rw [ZaF hT]
  · rw [Z3S,Z3S]
    congr 1
    congr 1
    funext d
    exact Z9K hT f d
theorem ZgF {p:Nat→Bool}:∀ {o:Zi S},Zh3 p o=true→okO p (dvO T o)=true
  | .cells _ cs,h=>Z8x hT p cs h
  | .row _ _ _ _ _,_=>rfl
  | .map _ _ _,_=>rfl
  | .siter _ _,_=>rfl
  | .loop _ b _ _ _ _ _ _ _,h=>Z6z (fun d hd=>Z8w hT p d hd) h
theorem ZcD {p:Nat→Bool} {h:Nat→Option (Zi S)}:∀ {is:List Nat},Zfa p h is=true→okH p (dvh T h) is=true
  | [],_=>rfl
  | i::is,hb=>by
    simp only [Zfa,Bool.and_eq_true] at hb
    simp only [okH,Bool.and_eq_true]
    refine ⟨?_,ZcD hb.2⟩
    simp only [dvh]
    cases hi:h i with
    | none=>rfl
    | some o =>
      rw [hi] at hb
      exact ZgF hT hb.1
theorem ZaE (f:Nat→Nat) (h:Nat→Option (Zi S)):∀ (is:List Nat),Z31 f (dvh T h) is=(Z5h f h is).mapv (dvO T)
  | []=>rfl
  | i::is=>by
    simp only [Z31,Z5h,ZaE f h is,Yr,dvh]
    congr 1
    cases h i with
    | none=>rfl
    | some o=>simp only [Option.map_some,Zfo hT]
theorem ZbO (f:Nat→Nat) (h:Nat→Option (Zi S)):∀ (is:List Nat),Z3D f (dvh T h) is=dvu T (Z6W f h is)
  | []=>rfl
  | i::is=>by
    simp only [Z3D,Z6W,ZbO f h is,dvu,List.map_cons,dvh]
    congr 2
    cases h i with
    | none=>rfl
    | some o=>simp only [Option.map_some,Zfo hT]
theorem ZeT {k:Nat} {v:TV S} {o:Tr (Zi S)} {n:Nat} {kk:TV S→Tr (Zi S)→Nat→Option R} {r:R} (h:Zdf k v o kk=some r) :
    ∃ v' o' n',Z7e k (dv T v,o.mapv (dvO T),n)=some (dv T v',o'.mapv (dvO T),n')∧(∀ i y,o'.get i=some y→∃ j x,o.get j=some x∧y=ZcO (Z27 k (geN k (Z1P o.get 4096 (Z2g v++upN 0 k) []))) x)∧kk v' o' n'=some r:=by
  unfold Zdf at h
  rw [Z8Q] at h
  obtain ⟨hb,h⟩:=Z2 h
  rw [Z9M,Z32 (fun v k=>Z8R v k),Z3g] at h
  refine ⟨_,_,_,?_,fun i y hy => ?_,h⟩
  · simp only [Bool.and_eq_true] at hb
    have e0:(o.mapv (dvO T)).get=dvh T o.get:=funext fun i=>Y8 _ _ _
    unfold Z7e
    simp only [e0,ZaB hT,Z2Z hT,hb.1,Bool.true_and]
    rw [Z8w hT _ v hb.2.1,ZcD hT hb.2.2]
    simp only [Bool.and_self,cond_true,Z9K hT,ZaE hT]
  · have:∀ (f:Nat→Nat) (is:List Nat),(Z5h f o.get is).get i=some y→∃ j x,o.get j=some x∧y=ZcO f x:=fun f is=>by
      induction is with
      | nil=>intro h;cases h
      | cons j is ih =>
        intro h
        simp only [Z5h,Tr.get_set] at h
        by_cases e:i=f j
        · rw [if_pos e] at h
          cases hj:o.get j with
          | none=>rw [hj] at h;cases h
          | some x=>rw [hj] at h;cases h;exact ⟨j,x,hj,rfl⟩
        · rw [if_neg e] at h;exact ih h
    exact this _ _ hy
end
theorem Zd3 {E:Env} {f:Nat→Nat} {x:Zi S} (h:WfL E (some x)):WfL E (some (ZcO f x)):=by
  cases x<;>first|exact h|trivial
theorem Zca {E:Env} {f:Nat→Nat} {h:Nat→Option (Zi S)} (hw:∀ i,WfL E (h i)):∀ (is:List Nat),WfO E (Z5h f h is)
  | []=>fun i=>trivial
  | i::is=>by
    simp only [Z5h]
    refine (Zca hw is).set ?_
    have:=hw i
    cases hi:h i with
    | none=>trivial
    | some x=>rw [hi] at this;exact Zd3 this
theorem Zcb {E:Env} {f:Nat→Nat} {h:Nat→Option (Zi S)} (hw:∀ i,WfL E (h i)):∀ (is:List Nat),∀ p∈Z6W f h is,WfL E p.2
  | [],p,hp=>by cases hp
  | i::is,p,hp=>by
    simp only [Z6W] at hp
    rcases List.mem_cons.1 hp with e|e
    · subst e
      have:=hw i
      cases hi:h i with
      | none=>trivial
      | some x=>rw [hi] at this;exact Zd3 this
    · exact Zcb hw is p e
end Go.Ab
