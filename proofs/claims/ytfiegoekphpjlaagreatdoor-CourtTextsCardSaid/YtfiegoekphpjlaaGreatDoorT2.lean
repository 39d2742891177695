/- The same on typed values. -/
import Derived.Test.YtfiegoekphpjlaaGreatDoorT1
import Derived.WalkKit
import Derived.ProofKit
import Derived.OpenShut
import Derived.Below
import Derived.ChangeSame
import Derived.ReadAgain
import Derived.WideShapes
import Derived.Test.YtfiegoekphpjlaaGreatDoorA3
set_option linter.unusedSectionVars false
set_option linter.unusedVariables false
set_option linter.unusedSimpArgs false
namespace Go.Ab
variable {S:Nat->Type} {R:Type}
theorem Z7W {α β:Type} {f:α->β} {p:α->Bool} {q:β->Bool} (a:∀x,p x=true->q (f x)=true):∀{t:Tr α},t.allV p=true->(t.mapv f).allV q=true
 | .leaf,_=>rfl
 | .node l v r,h=>by
  simp only[Tr.allV,jn]at h;simp only[Tr.mapv,Tr.allV,jn];refine⟨Z7W a h.1,?_,Z7W a h.2.2⟩;cases v with
  | none=>rfl
  | some x=>exact a x h.2.1
theorem Zaz (f:Nat->Nat):∀(a b:List DV),rns f (a++b)=rns f a++rns f b
 | [],b=>by simp[rns]
 | c::a,b=>by simp only[List.cons_append,rns,Zaz f a b]
theorem Z90 (p:Nat->Bool):∀(a b:List DV),Z1j p (a++b)=(Z1j p a&&Z1j p b)
 | [],b=>by simp[Z1j]
 | c::a,b=>by simp only[List.cons_append,Z1j,Z90 p a b,Bool.and_assoc]
theorem Z8j (f:Nat->Nat):∀{cs:List DV},cs.all plain=true->rns f cs=cs
 | [],_=>rfl
 | c::cs,h=>by
  simp only[jt,jn]at h;simp only[rns,Z8j f h.2];cases c<;>simp[plain]at h<;>simp[rn]
theorem Z8i (p:Nat->Bool):∀{cs:List DV},cs.all plain=true->Z1j p cs=true
 | [],_=>rfl
 | c::cs,h=>by
  simp only[jt,jn]at h;simp only[Z1j,Z8i p h.2,Bool.and_true];cases c<;>simp[plain]at h<;>simp[okD]
theorem ZiE (f:Nat->Nat) (pid:Nat):∀(ts:List TypeId) (m:Nat),rn f (enD pid ts m)=enD (f pid) ts m
 | ts,0=>by cases ts<;>simp[enD,rn]
 | [],m+1=>by simp[enD,rn]
 | t::ts,1=>by simp[enD,rn,rns]
 | t::ts,m+2=>by simp only[enD];exact ZiE f pid ts (m+1)
theorem ZiC (f:Nat->Nat) (ts:List TypeId) (pid n:Nat) (a:Nat->Nat):rns f (eal ts pid n a)=eal ts (f pid) n a:=by
 unfold eal;generalize List.range n=l
 induction l with
 | nil=>rfl
 | cons x l ih=>simp only[jr,rns,ih,ZiE]
theorem ZfI (f:Nat->Nat):∀n:Nat,rns f (List.replicate n .nilif)=List.replicate n .nilif
 | 0=>rfl
 | n+1=>by simp only[List.replicate_succ,rns,ZfI f n,rn]
theorem ZkQ {p:Nat->Bool} {pid:Nat} (a:p pid=true):∀{cs:List DV},cs.all (Z5v pid)=true->Z1j p cs=true
 | [],_=>rfl
 | c::cs,h=>by
  simp only[jt,jn]at h;simp only[Z1j,ZkQ a h.2,Bool.and_true];rcases Z1E h.1 with e|⟨t,e⟩<;>subst e<;>simp[okD,Z1j,a]
theorem Zj6 (p:Nat->Bool):∀n:Nat,Z1j p (List.replicate n .nilif)=true
 | 0=>rfl
 | n+1=>by simp only[List.replicate_succ,Z1j,Zj6 p n,okD,ju]
section
variable {T:TS S} (hT:TOk T)
include hT
mutual
theorem ZbP (f:Nat->Nat):∀v:TV S,rn f (dv T v)=dv T (rnT f v)
 | .bool _=>by simp[dv,rn,rnT] | .int _ _=>by simp[dv,rn,rnT] | .str _=>by simp[dv,rn,rnT] | .nilp=>by simp[dv,rn,rnT] | .nils=>by simp[dv,rn,rnT]
 | .sl0=>by simp[dv,rn,rnT] | .sl _ _=>by simp[dv,rn,rnT]
 | .arr _ _ _=>by simp[dv,rn,rnT]
 | .stc _ _=>by simp[dv,rn,rnT]
 | .narr _ n=>by simp only[dv,rn,rnT,ZfI]
 | .earr ts pid n a=>by simp only[dv,rn,rnT,ZiC]
 | .ptr _ _=>by simp[dv,rn,rnT] | .ap _ _ _ _ _=>by simp[dv,rn,rnT] | .rptr _ _ _ _ _=>by simp[dv,rn,rnT]
 | .pub _=>by simp[dv,rn,rnT]
 | .rv _ _ _ _ _=>by simp[dv,rn,rnT] | .slen _=>by simp[dv,rn,rnT]
 | .rs _ _=>by simp[dv,rn,rnT] | .map _=>by simp[dv,rn,rnT] | .iter _=>by simp[dv,rn,rnT] | .yld _=>by simp[dv,rn,rnT] | .nop _=>by simp[dv,rn,rnT]
 | .nilfn=>by simp[dv,rn,rnT] | .nilmap=>by simp[dv,rn,rnT] | .nilif=>by simp[dv,rn,rnT]
 | .agg cs=>by simp only[dv,rn,rnT,Zd0 f cs]
 | .tup cs=>by simp only[dv,rn,rnT,Z7I f cs]
 | .fn _ a c=>by simp only[dv,rn,rnT,Z7I f a,Z7I f c]
 | .iface _ v=>by simp only[dv,rn,rnT,ZbP f v]
theorem Zd0 (f:Nat->Nat):∀cs:List (TV S),rns f (dvs T cs)=dvs T (Z7H f cs)
 | []=>by simp[dvs,rns,Z7H]
 | c::cs=>by
  rw[Zu,Zaz,Z7H,Zu,Zd0 f cs];have h:=ZbP f c;congr 1;cases c<;>simp only[Y3,rnT,rns]<;>first|(rw[h];simp only[rnT];done)|skip
  ·exact Z8j f (Yr hT _ _ _)
  ·exact Z8j f (hT.plain _ _)
  ·exact ZiC f _ _ _ _
  ·exact ZfI f _
theorem Z7I (f:Nat->Nat):∀cs:List (TV S),rns f (dvl T cs)=dvl T (Z7H f cs)
 | []=>by simp[dvl,rns,Z7H]
 | c::cs=>by simp only[dvl,rns,Z7H,ZbP f c,Z7I f cs]
end
mutual
theorem Zan (p:Nat->Bool):∀v:TV S,ZcC p v=true->okD p (dv T v)=true
 | .bool _,_=>by simp[dv,okD] | .int _ _,_=>by simp[dv,okD] | .str _,_=>by simp[dv,okD] | .nilp,_=>by simp[dv,okD] | .nils,_=>by simp[dv,okD]
 | .sl0,_=>by simp[dv,okD] | .sl _ _,_=>by simp[dv,okD]
 | .arr _ _ _,_=>by simp[dv,okD]
 | .stc _ _,_=>by simp[dv,okD]
 | .narr _ _,_=>by simp only[dv,okD];exact Zj6 p _
 | .earr _ _ _ _,h=>by simp only[dv,okD];exact ZkQ h (YC _ _ _ _)
 | .ptr _ _,h=>h | .ap _ _ _ _ _,h=>h | .rptr _ _ _ _ _,h=>h
 | .rv _ _ _ _ _,h=>h | .slen _,_=>by simp[dv,okD]
 | .rs _ _,h=>h | .map _,h=>h | .iter _,h=>h | .yld _,h=>h | .nop _,h=>h
 | .nilfn,_=>by simp[dv,okD] | .nilmap,_=>by simp[dv,okD] | .nilif,_=>by simp[dv,okD]
 | .pub cs,_=>by simp only[dv,okD]
 | .agg cs,h=>by simp only[dv,okD,ZcC]at h⊢;exact Zao p cs h
 | .tup cs,h=>by simp only[dv,okD,ZcC]at h⊢;exact Z5C p cs h
 | .fn _ a c,h=>by
  simp only[dv,okD,ZcC,jn]at h⊢;exact⟨Z5C p a h.1,Z5C p c h.2⟩
 | .iface _ v,h=>by simp only[dv,okD,ZcC]at h⊢;exact Zan p v h
theorem Zao (p:Nat->Bool):∀cs:List (TV S),Z5B p cs=true->Z1j p (dvs T cs)=true
 | [],_=>by simp[dvs,Z1j]
 | c::cs,h=>by
  simp only[Z5B,jn]at h;rw[Zu,Z90,Zao p cs h.2,Bool.and_true];have hc:=Zan p c h.1;cases c<;>simp only[Y3,Z1j,Bool.and_true]<;>first|exact hc|skip
  ·exact Z8i p (Yr hT _ _ _)
  ·exact Z8i p (hT.plain _ _)
theorem Z5C (p:Nat->Bool):∀cs:List (TV S),Z5B p cs=true->Z1j p (dvl T cs)=true
 | [],_=>by simp[dvl,Z1j]
 | c::cs,h=>by
  simp only[Z5B,jn]at h;simp only[dvl,Z1j,Zan p c h.1,Z5C p cs h.2,ju]
end
omit hT in
theorem Z4Q {α β γ:Type} (f:α->β) (g:β->γ):∀t:Tr α,(t.mapv f).mapv g=t.mapv fun x=>g (f x)
 | .leaf=>rfl
 | .node l v r=>by
  simp only[Tr.mapv,Z4Q f g l,Z4Q f g r];cases v<;>rfl
theorem Zjp (f:Nat->Nat) (o:Zi S):rnO f (dvO T o)=dvO T (Zg4 f o):=by
 cases o<;>simp only[dvO,rnO,Zg4]
 ·rw[Zd0 hT]
 ·rw[Z4Q,Z4Q];congr 1;congr 1;funext d;exact ZbP hT f d
theorem Zlc {p:Nat->Bool}:∀{o:Zi S},ZlI p o=true->okO p (dvO T o)=true
 | .cells _ cs,h=>Zao hT p cs h
 | .row _ _ _ _ _,_=>rfl
 | .map _ _ _,_=>rfl
 | .siter _ _,_=>rfl
 | .mit _ _,h=>h
 | .bag _ _ _ _,_=>rfl
 | .loop _ b _ _ _ _ _ _ _,h=>Z7W (fun d a=>Zan hT p d a) h
theorem ZfM {p:Nat->Bool} {h:Nat->Option (Zi S)}:∀{is:List Nat},Zj9 p h is=true->okH p (dvh T h) is=true
 | [],_=>rfl
 | i::is,hb=>by
  simp only[Zj9,jn]at hb;simp only[okH,jn];refine⟨?_,ZfM hb.2⟩;simp only[dvh];cases hi:h i with
  | none=>rfl
  | some o =>
   rw[hi]at hb;exact Zlc hT hb.1
theorem ZcZ (f:Nat->Nat) (h:Nat->Option (Zi S)):∀(is:List Nat),Z3N f (dvh T h) is=(Z6r f h is).mapv (dvO T)
 | []=>rfl
 | i::is=>by
  simp only[Z3N,Z6r,ZcZ f h is,ZR,dvh];congr 1;cases h i with
  | none=>rfl
  | some o=>simp only[jq,Zjp hT]
theorem ZeB (f:Nat->Nat) (h:Nat->Option (Zi S)):∀(is:List Nat),Z4u f (dvh T h) is=dvu T (Z8r f h is)
 | []=>rfl
 | i::is=>by
  simp only[Z4u,Z8r,ZeB f h is,dvu,jr,dvh];congr 2;cases h i with
  | none=>rfl
  | some o=>simp only[jq,Zjp hT]
theorem ZiJ {k:Nat} {v:TV S} {o:Tr (Zi S)} {n:Nat} {kk:TV S->Tr (Zi S)->Nat->Option R} {r:R} (h:ZdG k v o kk=some r) :
  ∃v' o' n',Z8S k (dv T v,o.mapv (dvO T),n)=some (dv T v',o'.mapv (dvO T),n')/\(∀i y,o'.get i=some y->∃j x,o.get j=some x/\y=Zg4 (Z2G k (geN k (Z2l o.get 4096 (Z27 v++upN 0 k) []))) x)/\kk v' o' n'=some r:=by
 unfold ZdG at h;rw[ZaG]at h;obtain⟨a,h⟩:=Z1 h;rw[ZbR,Z3P (fun v k=>ZaH v k),Z37]at h;refine⟨_,_,_,?_,fun i y hy=>?_,h⟩
 ·simp only[jn]at a;have e0:(o.mapv (dvO T)).get=dvh T o.get:=funext fun i=>ZD _ _ _;unfold Z8S;simp only[e0,ZcW hT,Z3K hT,a.1,Bool.true_and];rw[Zan hT _ v a.2.1,ZfM hT a.2.2];simp only[ju,jB,ZbP hT,ZcZ hT]
 ·have:∀(f:Nat->Nat) (is:List Nat),(Z6r f o.get is).get i=some y->∃j x,o.get j=some x/\y=Zg4 f x:=fun f is=>by
   induction is with
   | nil=>intro h;cases h
   | cons j is ih =>
    intro h;simp only[Z6r,Tr.get_set]at h
    by_cases e:i=f j
    ·rw[if_pos e]at h;cases hj:o.get j with
     | none=>rw[hj]at h;cases h
     | some x=>rw[hj]at h;cases h;exact⟨j,x,hj,rfl⟩
    ·rw[if_neg e]at h;exact ih h
  exact this _ _ hy
end
theorem Zgn {E:Env} {f:Nat->Nat} {x:Zi S} (h:WfL E (some x)):WfL E (some (Zg4 f x)):=by
 cases x<;>first|exact h|trivial
theorem Zf3 {E:Env} {f:Nat->Nat} {h:Nat->Option (Zi S)} (a:∀i,WfL E (h i)):∀(is:List Nat),WfO E (Z6r f h is)
 | []=>fun i=>trivial
 | i::is=>by
  simp only[Z6r];refine(Zf3 a is).set ?_;have:=a i;cases hi:h i with
  | none=>trivial
  | some x=>rw[hi]at this;exact Zgn this
theorem Zf4 {E:Env} {f:Nat->Nat} {h:Nat->Option (Zi S)} (b:∀i,WfL E (h i)):∀(is:List Nat),∀p∈Z8r f h is,WfL E p.2
 | [],p,a=>by cases a
 | i::is,p,a=>by
  simp only[Z8r]at a;rcases jv.1 a with e|e
  ·subst e;have:=b i;cases hi:h i with
   | none=>trivial
   | some x=>rw[hi]at this;exact Zgn this
  ·exact Zf4 b is p e
end Go.Ab
namespace Go.Ab
variable {S:Nat->Type} {R:Type}
def ZiP (nrm:St->Option St) (step:St->Option (Ex×St)) (m:Nat) (s:St):Option (Ex×St):=(step s).bind fun r=>match r.1 with
 | .normal=>iter nrm step m r.2
 | _=>some r
def LTo (E:Env) (key:Key) (F:FI) (c:Code) (hint:Z4b) (s:St) (ex:Ex) (s':St):Prop :=
 ∃N,∀n m,N<=n->N<=m->ZiP (Zed E hint key.n0) (evC E key.rnd key.fid F (evF E n) (evX E n false) (evX E n true) n key.bid c) m s=some (ex,s')
def Z2o (X:Y2 S) (ls:Z1J S R):Prop:=∀key s k r,ls key s k=some r->WfO X.E s.objs->∀F c hint,X.E.fn key.fid=some F->Code.sub F.body key.pos=some c->(F.hints.find? fun h=>Nat.beq h.bid key.bid)=some hint →
 ∃ex s',LTo X.E key F c hint (Zo X.T s) ex (Zo X.T s')/\WfO X.E s'.objs/\k ex s'=some r
theorem ZcI (T:TS S) (vs:List (TV S)):Z3d (dvl T vs)=dv T (Z1t vs):=by
 cases vs with
 | nil=>simp[Z3d,Z1t,dvl,dv]
 | cons v vs =>
  cases vs with
  | nil=>simp[Z3d,Z1t,dvl]
  | cons w vs=>simp[Z3d,Z1t,dvl,dv]
theorem Z3w (T:TS S) (V:Nat):∀(vs:List (TV S)) (k:Nat) (b:Tr (TV S)),YR V k (dvl T vs) (b.mapv (dv T))=(Yf V k vs b).mapv (dv T)
 | [],k,b=>by simp[YR,Yf,dvl]
 | v::vs,k,b=>by
  simp only[dvl,YR,Yf];cases Nat.testBit V k with
  | true=>simp only[jB];rw[<-Z3w T V vs,ZR];rfl
  | false=>simp only[jA];exact Z3w T V vs _ _
theorem Z3i (T:TS S) (V nt:Nat):∀(ps:List Nat) (vs:List (TV S)) (b:Tr (TV S)),YW V nt ps (dvl T vs) (b.mapv (dv T))=(Z1I V nt ps vs b).map (Tr.mapv (dv T))
 | [],[],b=>by simp[YW,Z1I,dvl]
 | [],_::_,b=>by simp[YW,Z1I,dvl]
 | _::_,[],b=>by simp[YW,Z1I,dvl]
 | p::ps,v::vs,b=>by
  simp only[dvl,YW,Z1I];cases Nat.blt p nt with
  | false=>rfl
  | true =>
   simp only[jB];cases Nat.testBit V p with
   | true =>
    simp only[jB];rw[<-Z3i T V nt ps vs,ZR];rfl
   | false=>simp only[jA];exact Z3i T V nt ps vs b
theorem Z6m (T:TS S) (o:Tr (Zi S)):(o.mapv (dvO T)).get=dvh T o.get:=funext fun i=>ZD _ _ _
theorem ZgO (T:TS S) (o:Tr (TV S)):(o.mapv (dv T)).get=dvr T o.get:=funext fun i=>ZD _ _ _
section
variable {X:Y2 S} (hX:XOk X)
include hX
theorem Z9v {base:Nat->Option (TV S)} {h:Nat->Option (Zi S)}:∀{rs:List ResultVar} {k:List (TV S)->Option R} {r:R},Z9i X base h rs k=some r->∃vs,Z3h X.E (dvr X.T base) (dvh X.T h) rs=some (dvl X.T vs)/\k vs=some r
 | [],k,r,hr=>⟨[],by simp[Z3h,dvl],hr⟩
 | .tmp t::rs,k,r,hr=>by
  simp only[Z9i]at hr;obtain⟨v,e,hr⟩:=Z0 hr;obtain⟨vs,b,c⟩:=Z9v hr;refine⟨v::vs,?_,c⟩;simp only[Z3h,dvr,e,jq,jm];rw[b];simp[dvl]
 | .cell a t::rs,k,r,hr=>by
  simp only[Z9i]at hr;obtain⟨ti,e,hr⟩:=Z0 hr;obtain⟨av,b,hr⟩:=Z0 hr;obtain⟨o,c,_,hr⟩:=Ze5 hX hr;obtain⟨v,j,hr⟩:=Z0 hr;obtain⟨vs,m,g⟩:=Z9v hr;obtain⟨d,l,f⟩:=Z0 c;have i:d=dv X.T v:=by
   have:(ret d)=some (ZU X.T o):=f;simp only[ret,ZU,j,jq,jh,Out.mk.injEq]at this;exact this.1
  refine⟨v::vs,?_,g⟩;simp only[Z3h,e,jm,dvr,b,jq];rw[l];simp only[jm];rw[m,i];simp[dvl]
end
theorem ZgK (T:TS S) (m:Nat) (s:StT S):(Zo T s).keep m=Zo T (s.keep m):=by
 simp only[St.keep,StT.keep,Zo,Z63]
theorem Zac (T:TS S) (F:FI) (id:Nat) (s:StT S):(Zo T s).keepX F id=Zo T (s.keepX F id):=by
 unfold St.keepX StT.keepX;cases F.xm.find? fun p=>Nat.beq p.1 id with
 | none=>rfl
 | some p=>exact ZgK T p.2 s
theorem ZfN (T:TS S) (F:FI) (d:TV S) (s:StT S):(Zo T s).pan F (dv T d)=Zo T (s.pan F d):=by
 simp only[St.pan,StT.pan,Zo,Z63,ZR,jq]
section
variable {X:Y2 S} (hX:XOk X) {cs:Z3v S R} (hcs:Z9k X cs) {ls:Z1J S R} (hls:Z2o X ls)
include hX hcs hls
omit hX hcs hls in
theorem Z8C {E:Env} {f:Nat} (h:ZeY E f=false) (run:ZY):Z38 E f run=run:=by
 unfold ZeY at h;simp only[Bool.or_eq_false_iff,Option.isSome_eq_false_iff,Option.isNone_iff_eq_none]at h;funext g as o nx;unfold Z38;rw[h.1,h.2.1,h.2.2.1,h.2.2.2]
omit hX hcs hls in
theorem Zen {T:TS S} (hT:TOk T) (t id:Nat) (s:StT S):ZgU (Zo T s) t id=Zo T (Z8l s t id):=by
 unfold ZgU Z8l;simp only[Zo,ZD];cases ho:s.objs.get id with
 | none=>rfl
 | some x =>
  cases x with
  | cells ct cs =>
   simp only[jq,dvO,Z1S hT];cases Yg cs with
   | true=>simp only[jB,ZR,dv,jq,jp]
   | false=>rfl
  | _=>rfl
omit hX hcs hls in
theorem ZfS {T:TS S} (hT:TOk T) (t:Nat) (s:StT S):pubSlot (Zo T s) t=Zo T (Z5G s t):=by
 unfold pubSlot Z5G;have a:(Zo T s).base.get t=(s.base.get t).map (dv T):=by simp only[Zo,ZD]
 rw[a];cases hb:s.base.get t with
 | none=>rfl
 | some v =>
  cases v with
  | ptr id o =>
   simp only[jq,dv];cases Nat.beq o 0 with
   | true=>exact Zen hT t id s
   | false=>rfl
  | ap id b i e o =>
   simp only[jq,dv];cases Nat.beq (b+i*e+o) 0 with
   | true=>exact Zen hT t id s
   | false=>rfl
  | _=>rfl
omit hX hcs hls in
theorem Z68 {T:TS S} (hT:TOk T) {rid:Nat}:∀(ps:List (Nat×Nat)) (s:StT S),pubAll rid ps (Zo T s)=Zo T (Z67 rid ps s)
 | [],_=>rfl
 | (r,t)::ps,s=>by
  unfold pubAll Z67;cases Nat.beq r rid with
  | false=>exact Z68 hT ps s
  | true=>simp only[jB,ZfS hT];exact Z68 hT ps _
omit hX hcs hls in
theorem Zeo {E:Env} {s:StT S} (t id:Nat) (h:WfO E s.objs):WfO E (Z8l s t id).objs:=by
 unfold Z8l;split
 ·rename_i ct cs _;cases Yg cs with
  | true=>exact h.set trivial
  | false=>exact h
 ·exact h
omit hX hcs hls in
theorem ZfT {E:Env} {s:StT S} (t:Nat) (h:WfO E s.objs):WfO E (Z5G s t).objs:=by
 unfold Z5G;split
 ·rename_i id o _;cases Nat.beq o 0 with
  | true=>exact Zeo t id h
  | false=>exact h
 ·rename_i id b i e o _;cases Nat.beq (b+i*e+o) 0 with
  | true=>exact Zeo t id h
  | false=>exact h
 ·exact h
omit hX hcs hls in
theorem Z8k {E:Env} {rid:Nat}:∀(ps:List (Nat×Nat)) {s:StT S},WfO E s.objs->WfO E (Z67 rid ps s).objs
 | [],_,h=>h
 | (r,t)::ps,s,h=>by
  unfold Z67;cases Nat.beq r rid with
  | false=>exact Z8k ps h
  | true=>exact Z8k ps (ZfT t h)
omit hX hcs hls in
theorem Zcg (T:TS S):∀(ts:List Nat) (b:Tr (TV S)),Z9N ts (b.mapv (dv T))=(Zdw ts b).mapv (dv T)
 | [],_=>rfl
 | t::ts,b=>by
  unfold Z9N Zdw;rw[<-Zcg T ts,ZR];rfl
omit hX hcs hls in
theorem Ze3 (T:TS S) (et:Ty):∀m:List (Val S (.int .i64)×Val S et),Z7q (m.map fun p=>(Yt T (.int .i64) p.1,Yt T et p.2))=some (m.map fun p=>p.1)
 | []=>rfl
 | p::m=>by
  show(Z7q (m.map fun p=>(Yt T (.int .i64) p.1,Yt T et p.2))).bind (fun l=>some ((p.1:Int)::l))=_;rw[Ze3 T et m];rfl
omit hX hcs hls in
theorem ZgL (T:TS S):∀{kt et:Ty} {m:List (Val S kt×Val S et)} {l:List Int},ZiR kt et m=some l->Z7q (m.map fun p=>(Yt T kt p.1,Yt T et p.2))=some l
 | kt,et,m,l,h=>by
  unfold ZiR at h;split at h
  ·cases h;exact Ze3 T _ _
  ·cases h
omit hcs hls in
theorem Zl9 {F:FI} {bid:Nat} {p:Nat×Nat×TypeId×Nat} {c:Code} {s:StT S} {kk:Ex->StT S->Option R} {r:R} (h:Zcz X F bid p c s kk=some r) (f:WfO X.E s.objs) :
  ∃s1,Z8f X.E F bid p c (Zo X.T s)=some (.exit bid,Zo X.T s1)/\WfO X.E s1.objs/\kk (.exit bid) s1=some r:=by
 unfold Zcz at h;split at h
 ·rename_i k d b;split at h
  ·rename_i m n v;split at h
   ·rename_i kt et es w;obtain⟨q,t,h⟩:=Z0 h;obtain⟨ti,g,h⟩:=Z0 h;split at h
    ·rename_i e j;obtain⟨ei,i,h⟩:=Z0 h;split at h
     ·rename_i a;obtain⟨l,o,h⟩:=Z0 h;obtain⟨u,h⟩:=Z1 h;have e1:(Zo X.T s).base.get p.1=some (.iter k):=by simp only[Zo,ZD,d,jq,dv]
      have e2:(Zo X.T s).base.get p.2.1=some .nils:=by simp only[Zo,ZD,b,jq,dv]
      have e3:(Zo X.T s).objs.get k=some (.mit m n []):=by simp only[Zo,ZD,v,jq,dvO]
      have e4:(Zo X.T s).objs.get m=some (.map (es.map fun p=>(Yt X.T kt p.1,Yt X.T et p.2))):=by simp only[Zo,ZD,w,jq,dvO]
      cases hn:Nat.beq n 0 with
      | true =>
       rw[hn]at h;refine⟨_,?_,?_,h⟩
       ·unfold Z8f;simp only[e1,e2,e3,e4,t,jm,g,j,i,a,ZgL X.T o,List.length_map,u,jB,hn];rw[<-Zac];simp only[Zo,ZR,jq,jp,dv,<-Zcg]
       ·have:∀s':StT S,(s'.keepX F bid).objs=s'.objs:=fun s'=>by unfold StT.keepX;cases F.xm.find? fun p=>Nat.beq p.1 bid<;>rfl
        rw[this];exact f.set (x:=none) trivial
      | false =>
       rw[hn]at h;refine⟨_,?_,?_,h⟩
       ·unfold Z8f;simp only[e1,e2,e3,e4,t,jm,g,j,i,a,ZgL X.T o,List.length_map,u,jB,hn,jA];rw[<-Zac];simp only[Zo,ZR,jq,jp,dv,dvO,<-Zcg];rfl
       ·have:∀s':StT S,(s'.keepX F bid).objs=s'.objs:=fun s'=>by unfold StT.keepX;cases F.xm.find? fun p=>Nat.beq p.1 bid<;>rfl
        rw[this];exact(f.set (x:=none) trivial).set (x:=some (.bag _ _ _ _)) trivial
     ·cases h
    ·cases h
   ·cases h
  ·cases h
 ·cases h
omit hX hcs hls in
theorem Zbw:∀xs:List Int,Za9 (xs.map fun n=>[DV.int .i64 n])=some xs
 | []=>rfl
 | n::xs=>by simp only[jr,Za9,Zbw xs,jm]
omit hX hcs hls in
theorem Zjw {o:Tr Z9} {id e e' u v nx:Nat} {ys:List Int} (a:o.get id=some (.bag e' (ys.map fun n=>[DV.int .i64 n]) u)) (h:(Nat.beq e' e&&Nat.beq u v&&Nat.ble ys.length 1000000)=true) :
  Zi1 e [.rs id v] o nx=some (.tup [],o.set id (some (.row e ((Z3R ys).map fun n=>[.int .i64 n]) 0 u)),nx):=by
 simp only[Zi1,a,List.length_map,h,jB,Zbw,jm]
omit hcs hls in
theorem ZjC {g:Nat} {as:List (TV S)} {o:Tr (Zi S)} {nx:Nat} {k:TV S->Tr (Zi S)->Nat->Option R} {r:R} (h:ZjB X g as o nx k=some r) (f:WfO X.E o) :
  ∃v o' nx',(∀run:ZY,Z38 X.E g run g (dvl X.T as) (o.mapv (dvO X.T)) nx=some (dv X.T v,o'.mapv (dvO X.T),nx'))/\WfO X.E o'/\k v o' nx'=some r:=by
 unfold ZjB at h;split at h
 ·rename_i e d hc b;unfold clnT at h;split at h
  ·rename_i x;obtain⟨ei,m,h⟩:=Z0 h;obtain⟨te,n,h⟩:=Z0 h;obtain⟨xs,i,h⟩:=Z0 h;obtain⟨a,h⟩:=Z1 h;have s:=(hX.code e te ei n m).1;refine⟨_,_,_,fun run=>?_,f.set (x:=some (.row _ _ _ _ _)) trivial,h⟩;simp only[jn]at a;simp only[Z38,d,hc,b,dvl,ZjS,Z6m,Z4g i,jm,m,Z2J hX s.symm,List.length_map,a.1,a.2,ju,jB,ZR,dv,dvO,jq]
  ·cases h
 ·rename_i t d hc;unfold ccT at h;split at h
  ·rename_i id;split at h
   ·rename_i t' j c w;obtain⟨a,h⟩:=Z1 h;simp only[jn,Bool.not_eq_true']at a;have p:dvs X.T [.nop j,c]=[.nop j,dv X.T c]:=by
     have:=a.2;cases c<;>simp[ZT]at this<;>simp[dvs,dv]
    refine⟨_,_,_,fun run=>?_,f.set (x:=some (.cells _ _)) trivial,h⟩;simp only[Z38,d,hc,dvl,dv,ccD,ccC,ZD,w,jq,dvO,p,a.1.1,a.1.2,ju,jB,ZR]
   ·cases h
  ·cases h
 ·rename_i e d hc b y;unfold srtT at h;split at h
  ·refine⟨_,_,_,fun run=>?_,f,h⟩;simp only[Z38,d,hc,b,y,dvl,dv,dvs,Zi1]
  ·rename_i id v;split at h
   ·rename_i e' t xs u w;obtain⟨a,h⟩:=Z1 h;split at h
    ·rename_i q;subst q;refine⟨_,_,_,fun run=>?_,f.set (x:=some (.row _ _ _ _ _)) trivial,h⟩;simp only[Z38,d,hc,b,y,dvl,dv];rw[Zjw (ys:=xs) (by rw[ZD,w];rfl) a,ZR]
     rfl
    ·cases h
   ·cases h
  ·cases h
 ·rename_i L0 d;obtain⟨l,m,h⟩:=Z0 h;obtain⟨⟨ok,c,d1,d2⟩,n,h⟩:=Z0 h;obtain⟨i,h⟩:=Z1 h;replace i:ok=true:=i;subst i;obtain⟨L,a,h5,h6,z⟩:=hX.lf g l as c d1 d2 m n;refine⟨bif c then d1 else d2,o,nx,fun run=>?_,f,?_⟩
  ·simp only[Z38,a,h5,jB,h6,jm,z]
  ·cases c<;>exact h
 ·cases h
theorem Ys {callH callY:Z1m S R} (hH:Z1n X false callH) (hY:Z1n X true callY) {path:List Nat} {rnd:Option Nat} {fid:Nat} {F:FI} (hF:X.E.fn fid=some F) :
  ∀(c:Code) (pos:List Nat) (bid:Nat) (s:StT S) (k:Ex->StT S->Option R) (r:R),YX X cs ls rnd fid F callH callY path pos bid c s k=some r->Code.sub F.body pos=some c->WfO X.E s.objs →
   ∃ex s',Evt (fun n=>evC X.E rnd fid F (evF X.E n) (evX X.E n false) (evX X.E n true) n bid c (Zo X.T s)=some (ex,Zo X.T s'))/\WfO X.E s'.objs/\k ex s'=some r
 | .skip,pos,bid,s,k,r,h,_,hw=>⟨.normal,s,Evt.of fun _=>rfl,hw,h⟩
 | .region id ops draw,pos,bid,s,k,r,h,_,hw=>by
  simp only[YX]at h;obtain⟨pd,s',b,j,e⟩:=Zg2 hX hcs hH hY h (Z8k F.pubs hw);cases pd with
  | none =>
   refine⟨.normal,s',b.mono fun n a=>?_,j,e⟩;rw[<-Z68 hX.t]at a;simp only[evC,a,jm,jp]
  | some d =>
   refine⟨.pan,s'.pan F d,b.mono fun n a=>?_,j,e⟩;rw[<-Z68 hX.t]at a;simp only[evC,a,jm,jq,ZfN]
 | .seq x y,pos,bid,s,k,r,h,hp,hw=>by
  simp only[YX]at h;have hx:Code.sub F.body (0::pos)=some x:=by simp only[Code.sub,hp,jm,Code.kid]
  have hy:Code.sub F.body (1::pos)=some y:=by simp only[Code.sub,hp,jm,Code.kid]
  obtain⟨ex,s1,b,j,e⟩:=Ys hH hY hF x _ bid s _ r h hx hw;cases ex with
  | normal =>
   simp only at e;obtain⟨ex',s2,h4,h5,u⟩:=Ys hH hY hF y _ bid s1 k r e hy j;refine⟨ex',s2,(b.and h4).mono fun n a=>?_,h5,u⟩;simp only[evC,a.1,jm];exact a.2
  | _ =>
   simp only at e;refine⟨_,s1,b.mono fun n a=>?_,j,e⟩;simp only[evC,a,jm]
 | .cond c x y,pos,bid,s,k,r,h,hp,hw=>by
  simp only[YX]at h;have hx:Code.sub F.body (0::pos)=some x:=by simp only[Code.sub,hp,jm,Code.kid]
  have hy:Code.sub F.body (1::pos)=some y:=by simp only[Code.sub,hp,jm,Code.kid]
  cases ho:ZO s.base.get c with
  | none=>rw[ho]at h;cases h
  | some v =>
   rw[ho]at h;cases v<;>simp only[reduceCtorEq]at h;rename_i t;have a0:ZS (Zo X.T s).base.get c=some (.bool t):=by
    show ZS (s.base.mapv (dv X.T)).get c=_;rw[ZgO,ZF,ho];rfl
   cases t with
   | true =>
    simp only[jB]at h;obtain⟨ex,s1,b,j,e⟩:=Ys hH hY hF x _ bid s _ r h hx hw;refine⟨ex,s1,b.mono fun n a=>?_,j,e⟩;simp only[evC,a0,jB];exact a
   | false =>
    simp only[jA]at h;obtain⟨ex,s1,b,j,e⟩:=Ys hH hY hF y _ bid s _ r h hy hw;refine⟨ex,s1,b.mono fun n a=>?_,j,e⟩;simp only[evC,a0,jA];exact a
 | .block id c,pos,bid,s,k,r,h,hp,hw=>by
  simp only[YX]at h;have hx:Code.sub F.body (0::pos)=some c:=by simp only[Code.sub,hp,jm,Code.kid]
  obtain⟨ex,s1,b,j,e⟩:=Ys hH hY hF c _ id s _ r h hx hw;cases ex with
  | exit i =>
   simp only at e;cases hi:Nat.beq i id with
   | true =>
    rw[hi]at e;refine⟨.normal,s1,b.mono fun n a=>?_,j,e⟩;simp only[evC,a,jm,hi,jB]
   | false =>
    rw[hi]at e;refine⟨_,s1,b.mono fun n a=>?_,j,e⟩;simp only[evC,a,jm,hi,jA]
  | _ =>
   simp only at e;refine⟨_,s1,b.mono fun n a=>?_,j,e⟩;simp only[evC,a,jm]
 | .loop c,pos,bid,s,k,r,h,hp,hw=>by
  simp only[YX]at h;have hx:Code.sub F.body (0::pos)=some c:=by simp only[Code.sub,hp,jm,Code.kid]
  split at h
  ·rename_i p hfd;obtain⟨s1,b,j,e⟩:=Zl9 hX h hw;exact⟨_,s1,Evt.of fun n=>by simp only[evC,hfd];exact b,j,e⟩
  rename_i hfd;obtain⟨o,b,h⟩:=Z0 h;obtain⟨s1,j,h⟩:=Z0 h;obtain⟨e,h4⟩:=Zeg hX j hw;obtain⟨ex,s',⟨N,h5⟩,u,h7⟩:=hls _ _ _ _ h h4 F c o hF hx b;refine⟨ex,s',⟨N+1,fun n a=>?_⟩,u,h7⟩;simp only[evC,hfd,b,jm];cases n with
  | zero=>omega
  | succ m =>
   simp only[iter];have h3':Zed X.E o (Zo X.T s).next (Zo X.T s)=some (Zo X.T s1):=e;rw[h3'];simp only[jm];exact h5 (m+1) m (by omega) (by omega)
 | .exit id,pos,bid,s,k,r,h,_,hw=>⟨.exit id,s.keepX F id,Evt.of fun _=>by simp only[evC,Zac],by
   have:(s.keepX F id).objs=s.objs:=by unfold StT.keepX;cases F.xm.find? fun p=>Nat.beq p.1 id<;>rfl
   rw[this];exact hw,h⟩
 | .scope c,pos,bid,s,k,r,h,hp,hw=>by
  simp only[YX]at h;have hx:Code.sub F.body (0::pos)=some c:=by simp only[Code.sub,hp,jm,Code.kid]
  obtain⟨ex,s1,b,j,e⟩:=Ys hH hY hF c _ bid s _ r h hx hw;exact⟨ex,s1,b.mono fun n a=>by simp only[evC];exact a,j,e⟩
 | .label l,pos,bid,s,k,r,h,_,hw=>⟨.normal,s,Evt.of fun _=>rfl,hw,h⟩
 | .ret,pos,bid,s,k,r,h,_,hw=>⟨.ret,s.keep F.rm,Evt.of fun _=>by simp only[evC,ZgK],hw,h⟩
 | .goto _,pos,bid,s,k,r,h,_,hw=>by simp only[YX,reduceCtorEq]at h
 | .refuse _,pos,bid,s,k,r,h,_,hw=>by simp only[YX,reduceCtorEq]at h
 | .rangeFunc f ps assign body,pos,bid,s0,k,r,h,hp,hw=>by
  simp only[YX]at h;obtain⟨b,h⟩:=Z1 h;obtain⟨s,j,h⟩:=Z0 h;obtain⟨fv,e,h⟩:=Z0 h
  have hs:(match(F.hints.find? fun h=>Nat.beq h.bid bid:Option Z4b)with
   | some o=>(Yj X.E (Zo X.T s0).next 0 o.accs ((Zo X.T s0).base,(Zo X.T s0).objs)).bind fun r=>some (St.mk r.1 r.2 ((Zo X.T s0).next+o.accs.length))
   | none=>some (Zo X.T s0))=some (Zo X.T s)/\WfO X.E s.objs:=by
   cases hh:(F.hints.find? fun h=>Nat.beq h.bid bid)with
   | none=>rw[hh]at j;cases j;exact⟨rfl,hw⟩
   | some o =>
    rw[hh]at j;obtain⟨q,h4,h5⟩:=Z0 j;cases h5;obtain⟨u,h7⟩:=Yi hX h4 hw;refine⟨?_,h7⟩;simp only;have h6':Yj X.E (Zo X.T s0).next 0 o.accs ((Zo X.T s0).base,(Zo X.T s0).objs)=_:=u;rw[h6'];rfl
  obtain⟨hs1,hs2⟩:=hs;cases fv with
  | fn g first caps =>
   cases g with
   | func g =>
    simp only at h;obtain⟨v,objs',next',h4,h5,u⟩:=hH _ _ _ _ _ _ _ h (hs2.set (x:=some (.loop fid s.base ps.toList assign body bid .normal (bid::path) pos)) ⟨F,f,hF,by simpa using hp⟩)
    have hir:inRound rnd (Zo X.T s0).objs.get=true:=by
     show inRound rnd (s0.objs.mapv (dvO X.T)).get=true;rw[Z6m];unfold ZdX at b;unfold inRound;cases rnd with
     | none=>rfl
     | some l =>
      simp only at b⊢;unfold dvh;cases hl:s0.objs.get l with
      | none=>rw[hl]at b;cases b
      | some ob=>rw[hl]at b;cases ob<;>simp only[jg]at b;rfl
    have a0:ZS (Zo X.T s).base.get f=some (.fn (.func g) (dvl X.T first) (dvl X.T caps)):=by
     show ZS (s.base.mapv (dv X.T)).get f=_;rw[ZgO,ZF,e];rfl
    have e1:Evt fun n=>evX X.E n false g (dvl X.T first++[.yld (Zo X.T s).next]++dvl X.T caps) ((Zo X.T s).objs.set (Zo X.T s).next (some (.loop fid (Zo X.T s).base ps.toList assign body bid .normal))) ((Zo X.T s).next+1)=some (dv X.T v,objs'.mapv (dvO X.T),next'):=h4.mono fun n a=>by
     rw[ZR]at a;simp only[Z6J,dvl,dv]at a;exact a
    have e2:(Zo X.T { s with objs:=objs'.set s.next none,next:=next' })={ Zo X.T s with objs:=(objs'.mapv (dvO X.T)).set (Zo X.T s).next none,next:=next' }:=by
     simp only[Zo,ZR];rfl
    cases hpo:Z10 v with
    | some d =>
     rw[hpo]at u;refine⟨.pan,_,e1.mono fun n a=>?_,h5.set (x:=none) trivial,u⟩;simp only[evC];rw[hir];simp only[jB];refine(congrArg (fun z=>Option.bind z _) hs1).trans ?_;simp only[jm];rw[a0];simp only[jm];rw[a];simp only[jm,Z91 X.T hpo];rw[<-ZfN,e2]
    | none =>
    rw[hpo]at u;simp only at u;have hpn:Yd (dv X.T v)=none:=by rw[Zap,hpo];rfl
    cases ho:objs'.get s.next with
    | none=>rw[ho]at u;cases u
    | some ob =>
     rw[ho]at u;cases ob<;>simp only[reduceCtorEq]at u;rename_i fid' bs' ps' as' bo' bid' ex pa' po';have w:k ex { s with objs:=objs'.set s.next none,next:=next' }=some r/\ex≠.busy/\ex≠.pan:=by
      cases ex<;>simp only[reduceCtorEq]at u<;>exact⟨u,by simp,by simp⟩
     refine⟨ex,_,e1.mono fun n a=>?_,h5.set (x:=none) trivial,w.1⟩;simp only[evC];rw[hir];simp only[jB];refine(congrArg (fun z=>Option.bind z _) hs1).trans ?_;simp only[jm];rw[a0];simp only[jm];rw[a];simp only[jm,hpn,ZD];have ho2:objs'.get (Zo X.T s).next=some (.loop fid' bs' ps' as' bo' bid' ex pa' po'):=ho;rw[ho2];simp only[jq,dvO];rw[e2];cases ex<;>first|rfl|exact absurd rfl w.2.1|exact absurd rfl w.2.2
   | _=>cases h
  | _=>cases h
omit hls in
theorem Zho {g:Nat} {as:List (TV S)} {objs:Tr (Zi S)} {next:Nat} {k:TV S->Tr (Zi S)->Nat->Option R} {r:R} {F:FI} (f:ZeY X.E g=false) (p:X.E.fn g=some F) (b:F.can=true)
  (h:Zfk cs g as objs next k=some r) (i:WfO X.E objs) :
  ∃v objs' next',Evt (fun n=>evX X.E n false g (dvl X.T as) (objs.mapv (dvO X.T)) next=some (dv X.T v,objs'.mapv (dvO X.T),next'))/\WfO X.E objs'/\k v objs' next'=some r:=by
 unfold Zfk at h;rw[Z3Q,Z3P (fun v k=>ZaH v k),ZaG,Z37]at h;generalize hfs:(as.map fun d=>(YE objs.get d).getD d)=fs at h;generalize ho1:Z4A objs (Z6v objs.get (Yq as))=o1 at h;generalize hRs:Z2l o1.get 4096 (Z36 fs) []=Rs at h;obtain⟨c,h⟩:=Z1 h;rw[Z3Q,Z3P (fun v k=>ZaH v k)]at h;have a:WfO X.E o1:=by rw[<-ho1];exact i.upd (Z2L _ _)
 obtain⟨v,os,n',o,j,h⟩:=hcs.pr _ _ _ _ _ _ h (Zf3 a _);rw[ZbR,Z3P (fun v k=>ZaH v k),Z37]at h;refine⟨_,_,_,Evt.succ (o.mono fun n m=>?_),a.updW (Zf4 j _),h⟩;simp only[jn]at c;have e1:((dvl X.T as).map fun d=>(frz (objs.mapv (dvO X.T)).get d).getD d)=dvl X.T fs:=by
  rw[<-hfs,Z4H,Z4H,List.map_map,List.map_map];congr 1;funext d;simp only[Function.comp,Z6m,Z6N hX.t];cases YE objs.get d<;>rfl
 have e2:ZW (objs.mapv (dvO X.T)) (Zp (objs.mapv (dvO X.T)).get (Zg (dvl X.T as)))=o1.mapv (dvO X.T):=by
  rw[<-ho1,Z6m,Z4v hX.t,Z7O,ZaW]
 have e3:Z1l (o1.mapv (dvO X.T)).get 4096 (Z1x (dvl X.T fs)) []=Rs:=by
  rw[Z6m,Z50 hX.t,Z3K hX.t,hRs]
 obtain⟨⟨r1,o2,n2⟩,hr,l⟩:=Z0 m;have e:Z9j X.E (fun g as=>(evX X.E n false g as .leaf 0).bind fun x=>frz x.2.1.get x.1) (evX X.E n false) (evX X.E n true) n g (dvl X.T (Z7H (Z5b Rs) fs)) ((Z6r (Z5b Rs) o1.get Rs).mapv (dvO X.T)) (Z2H Rs)=some (r1,o2,n2):=hr;rw[evX,Z8C f];unfold Z45;rw[p];simp only[jm,b,jB,e1,e2,e3];rw[Z6m,ZfM hX.t c.2.2,Z5C hX.t _ _ c.2.1,c.1,Z7I hX.t,ZcZ hX.t];simp only[ju,jB,e,jm,l,Z6m,ZbP hX.t,ZeB hX.t,ZaW]
def dvC (T:TS S) (cl:List (Nat×List (TV S))):List (Nat×List DV):=cl.map fun p=>(p.1,dvl T p.2)
theorem Z9G {callH callY:Z1m S R} (l:Z1n X false callH) (j:Z1n X true callY) {path:List Nat} {fid:Nat} {F:FI} (u:X.E.fn fid=some F) :
  ∀(c:Code) (pos:List Nat) (s:StT S) (k:Ex->StT S->List (Nat×List (TV S))->Option R) (r:R),Z6I X cs ls fid F callH callY path pos c s k=some r->Code.sub F.body pos=some c->WfO X.E s.objs →
   ∃ex s' cl,Evt (fun n=>evB X.E fid F (evF X.E n) (evX X.E n false) (evX X.E n true) n c (Zo X.T s)=some (ex,Zo X.T s',dvC X.T cl))/\WfO X.E s'.objs/\k ex s' cl=some r
 | .seq x y,pos,s,k,r,h,hp,hw=>by
  simp only[Z6I]at h;have hx:Code.sub F.body (0::pos)=some x:=by simp only[Code.sub,hp,jm,Code.kid]
  have hy:Code.sub F.body (1::pos)=some y:=by simp only[Code.sub,hp,jm,Code.kid]
  obtain⟨ex,s1,cl,i,e,a⟩:=Z9G l j u x _ s _ r h hx hw;cases ex with
  | normal =>
   cases cl with
   | nil =>
    simp only at a;obtain⟨ex',s2,cl2,z,h5,h6⟩:=Z9G l j u y _ s1 k r a hy e;refine⟨ex',s2,cl2,(i.and z).mono fun n b=>?_,h5,h6⟩;simp only[evB,b.1,jm,dvC,List.map_nil];exact b.2
   | cons p ps =>
    simp only at a;obtain⟨ex',s2,z,h5,h6⟩:=Ys hX hcs hls l j u y _ 0 s1 _ r a hy e;refine⟨ex',s2,p::ps,(i.and z).mono fun n b=>?_,h5,h6⟩;simp only[evB,b.1,jm,dvC,jr,b.2]
  | _ =>
   simp only at a;refine⟨_,s1,cl,i.mono fun n b=>?_,e,a⟩;simp only[evB,b,jm]
 | .region rid ops draw,pos,s,k,r,h,hp,hw=>by
  simp only[Z6I]at h;cases hl:Z2h ops.toList with
  | none =>
   rw[hl]at h;obtain⟨ex,s1,i,e,a⟩:=Ys hX hcs hls l j u _ _ 0 s _ r h hp hw;refine⟨ex,s1,[],i.mono fun n b=>?_,e,a⟩;simp only[evB,hl,b,jm];rfl
  | some q =>
   obtain⟨pre,o,f⟩:=q;rw[hl]at h;simp only at h;cases draw with
   | true=>cases h
   | false =>
   simp only[jA]at h;obtain⟨pd,m,i,e,a⟩:=Z7N hX hcs l j _ 0 [] ⟨s.base,[],s.objs,s.next+ops.size⟩ _ r h (fun _ _ _ hk _=>by cases hk) hw
   have e0:∀n,Z1O X.E (evF X.E n) (evX X.E n false) (evX X.E n true) F.vmask F.nt ops (Zo X.T s).next 0 pre ⟨(Zo X.T s).base,[],(Zo X.T s).objs,(Zo X.T s).next+ops.size⟩=Z1O X.E (evF X.E n) (evX X.E n false) (evX X.E n true) F.vmask F.nt ops s.next 0 pre (dvM X.T ⟨s.base,[],s.objs,s.next+ops.size⟩):=fun n=>rfl;cases pd with
   | some d =>
    simp only at a;rw[Zd5]at a;refine⟨.pan,_,[],i.mono fun n b=>?_,e,a⟩;simp only[evB,hl,jA,e0,b,jm,jq];rw[<-ZfN];rfl
   | none =>
    simp only at a;cases hf:ZO (Z14 F.vmask m.base m.loc) f with
    | none=>rw[hf]at a;cases a
    | some v =>
     rw[hf]at a;split at a
     ·rename_i g caps he;cases he;obtain⟨w,a⟩:=Z1 a;rw[Zd5]at a;simp only[jn]at w;refine⟨.normal,_,[(g,caps)],i.mono fun n b=>?_,by simp only[Z3s];exact e,a⟩
      simp only[evB,hl,jA,e0,b,jm,jp];have e1:ZQ F.vmask (dvM X.T m).base (dvM X.T m).loc=dvr X.T (Z14 F.vmask m.base m.loc):=Zda X.T F.vmask m.base m.loc;rw[e1,ZF,hf];simp only[jq,dv,dvl];have e3:Z1q (dvM X.T m).next (dvl X.T caps)=true:=Z5l hX.t _ _ w.2;rw[w.1,e3];simp only[ju,jB];have e2:=Z8m X.T F.vmask F.nt m o.dst (some (.tup []));simp only[jq,dv,dvl]at e2;rw[e2];rfl
     ·cases a
 | .skip,pos,s,k,r,h,hp,hw | .label _,pos,s,k,r,h,hp,hw | .ret,pos,s,k,r,h,hp,hw | .exit _,pos,s,k,r,h,hp,hw | .goto _,pos,s,k,r,h,hp,hw | .refuse _,pos,s,k,r,h,hp,hw | .cond _ _ _,pos,s,k,r,h,hp,hw
 | .block _ _,pos,s,k,r,h,hp,hw | .loop _,pos,s,k,r,h,hp,hw | .scope _,pos,s,k,r,h,hp,hw | .rangeFunc _ _ _ _,pos,s,k,r,h,hp,hw=>by
  simp only[Z6I]at h;obtain⟨ex,s1,i,e,a⟩:=Ys hX hcs hls l j u _ _ 0 s _ r h hp hw;refine⟨ex,s1,[],i.mono fun n b=>?_,e,a⟩;simp only[evB,b,jm];rfl
theorem Zky {callH callY:Z1m S R} (v:Z1n X false callH) (p:Z1n X true callY) {path:List Nat} {g:Nat} {caps:List (TV S)} {d:TV S} {objs:Tr (Zi S)} {next:Nat} {k:Tr (Zi S)->Nat->Option R} {r:R}
  (h:Zlh X cs ls callH callY path g caps d objs next k=some r) (q:WfO X.E objs) :
  ∃objs' next',Evt (fun n=>Z3O X.E (evF X.E n) (evX X.E n false) (evX X.E n true) n g (dvl X.T caps) (dv X.T d) (objs.mapv (dvO X.T)) next=some (objs'.mapv (dvO X.T),next'))/\WfO X.E objs'/\k objs' next'=some r:=by
 unfold Zlh at h;obtain⟨F,o,h⟩:=Z0 h;obtain⟨u,h⟩:=Z1 h;have f:Nat.ble (dvl X.T caps).length F.nt=true:=by rw[Z4H,List.length_map];exact u
 split at h
 ·rename_i rid ops rest l;obtain⟨t,ht,h⟩:=Z0 h;obtain⟨hc,h⟩:=Z1 h;have e1:(⟨YR F.vmask 0 (dvl X.T caps) .leaf,[],objs.mapv (dvO X.T),next⟩:Mid)=dvM X.T ⟨Yf F.vmask 0 caps .leaf,[],objs,next⟩:=by
   simp only[dvM,Zbp,List.map_nil];rw[<-Z3w];rfl
  obtain⟨M,b⟩:∃M:Z1B S,M=Z1B.put F.vmask F.nt (Z1B.put F.vmask F.nt ⟨Yf F.vmask 0 caps .leaf,[],objs,next⟩ (some t.1) (some d)) (some t.2) (some d):=⟨_,rfl⟩
  have c:WfO X.E M.objs:=by rw[b];simp only[Z3s];exact q
  have h':YX X cs ls none g F callH callY (g::path) [1] 0 rest ⟨M.base,M.objs,M.next⟩ (fun ex s=>(match ex with
    | .normal | .ret=>k s.objs s.next
    | _=>none))=some r:=by rw[b];exact h
  have fin:∀n ex s1,evC X.E none g F (evF X.E n) (evX X.E n false) (evX X.E n true) n 0 rest (Zo X.T ⟨M.base,M.objs,M.next⟩)=some (ex,Zo X.T s1)->Z3O X.E (evF X.E n) (evX X.E n false) (evX X.E n true) n g (dvl X.T caps) (dv X.T d) (objs.mapv (dvO X.T)) next=(match ex with | .normal | .ret=>some (s1.objs.mapv (dvO X.T),s1.next)|_=>none):=fun n ex s1 a=>by
   unfold Z3O;simp only[o,jm,f,jB,l,ht];refine(Z2B hc).trans ?_;rw[e1];have e2:=Z8m X.T F.vmask F.nt ⟨Yf F.vmask 0 caps .leaf,[],objs,next⟩ (some t.1) (some d)
   have e3:=Z8m X.T F.vmask F.nt (Z1B.put F.vmask F.nt ⟨Yf F.vmask 0 caps .leaf,[],objs,next⟩ (some t.1) (some d)) (some t.2) (some d)
   simp only[jq]at e2 e3;rw[e2,e3,<-b];have e:evC X.E none g F (evF X.E n) (evX X.E n false) (evX X.E n true) n 0 rest ⟨(dvM X.T M).base,(dvM X.T M).objs,(dvM X.T M).next⟩=some (ex,Zo X.T s1):=a;rw[e];simp only[jm];cases ex<;>rfl
  obtain⟨ex,s1,m,j,i⟩:=Ys hX hcs hls v p o rest _ 0 _ _ r h' (by rw[l];rfl) c
  cases ex with
  | normal=>exact⟨_,_,m.mono fun n a=>fin n _ _ a,j,i⟩
  | ret=>exact⟨_,_,m.mono fun n a=>fin n _ _ a,j,i⟩
  | _=>cases i
 ·cases h
omit hX hcs hls in
theorem Zjb (T:TS S) {v:TV S} (h:(Z10 v).isNone=true):okV (dv T v)=some (dv T v):=by
 unfold okV;rw[Zap];cases hp:Z10 v with
 | none=>rfl
 | some d=>rw[hp]at h;cases h
theorem Zf6:∀n,Z1n X false (xK X cs ls n false)/\Z1n X true (xK X cs ls n true)
 | 0=>⟨fun _ _ _ _ _ _ _ h=>by simp[xK]at h,fun _ _ _ _ _ _ _ h=>by simp[xK]at h⟩
 | N+1=>by
  obtain⟨ih1,ih2⟩:=Zf6 N;constructor
  ·intro path g as objs next k r h hw
   simp only[xK]at h;cases hnt:ZeY X.E g with
   | true =>
    rw[hnt]at h;obtain⟨v,o',nx',s,t,a⟩:=ZjC hX h hw;exact⟨v,o',nx',Evt.succ (Evt.of fun n=>by simp only[evX];exact s _),t,a⟩
   | false =>
   rw[hnt]at h;simp only[jA]at h;obtain⟨F,w,h⟩:=Z0 h;cases hcan:F.can with
   | true=>rw[hcan]at h;exact Zho hX hcs hnt w hcan h hw
   | false =>
   rw[hcan]at h;simp only[jA]at h;obtain⟨hl,h⟩:=Z1 h;have hl':Nat.ble (dvl X.T as).length F.nt=true:=by rw[Z4H,List.length_map];exact hl
   have e1:(⟨YR F.vmask 0 (dvl X.T as) .leaf,objs.mapv (dvO X.T),next⟩:St)=Zo X.T ⟨Yf F.vmask 0 as .leaf,objs,next⟩:=by
    simp only[Zo];rw[<-Z3w];rfl
   have p:∀{b:Tr (TV S)} {o:Tr (Zi S)} {nx:Nat},(Z9i X b.get o.get F.nres fun vs=>bif(Z10 (Z1t vs)).isNone then k (Z1t vs) o nx else none)=some r →
     ∃v,(Z3h X.E (b.mapv (dv X.T)).get (o.mapv (dvO X.T)).get F.nres).bind (fun vs=>(okV (Z3d vs)).bind fun v=>some (v,o.mapv (dvO X.T),nx))=some (dv X.T v,o.mapv (dvO X.T),nx)/\k v o nx=some r:=fun {b o nx} h=>by
    obtain⟨vs,j,e⟩:=Z9v hX h;obtain⟨m,e⟩:=Z1 e;refine⟨Z1t vs,?_,e⟩;rw[ZgO,Z6m,j];simp only[jm,ZcI,Zjb X.T m]
   cases hdf:F.dfs with
   | true =>
    rw[hdf]at h;simp only[jB]at h;have run:∀{ex:Ex} {s':StT S} {cl:List (Nat×List (TV S))} {n:Nat} {z:DV×Tr Z9×Nat},evB X.E g F (evF X.E n) (evX X.E n false) (evX X.E n true) n F.body (Zo X.T ⟨Yf F.vmask 0 as .leaf,objs,next⟩)=some (ex,Zo X.T s',dvC X.T cl) →
      (match ex,dvC X.T cl with
       | .normal,_=>(Z3h X.E (Zo X.T s').base.get (Zo X.T s').objs.get F.nres).bind fun vs=>(okV (Z3d vs)).bind fun v=>some (v,(Zo X.T s').objs,(Zo X.T s').next)
       | .ret,_=>(Z3h X.E (Zo X.T s').base.get (Zo X.T s').objs.get F.nres).bind fun vs=>(okV (Z3d vs)).bind fun v=>some (v,(Zo X.T s').objs,(Zo X.T s').next)
       | .pan,[]=>((Zo X.T s').base.get F.nt).bind fun d=>some (ZcL d,(Zo X.T s').objs,(Zo X.T s').next)
       | .pan,[(g,caps)]=>((Zo X.T s').base.get F.nt).bind fun d=>(Z3O X.E (evF X.E n) (evX X.E n false) (evX X.E n true) n g caps d (Zo X.T s').objs (Zo X.T s').next).bind fun q =>
         (Z3h X.E ((Zo X.T s').base.set F.nt none).get q.1.get F.nres).bind fun vs=>(okV (Z3d vs)).bind fun v=>some (v,q.1,q.2)
       | _,_=>none)=some z->evX X.E (n+1) false g (dvl X.T as) (objs.mapv (dvO X.T)) next=some z:=fun {ex s' cl n z} c hz=>by
     simp only[evX,Z8C hnt,Z45,w,jm,hcan,jA,Z9j,hl',jB,hdf,e1];have hn':evB X.E g F (fun g as=>(evX X.E n false g as .leaf 0).bind fun x=>frz x.2.1.get x.1) (evX X.E n false) (evX X.E n true) n F.body (Zo X.T ⟨Yf F.vmask 0 as .leaf,objs,next⟩)=some (ex,Zo X.T s',dvC X.T cl):=c
     rw[hn'];exact hz
    obtain⟨ex,s',cl,s,t,a⟩:=Z9G hX hcs hls ih1 ih2 w F.body [] _ _ r h rfl hw;cases ex with
    | normal =>
     obtain⟨v,j,e⟩:=p a;exact⟨v,s'.objs,s'.next,Evt.succ (s.mono fun n c=>run c j),t,e⟩
    | ret =>
     obtain⟨v,j,e⟩:=p a;exact⟨v,s'.objs,s'.next,Evt.succ (s.mono fun n c=>run c j),t,e⟩
    | exit i=>cases a
    | busy=>cases a
    | pan =>
     have hb:∀{d:TV S},s'.base.get F.nt=some d->(Zo X.T s').base.get F.nt=some (dv X.T d):=fun hd=>by
      show(s'.base.mapv (dv X.T)).get F.nt=_;rw[ZD,hd];rfl
     match cl,s,a with
     | [],s,a =>
      simp only at a;obtain⟨d,j,e⟩:=Z0 a;refine⟨Z92 d,s'.objs,s'.next,Evt.succ (s.mono fun n c=>run c ?_),t,e⟩;simp only[dvC,List.map_nil,hb j,jm];rfl
     | [(g1,caps)],s,a =>
      simp only at a;obtain⟨d,j,a⟩:=Z0 a;obtain⟨o2,n2,e,m,a⟩:=Zky hX hcs hls ih1 ih2 a t;obtain⟨v,h7,h8⟩:=p a;refine⟨v,o2,n2,Evt.succ ((s.and e).mono fun n c=>run c.1 ?_),m,h8⟩;simp only[dvC,jr,List.map_nil,hb j,jm];have e5:Z3O X.E (evF X.E n) (evX X.E n false) (evX X.E n true) n g1 (dvl X.T caps) (dv X.T d) (Zo X.T s').objs (Zo X.T s').next=some (o2.mapv (dvO X.T),n2):=c.2;rw[e5];simp only[jm];rw[show(Zo X.T s').base.set F.nt none=(s'.base.set F.nt none).mapv (dv X.T) by rw[ZR];rfl]
      exact h7
     | _::_::_,_,a=>cases a
   | false =>
   rw[hdf]at h;simp only[jA]at h;have run:∀{ex:Ex} {s':StT S} {n:Nat} {z:DV×Tr Z9×Nat},evC X.E none g F (evF X.E n) (evX X.E n false) (evX X.E n true) n 0 F.body (Zo X.T ⟨Yf F.vmask 0 as .leaf,objs,next⟩)=some (ex,Zo X.T s') →
     (match ex with
      | .exit _ | .busy=>none
      | .pan=>((Zo X.T s').base.get F.nt).bind fun d=>some (ZcL d,(Zo X.T s').objs,(Zo X.T s').next)
      | _=>(Z3h X.E (Zo X.T s').base.get (Zo X.T s').objs.get F.nres).bind fun vs=>(okV (Z3d vs)).bind fun v=>some (v,(Zo X.T s').objs,(Zo X.T s').next))=some z->evX X.E (n+1) false g (dvl X.T as) (objs.mapv (dvO X.T)) next=some z:=fun {ex s' n z} c hz=>by
    simp only[evX,Z8C hnt,Z45,w,jm,hcan,jA,Z9j,hl',jB,hdf,e1];have hn':evC X.E none g F (fun g as=>(evX X.E n false g as .leaf 0).bind fun x=>frz x.2.1.get x.1) (evX X.E n false) (evX X.E n true) n 0 F.body (Zo X.T ⟨Yf F.vmask 0 as .leaf,objs,next⟩)=some (ex,Zo X.T s'):=c
    rw[hn'];exact hz
   obtain⟨ex,s',s,t,a⟩:=Ys hX hcs hls ih1 ih2 w F.body [] 0 _ _ r h rfl hw;cases ex with
   | exit i=>cases a
   | busy=>cases a
   | normal =>
    obtain⟨v,j,e⟩:=p a;exact⟨v,s'.objs,s'.next,Evt.succ (s.mono fun n c=>run c j),t,e⟩
   | ret =>
    obtain⟨v,j,e⟩:=p a;exact⟨v,s'.objs,s'.next,Evt.succ (s.mono fun n c=>run c j),t,e⟩
   | pan =>
    simp only at a;obtain⟨d,j,e⟩:=Z0 a;refine⟨Z92 d,s'.objs,s'.next,Evt.succ (s.mono fun n c=>run c ?_),t,e⟩;have hb:(Zo X.T s').base.get F.nt=some (dv X.T d):=by
     show(s'.base.mapv (dv X.T)).get F.nt=_;rw[ZD,j];rfl
    simp only[hb,jm];rfl
  ·intro path l as objs next k r h hw
   simp only[xK]at h;split at h
   ·rename_i fid base ps assign body bid pa po hob;obtain⟨F,w,h⟩:=Z0 h;obtain⟨b,hb,h⟩:=Z0 h;have hwl:=hw l;rw[hob]at hwl;obtain⟨F',f,hF',a0⟩:=hwl;rw[w]at hF';cases hF';have hs0:Code.sub F.body (0::po)=some assign:=by simp only[Code.sub,a0,jm,Code.kid]
    have hs1:Code.sub F.body (1::po)=some body:=by simp only[Code.sub,a0,jm,Code.kid]
    obtain⟨ex,s1,s,t,a⟩:=Ys hX hcs hls ih1 ih2 w assign _ bid _ _ r h hs0 hw;split at a
    ·rename_i fid2 base2 ps2 as2 bo2 bid2 pa2 po2 u;have hw2:WfL X.E (some (.loop fid2 base2 ps2 as2 bo2 bid2 .busy pa2 po2)):=by have:=t l;rw[u]at this;exact this
     obtain⟨ex2,s2,j,e,m⟩:=Ys hX hcs hls ih1 ih2 w body _ bid _ _ r a hs1 (t.set hw2);split at m
     ·rename_i fid3 base3 ps3 as3 bo3 bid3 pa3 po3 y;cases hpz:ZkR ex2 with
      | true =>
       rw[hpz]at m;simp only[jB]at m;obtain⟨d,h7,m⟩:=Z0 m;refine⟨Z92 d,_,_,Evt.succ ((s.and j).mono fun n c=>?_),e,m⟩;simp only[evX,ZD,hob,jq,dvO,w,jm,Z3i,hb];have hn1:evC X.E (some l) fid F (fun g as=>(evX X.E n false g as .leaf 0).bind fun x=>frz x.2.1.get x.1) (evX X.E n false) (evX X.E n true) n bid assign ⟨b.mapv (dv X.T),objs.mapv (dvO X.T),next⟩=some (.normal,Zo X.T s1):=c.1
       rw[hn1];simp only[jm,Zo,ZD,u,jq,dvO];have hn2:evC X.E (some l) fid F (fun g as=>(evX X.E n false g as .leaf 0).bind fun x=>frz x.2.1.get x.1) (evX X.E n false) (evX X.E n true) n bid body ⟨s1.base.mapv (dv X.T),(s1.objs.mapv (dvO X.T)).set l (some (.loop fid2 (base2.mapv (dv X.T)) ps2 as2 bo2 bid2 .busy)),s1.next⟩=some (ex2,Zo X.T s2):=by
        have:=c.2;simp only[Zo,ZR]at this;exact this
       rw[hn2];cases ex2<;>first|(cases hpz;done)|skip
       simp only[jm,Zo,ZD,h7,jq];rfl
      | false =>
      rw[hpz]at m;simp only[jA]at m;cases hbz:ZiN ex2 with
      | true=>rw[hbz]at m;cases m
      | false =>
       rw[hbz]at m;simp only[jA]at m;have hw3:WfL X.E (some (.loop fid3 base3 ps3 as3 bo3 bid3 ex2 pa3 po3)):=by have:=e l;rw[y]at this;exact this
       refine⟨_,_,_,Evt.succ ((s.and j).mono fun n c=>?_),e.set hw3,m⟩;simp only[evX,ZD,hob,jq,dvO,w,jm,Z3i,hb];have hn1:evC X.E (some l) fid F (fun g as=>(evX X.E n false g as .leaf 0).bind fun x=>frz x.2.1.get x.1) (evX X.E n false) (evX X.E n true) n bid assign ⟨b.mapv (dv X.T),objs.mapv (dvO X.T),next⟩=some (.normal,Zo X.T s1):=c.1
       rw[hn1];simp only[jm,Zo,ZD,u,jq,dvO];have hn2:evC X.E (some l) fid F (fun g as=>(evX X.E n false g as .leaf 0).bind fun x=>frz x.2.1.get x.1) (evX X.E n false) (evX X.E n true) n bid body ⟨s1.base.mapv (dv X.T),(s1.objs.mapv (dvO X.T)).set l (some (.loop fid2 (base2.mapv (dv X.T)) ps2 as2 bo2 bid2 .busy)),s1.next⟩=some (ex2,Zo X.T s2):=by
        have:=c.2;simp only[Zo,ZR]at this;exact this
       rw[hn2];simp only[jm,Zo,ZD,y,jq,dvO,ZR];cases ex2<;>first|(cases hbz;done)|(cases hpz;done)|rfl
     ·cases m
    ·cases a
   ·cases h
theorem Zl7 {n g:Nat} {as:List (TV S)} {k:TV S->Option R} {r:R} (h:xK X cs ls n false [] g as .leaf 0 (fun v o _=>(YE o.get v).bind k)=some r) :
  ∃d,Evt (fun n=>evF X.E n g (dvl X.T as)=some (dv X.T d))/\k d=some r:=by
 obtain⟨v,o,nx,e,_,b⟩:=(Zf6 hX hcs hls n).1 _ _ _ _ _ _ _ h (fun i=>by trivial)
 obtain⟨d,f,c⟩:=Z0 b;refine⟨d,e.mono fun n j=>?_,c⟩;unfold evF;have a:evX X.E n false g (dvl X.T as) .leaf 0=some (dv X.T v,o.mapv (dvO X.T),nx):=j;rw[a];simp only[jm,Z6m,Z6N hX.t,f,jq]
end
end Go.Ab
namespace Go.Ab
variable {S:Nat->Type}
inductive LT where
 | int|bool|str|nat
 | lst (t:Ty)
 | arr (t:Ty)
 | st (i:Nat)
 | mp (k e:Ty)
 | en
 deriving DecidableEq
def Zf8 (S:Nat->Type):LT->Type
 | .int=>Int
 | .bool=>Bool
 | .str=>ByteArray
 | .nat=>Nat
 | .lst t=>List (Val S t)
 | .arr t=>Nat->Val S t
 | .st i=>S i
 | .mp k e=>List (Val S k×Val S e)
 | .en=>Nat->Nat
structure Yx (S:Nat->Type) where
 t:LT
 v:Zf8 S t
def Tup (S:Nat->Type):List LT->Type
 | []=>Unit
 | [t]=>Zf8 S t
 | t::t'::ts=>Zf8 S t×Tup S (t'::ts)
def Z2T (S:Nat->Type):List (List LT)->Type
 | []=>Empty
 | [a]=>Tup S a
 | a::b::r=>Tup S a⊕Z2T S (b::r)
def eT:(ts:List LT)->Tup S ts->List (Yx S)
 | [],_=>[]
 | [t],x=>[⟨t,x⟩]
 | t::t'::ts,x=>⟨t,x.1⟩::eT (t'::ts) x.2
def dL (t:LT) (l:Yx S):Option (Zf8 S t):=if h:l.t=t then some (h▸l.v)else none
def dTn {α:Type} (x:α) (l:List (Yx S)):Option α:=match l with
 | []=>some x
 | _=>none
def dT:(ts:List LT)->List (Yx S)->Option (Tup S ts)
 | [],l=>dTn () l
 | [t],l=>match l with
  | []=>none
  | x::r=>(dL t x).bind fun y=>dTn y r
 | t::t'::ts,l=>match l with
  | []=>none
  | x::r=>(dL t x).bind fun y=>(dT (t'::ts) r).bind fun z=>some (y,z)
theorem Zlx {t:LT} {l:Yx S} {x:Zf8 S t} (h:dL t l=some x):l=⟨t,x⟩:=by
 unfold dL at h;split at h
 ·rename_i e;obtain⟨t',v⟩:=l;simp only at e;subst e;cases h;rfl
 ·cases h
theorem ZkO {α:Type} {x y:α} {l:List (Yx S)} (h:dTn x l=some y):l=[]/\x=y:=by
 cases l with
 | nil=>cases h;exact⟨rfl,rfl⟩
 | cons=>cases h
theorem Zhq:∀{ts:List LT} {l:List (Yx S)} {x:Tup S ts},dT ts l=some x->eT ts x=l
 | [],l,x,h=>by
  simp only[dT]at h;rw[(ZkO h).1];rfl
 | [t],l,x,h=>by
  simp only[dT]at h;cases l with
  | nil=>cases h
  | cons y r =>
   obtain⟨z,d,h⟩:=Z0 h;obtain⟨c,e⟩:=ZkO h;subst c e;rw[Zlx d];rfl
 | t::t'::ts,l,x,h=>by
  simp only[dT]at h;cases l with
  | nil=>cases h
  | cons y r =>
   obtain⟨a,d,h⟩:=Z0 h;obtain⟨b,c,h⟩:=Z0 h;cases h;simp only[eT];rw[Zlx d,Zhq c]
def Z2Y:List Nat->List Nat->Bool
 | [],[]=>true
 | a::as,b::bs=>Nat.beq a b&&Z2Y as bs
 | _,_=>false
theorem Z1U:∀{a b:List Nat},Z2Y a b=true->a=b
 | [],[],_=>rfl
 | [],_::_,h=>by simp[Z2Y]at h
 | _::_,[],h=>by simp[Z2Y]at h
 | a::as,b::bs,h=>by
  simp only[Z2Y,jn]at h;rw[je h.1,Z1U h.2]
mutual
def lvV:TV S->List (Yx S)
 | .bool b=>[⟨.bool,b⟩]
 | .int _ n=>[⟨.int,n⟩]
 | .str s=>[⟨.str,s⟩]
 | .ap _ _ i _ _=>[⟨.nat,i⟩]
 | .rptr _ _ i _ _=>[⟨.nat,i⟩]
 | .sl t xs=>[⟨.lst t,xs⟩]
 | .arr t _ a=>[⟨.arr t,a⟩]
 | .stc i x=>[⟨.st i,x⟩]
 | .earr _ _ _ a=>[⟨.en,a⟩]
 | .pub cs=>Zb8 cs
 | .agg cs=>Zb8 cs
 | .tup vs=>Zb8 vs
 | .fn _ a c=>Zb8 a++Zb8 c
 | .iface _ v=>lvV v
 | _=>[]
def Zb8:List (TV S)->List (Yx S)
 | []=>[]
 | c::cs=>lvV c++Zb8 cs
end
def Zl6:Fn->Fn->Bool
 | .func a,.func b=>Nat.beq a b
 | _,_=>false
theorem Zk4 {a b:Fn} (h:Zl6 a b=true):a=b:=by
 unfold Zl6 at h;split at h
 ·rw[je h]
 ·cases h
mutual
def shV:TV S->TV S->Bool
 | .bool _,.bool _=>true
 | .int k _,.int k' _=>decide (k=k')
 | .str _,.str _=>true
 | .nilp,.nilp=>true
 | .ptr i o,.ptr i' o'=>Nat.beq i i'&&Nat.beq o o'
 | .ap i b _ e o,.ap i' b' _ e' o'=>Nat.beq i i'&&Nat.beq b b'&&Nat.beq e e'&&Nat.beq o o'
 | .rptr i v _ e o,.rptr i' v' _ e' o'=>Nat.beq i i'&&Nat.beq v v'&&Nat.beq e e'&&Nat.beq o o'
 | .pub cs,.pub cs'=>ZaM cs cs'
 | .nils,.nils=>true
 | .sl0,.sl0=>true
 | .sl t _,.sl t' _=>decide (t=t')
 | .rs i v,.rs i' v'=>Nat.beq i i'&&Nat.beq v v'
 | .arr t n _,.arr t' n' _=>decide (t=t')&&Nat.beq n n'
 | .stc i _,.stc i' _=>Nat.beq i i'
 | .earr ts p n _,.earr ts' p' n' _=>Z2Y ts ts'&&Nat.beq p p'&&Nat.beq n n'
 | .narr ts n,.narr ts' n'=>Z2Y ts ts'&&Nat.beq n n'
 | .agg cs,.agg cs'=>ZaM cs cs'
 | .tup cs,.tup cs'=>ZaM cs cs'
 | .fn f a c,.fn f' a' c'=>Zl6 f f'&&ZaM a a'&&ZaM c c'
 | .nilfn,.nilfn=>true
 | .map i,.map i'=>Nat.beq i i'
 | .nilmap,.nilmap=>true
 | .iface t v,.iface t' v'=>Nat.beq t t'&&shV v v'
 | .nilif,.nilif=>true
 | .iter i,.iter i'=>Nat.beq i i'
 | .yld i,.yld i'=>Nat.beq i i'
 | .nop i,.nop i'=>Nat.beq i i'
 | _,_=>false
def ZaM:List (TV S)->List (TV S)->Bool
 | [],[]=>true
 | c::cs,c'::cs'=>shV c c'&&ZaM cs cs'
 | _,_=>false
end
def tk1 (t:LT) (l:List (Yx S)):Option (Zf8 S t×List (Yx S)):=match l with
 | []=>none
 | x::r=>(dL t x).bind fun v=>some (v,r)
mutual
def fiV:TV S->List (Yx S)->Option (TV S×List (Yx S))
 | .bool _,l=>(tk1 .bool l).bind fun p=>some (.bool p.1,p.2)
 | .int k _,l=>(tk1 .int l).bind fun p=>some (.int k p.1,p.2)
 | .str _,l=>(tk1 .str l).bind fun p=>some (.str p.1,p.2)
 | .ap i b _ e o,l=>(tk1 .nat l).bind fun p=>some (.ap i b p.1 e o,p.2)
 | .rptr i v _ e o,l=>(tk1 .nat l).bind fun p=>some (.rptr i v p.1 e o,p.2)
 | .sl t _,l=>(tk1 (.lst t) l).bind fun p=>some (.sl t p.1,p.2)
 | .arr t n _,l=>(tk1 (.arr t) l).bind fun p=>some (.arr t n p.1,p.2)
 | .stc i _,l=>(tk1 (.st i) l).bind fun p=>some (.stc i p.1,p.2)
 | .earr ts q n _,l=>(tk1 .en l).bind fun p=>some (.earr ts q n p.1,p.2)
 | .pub cs,l=>(Zb5 cs l).bind fun p=>some (.pub p.1,p.2)
 | .agg cs,l=>(Zb5 cs l).bind fun p=>some (.agg p.1,p.2)
 | .tup cs,l=>(Zb5 cs l).bind fun p=>some (.tup p.1,p.2)
 | .fn f a c,l=>(Zb5 a l).bind fun p=>(Zb5 c p.2).bind fun q=>some (.fn f p.1 q.1,q.2)
 | .iface t v,l=>(fiV v l).bind fun p=>some (.iface t p.1,p.2)
 | v,l=>some (v,l)
def Zb5:List (TV S)->List (Yx S)->Option (List (TV S)×List (Yx S))
 | [],l=>some ([],l)
 | c::cs,l=>(fiV c l).bind fun p=>(Zb5 cs p.2).bind fun q=>some (p.1::q.1,q.2)
end
theorem Z28 (t:LT) (x:Zf8 S t) (r:List (Yx S)):tk1 t (⟨t,x⟩::r)=some (x,r):=by
 simp[tk1,dL]
theorem Z3U (b:Bool) (r:List (Yx S)):tk1 .bool (⟨.bool,b⟩::r)=some (b,r):=Z28 .bool b r
theorem Z57 (b:Int) (r:List (Yx S)):tk1 .int (⟨.int,b⟩::r)=some (b,r):=Z28 .int b r
theorem Z2y (b:ByteArray) (r:List (Yx S)):tk1 .str (⟨.str,b⟩::r)=some (b,r):=Z28 .str b r
theorem Z2x (b:Nat) (r:List (Yx S)):tk1 .nat (⟨.nat,b⟩::r)=some (b,r):=Z28 .nat b r
theorem Z2w (t:Ty) (b:List (Val S t)) (r:List (Yx S)):tk1 (.lst t) (⟨.lst t,b⟩::r)=some (b,r):=Z28 (.lst t) b r
theorem Z56 (t:Ty) (b:Nat->Val S t) (r:List (Yx S)):tk1 (.arr t) (⟨.arr t,b⟩::r)=some (b,r):=Z28 (.arr t) b r
theorem Zlp (i:Nat) (b:S i) (r:List (Yx S)):tk1 (.st i) (⟨.st i,b⟩::r)=some (b,r):=Z28 (.st i) b r
theorem Zlo (b:Nat->Nat) (r:List (Yx S)):tk1 .en (⟨.en,b⟩::r)=some (b,r):=Z28 .en b r
theorem Zgk (k e:Ty) (b:List (Val S k×Val S e)) (r:List (Yx S)):tk1 (.mp k e) (⟨.mp k e,b⟩::r)=some (b,r):=Z28 (.mp k e) b r
mutual
theorem ZgC:∀{p v:TV S} (r:List (Yx S)),shV p v=true->fiV p (lvV v++r)=some (v,r)
 | .bool _,v,r,h=>by cases v<;>simp only[shV,jg]at h;(simp[lvV,fiV,Z3U,Z57,Z2y,Z2x,Z2w,Z56];first|done|rfl)
 | .int k _,v,r,h=>by cases v<;>simp only[shV,jg,jk]at h;subst h;(simp[lvV,fiV,Z3U,Z57,Z2y,Z2x,Z2w,Z56];first|done|rfl)
 | .str _,v,r,h=>by cases v<;>simp only[shV,jg]at h;(simp[lvV,fiV,Z3U,Z57,Z2y,Z2x,Z2w,Z56];first|done|rfl)
 | .nilp,v,r,h=>by cases v<;>simp only[shV,jg]at h;simp[lvV,fiV]
 | .ptr i o,v,r,h=>by
  cases v<;>simp only[shV,jg,jn]at h;rw[je h.1,je h.2];simp[lvV,fiV]
 | .ap i b _ e o,v,r,h=>by
  cases v<;>simp only[shV,jg,jn]at h;rw[je h.1.1.1,je h.1.1.2,je h.1.2,je h.2];(simp[lvV,fiV,Z3U,Z57,Z2y,Z2x,Z2w,Z56];first|done|rfl)
 | .rptr i w _ e o,v,r,h=>by
  cases v<;>simp only[shV,jg,jn]at h;rw[je h.1.1.1,je h.1.1.2,je h.1.2,je h.2];(simp[lvV,fiV,Z3U,Z57,Z2y,Z2x,Z2w,Z56];first|done|rfl)
 | .pub cs,v,r,h=>by
  cases v<;>simp only[shV,jg]at h;simp only[lvV,fiV,Z6L r h,jm]
 | .nils,v,r,h=>by cases v<;>simp only[shV,jg]at h;simp[lvV,fiV]
 | .sl0,v,r,h=>by cases v<;>simp only[shV,jg]at h;simp[lvV,fiV]
 | .sl t _,v,r,h=>by cases v<;>simp only[shV,jg,jk]at h;subst h;(simp[lvV,fiV,Z3U,Z57,Z2y,Z2x,Z2w,Z56];first|done|rfl)
 | .rs i w,v,r,h=>by
  cases v<;>simp only[shV,jg,jn]at h;rw[je h.1,je h.2];simp[lvV,fiV]
 | .arr t n _,v,r,h=>by
  cases v<;>simp only[shV,jg,jn,jk]at h;obtain⟨d,g⟩:=h;subst d;rw[je g];(simp[lvV,fiV,Z3U,Z57,Z2y,Z2x,Z2w,Z56];first|done|rfl)
 | .stc i _,v,r,h=>by
  cases v<;>simp only[shV,jg]at h;have:=je h;subst this;simp only[lvV,fiV,List.cons_append,List.nil_append,Zlp];rfl
 | .earr ts p n _,v,r,h=>by
  cases v<;>simp only[shV,jg,jn]at h;rw[Z1U h.1.1,je h.1.2,je h.2];simp only[lvV,fiV,List.cons_append,List.nil_append,Zlo];rfl
 | .narr ts n,v,r,h=>by
  cases v<;>simp only[shV,jg,jn]at h;rw[Z1U h.1,je h.2];simp[lvV,fiV]
 | .agg cs,v,r,h=>by
  cases v<;>simp only[shV,jg]at h;simp only[lvV,fiV,Z6L r h,jm]
 | .tup cs,v,r,h=>by
  cases v<;>simp only[shV,jg]at h;simp only[lvV,fiV,Z6L r h,jm]
 | .fn f a c,v,r,h=>by
  cases v<;>simp only[shV,jg,jn]at h;obtain⟨⟨d,g⟩,j⟩:=h;simp only[lvV,fiV,jj,Z6L _ g,jm,Z6L r j,Zk4 d]
 | .nilfn,v,r,h=>by cases v<;>simp only[shV,jg]at h;simp[lvV,fiV]
 | .map i,v,r,h=>by
  cases v<;>simp only[shV,jg]at h;rw[je h];simp[lvV,fiV]
 | .nilmap,v,r,h=>by cases v<;>simp only[shV,jg]at h;simp[lvV,fiV]
 | .iface t w,v,r,h=>by
  cases v<;>simp only[shV,jg,jn]at h;simp only[lvV,fiV,ZgC r h.2,jm,je h.1]
 | .nilif,v,r,h=>by cases v<;>simp only[shV,jg]at h;simp[lvV,fiV]
 | .iter i,v,r,h=>by
  cases v<;>simp only[shV,jg]at h;rw[je h];simp[lvV,fiV]
 | .yld i,v,r,h=>by
  cases v<;>simp only[shV,jg]at h;rw[je h];simp[lvV,fiV]
 | .nop i,v,r,h=>by
  cases v<;>simp only[shV,jg]at h;rw[je h];simp[lvV,fiV]
theorem Z6L:∀{p v:List (TV S)} (r:List (Yx S)),ZaM p v=true->Zb5 p (Zb8 v++r)=some (v,r)
 | [],[],r,_=>by simp[Zb8,Zb5]
 | [],_::_,_,h=>by simp[ZaM]at h
 | _::_,[],_,h=>by simp[ZaM]at h
 | p::ps,v::vs,r,h=>by
  simp only[ZaM,jn]at h;simp only[Zb8,Zb5,jj,ZgC _ h.1,jm,Z6L r h.2]
end
def Zcv {α:Type} (f:α->List (Yx S)):Tr α->List (Yx S)
 | .leaf=>[]
 | .node l v r=>Zcv f l++((match v with|some x=>f x|none=>[])++Zcv f r)
def Z8v {α:Type} (f:α->α->Bool):Tr α->Tr α->Bool
 | .leaf,.leaf=>true
 | .node l v r,.node l' v' r'=>Z8v f l l'&&(match v,v' with|some x,some x'=>f x x'|none,none=>true|_,_=>false)&&Z8v f r r'
 | _,_=>false
def Zco {α:Type} (f:α->List (Yx S)->Option (α×List (Yx S))):Tr α->List (Yx S)->Option (Tr α×List (Yx S))
 | .leaf,l=>some (.leaf,l)
 | .node a v b,l=>(Zco f a l).bind fun p=>((match v with|some x=>(f x p.2).bind fun q=>some (some q.1,q.2)|none=>some (none,p.2)):Option (Option α×List (Yx S))).bind fun q=>(Zco f b q.2).bind fun r=>some (.node p.1 q.1 r.1,r.2)
theorem Z7h {α:Type} {lv:α->List (Yx S)} {sh:α->α->Bool} {fi:α->List (Yx S)->Option (α×List (Yx S))} (c:∀p v r,sh p v=true->fi p (lv v++r)=some (v,r)) :
  ∀{p v:Tr α} (r:List (Yx S)),Z8v sh p v=true->Zco fi p (Zcv lv v++r)=some (v,r)
 | .leaf,.leaf,r,_=>rfl
 | .leaf,.node ..,_,h=>by simp[Z8v]at h
 | .node ..,.leaf,_,h=>by simp[Z8v]at h
 | .node a x b,.node a' x' b',r,h=>by
  simp only[Z8v,jn]at h;obtain⟨⟨f,d⟩,e⟩:=h;simp only[Zcv,Zco,jj,Z7h c _ f,jm];cases x<;>cases x'<;>simp only[jg]at d
  ·simp only[List.nil_append,jm,Z7h c r e]
  ·simp only[c _ _ _ d,jm,Z7h c r e]
def Zhy:Ex->Ex->Bool
 | .normal,.normal=>true
 | .exit i,.exit j=>Nat.beq i j
 | .ret,.ret=>true
 | .busy,.busy=>true
 | .pan,.pan=>true
 | _,_=>false
theorem Zcl {a b:Ex} (h:Zhy a b=true):a=b:=by
 cases a<;>cases b<;>simp only[Zhy,jg]at h<;>first|rfl|rw[je h]
def lvO:Zi S->List (Yx S)
 | .cells _ cs=>Zb8 cs
 | .row _ t xs _ _=>[⟨.lst t,xs⟩]
 | .map k e m=>[⟨.mp k e,m⟩]
 | .siter s p=>[⟨.str,s⟩,⟨.nat,p⟩]
 | .mit _ _ | .bag _ _ _ _=>[]
 | .loop _ b _ _ _ _ _ _ _=>Zcv lvV b
def shO:Zi S->Zi S->Bool
 | .cells t cs,.cells t' cs'=>Nat.beq t t'&&ZaM cs cs'
 | .row e t _ p v,.row e' t' _ p' v'=>Nat.beq e e'&&decide (t=t')&&Nat.beq v v'&&Nat.beq p p'
 | .map k e _,.map k' e' _=>decide (k=k')&&decide (e=e')
 | .siter _ _,.siter _ _=>true
 | .loop f b ps _ _ bid ex pa po,.loop f' b' ps' _ _ bid' ex' pa' po'=>Nat.beq f f'&&Z8v shV b b'&&Z2Y ps ps'&&Nat.beq bid bid'&&Zhy ex ex'&&Z2Y pa pa'&&Z2Y po po'
 | _,_=>false
def ZlA (E:Env) (f:Nat) (po:List Nat):Option (Code×Code):=(E.fn f).bind fun F=>match Code.sub F.body po with
 | some (.rangeFunc _ _ a b)=>some (a,b)
 | _=>none
def fiO (E:Env):Zi S->List (Yx S)->Option (Zi S×List (Yx S))
 | .cells t cs,l=>(Zb5 cs l).bind fun p=>some (.cells t p.1,p.2)
 | .row e t _ n v,l=>(tk1 (.lst t) l).bind fun p=>some (.row e t p.1 n v,p.2)
 | .map k e _,l=>(tk1 (.mp k e) l).bind fun p=>some (.map k e p.1,p.2)
 | .siter _ _,l=>(tk1 .str l).bind fun p=>(tk1 .nat p.2).bind fun q=>some (.siter p.1 q.1,q.2)
 | .mit _ _,_ | .bag _ _ _ _,_=>none
 | .loop f b ps _ _ bid ex pa po,l=>(Zco fiV b l).bind fun p=>(ZlA E f po).bind fun c=>some (.loop f p.1 ps c.1 c.2 bid ex pa po,p.2)
theorem Zl5 (E:Env) {p v:Zi S} (c:WfL E (some v)) (r:List (Yx S)) (h:shO p v=true):fiO E p (lvO v++r)=some (v,r):=by
 cases p<;>cases v<;>simp only[shO,jg,jn]at h
 ·rw[je h.1];simp only[lvO,fiO,Z6L r h.2,jm]
 ·have a:=of_decide_eq_true h.1.1.2;subst a;rw[je h.1.1.1,je h.1.2,je h.2]
  (simp[lvO,fiO,Z2y,Z2x,Z2w,Zgk];first|done|rfl)
 ·have a:=of_decide_eq_true h.1;have b:=of_decide_eq_true h.2;subst a b
  (simp[lvO,fiO,Z2y,Z2x,Z2w,Zgk];first|done|rfl)
 ·(simp[lvO,fiO,Z2y,Z2x,Z2w,Zgk];first|done|rfl)
 ·obtain⟨⟨⟨⟨⟨⟨a,b⟩,j⟩,e⟩,i⟩,d⟩,g⟩:=h;obtain⟨F,f,l,k⟩:=c;rw[je a,Z1U j,je e,Zcl i,Z1U d,Z1U g];simp only[lvO,fiO,Z7h (fun p v r h=>ZgC r h) r b,jm,ZlA,l,k]
def ZfE (s:StT S):List (Yx S):=Zcv lvV s.base++Zcv lvO s.objs
def Zd7 (p s:StT S):Bool:=Z8v shV p.base s.base&&Z8v shO p.objs s.objs&&Nat.beq p.next s.next
def Z9V (E:Env) (p:StT S) (l:List (Yx S)):Option (StT S):=(Zco fiV p.base l).bind fun b=>(Zco (fiO E) p.objs b.2).bind fun o=>match o.2 with
 | []=>some ⟨b.1,o.1,p.next⟩
 | _=>none
def Zgo {α:Type} (q:α->Prop):Tr α->Prop
 | .leaf=>True
 | .node l v r=>Zgo q l/\(∀x,v=some x->q x)/\Zgo q r
theorem Z9C {α:Type} {q:α->Prop}:∀{t:Tr α},(∀i x,t.get i=some x->q x)->Zgo q t
 | .leaf,_=>trivial
 | .node l v r,h=>by
  refine⟨Z9C fun i x a=>h (2*i+1) x ?_,fun x a=>h 0 x ?_,Z9C fun i x a=>h (2*i+2) x ?_⟩
  ·rw[Tr.get_node,if_neg (by omega),if_pos (by omega),show(2*i+1) / 2=i by omega];exact a
  ·rw[Tr.get_node,if_pos rfl];exact a
  ·rw[Tr.get_node,if_neg (by omega),if_neg (by omega),show(2*i+2) / 2-1=i by omega];exact a
theorem Z7i {α:Type} {q:α->Prop} {lv:α->List (Yx S)} {sh:α->α->Bool} {fi:α->List (Yx S)->Option (α×List (Yx S))} (c:∀p v r,q v->sh p v=true->fi p (lv v++r)=some (v,r)) :
  ∀{p v:Tr α} (r:List (Yx S)),Zgo q v->Z8v sh p v=true->Zco fi p (Zcv lv v++r)=some (v,r)
 | .leaf,.leaf,r,_,_=>rfl
 | .leaf,.node ..,_,_,h=>by simp[Z8v]at h
 | .node ..,.leaf,_,_,h=>by simp[Z8v]at h
 | .node a x b,.node a' x' b',r,hq,h=>by
  simp only[Z8v,jn]at h;obtain⟨⟨f,d⟩,e⟩:=h;obtain⟨q1,q2,q3⟩:=hq;simp only[Zcv,Zco,jj,Z7i c _ q1 f,jm];cases x<;>cases x'<;>simp only[jg]at d
  ·simp only[List.nil_append,jm,Z7i c r q3 e]
  ·simp only[c _ _ _ (q2 _ rfl) d,jm,Z7i c r q3 e]
theorem Z7g (E:Env) {p s:StT S} (a:WfO E s.objs) (h:Zd7 p s=true):Z9V E p (ZfE s)=some s:=by
 unfold Zd7 at h;simp only[jn]at h;obtain⟨⟨d,c⟩,e⟩:=h;unfold Z9V ZfE;rw[Z7h (fun p v r h=>ZgC r h) _ d];simp only[jm];have:=Z7i (q:=fun x=>WfL E (some x)) (fun p v r b h=>Zl5 E b r h) [] (Z9C fun i x f=>by have:=a i;rw[f]at this;exact this) c
 rw[jo]at this;rw[this];simp only[jm,je e]
end Go.Ab
namespace Go.Ab
variable {S:Nat->Type} {R:Type}
def Z5e (S:Nat->Type):List Ty->Type
 | []=>Unit
 | t::ts=>Val S t×Z5e S ts
def Z5g (S:Nat->Type):List Ty->Type
 | []=>Unit
 | [t]=>Val S t
 | t::t'::ts=>Val S t×Z5g S (t'::ts)
def Zdo (T:TS S):(ts:List Ty)->Z5e S ts->List (TV S)
 | [],_=>[]
 | t::ts,x=>Z8F T t x.1::Zdo T ts x.2
def Z2W (T:TS S):(ts:List Ty)->Z5e S ts->List DV
 | [],_=>[]
 | t::ts,x=>Yt T t x.1::Z2W T ts x.2
def Zdh (T:TS S):(ts:List Ty)->List (TV S)->Option (Z5e S ts)
 | [],l=>dTn' () l
 | t::ts,l=>match l with
  | []=>none
  | v::r=>(Z6y T t v).bind fun x=>(Zdh T ts r).bind fun y=>some (x,y)
 where
 dTn' {α:Type} (x:α) (l:List (TV S)):Option α:=match l with
  | []=>some x
  | _=>none
def ZbQ (T:TS S):(ts:List Ty)->Z5g S ts->List (TV S)
 | [],_=>[]
 | [t],x=>[Z8F T t x]
 | t::t'::ts,x=>Z8F T t x.1::ZbQ T (t'::ts) x.2
def Z3y (T:TS S):(ts:List Ty)->Z5g S ts->List DV
 | [],_=>[]
 | [t],x=>[Yt T t x]
 | t::t'::ts,x=>Yt T t x.1::Z3y T (t'::ts) x.2
def Zb9 (T:TS S):(ts:List Ty)->List (TV S)->Option (Z5g S ts)
 | [],l=>Zdh.dTn' () l
 | [t],l=>match l with
  | []=>none
  | v::r=>(Z6y T t v).bind fun x=>Zdh.dTn' x r
 | t::t'::ts,l=>match l with
  | []=>none
  | v::r=>(Z6y T t v).bind fun x=>(Zb9 T (t'::ts) r).bind fun y=>some (x,y)
def Zdc (n:Nat) (v:TV S):Option (List (TV S)):=bif Nat.beq n 1 then some [v]else match v with
 | .tup vs=>some vs
 | _=>none
section
variable {T:TS S} (hT:TOk T)
include hT
theorem Zdp:∀(ts:List Ty) (x:Z5e S ts),dvl T (Zdo T ts x)=Z2W T ts x
 | [],_=>by simp[Zdo,Z2W,dvl]
 | t::ts,x=>by simp only[Zdo,Z2W,dvl,Z1Y hT,Zdp ts]
theorem ZeH:∀(ts:List Ty) (x:Z5g S ts),dvl T (ZbQ T ts x)=Z3y T ts x
 | [],_=>by simp[ZbQ,Z3y,dvl]
 | [t],x=>by simp only[ZbQ,Z3y,dvl];exact congrArg (fun z=>[z]) (Z1Y hT t x)
 | t::t'::ts,x=>by simp only[ZbQ,Z3y,dvl,Z1Y hT,ZeH (t'::ts)]
omit hT in
theorem Z9L {α:Type} {x y:α} {l:List (TV S)} (h:Zdh.dTn' x l=some y):l=[]/\x=y:=by
 cases l with
 | nil=>cases h;exact⟨rfl,rfl⟩
 | cons=>cases h
theorem Zgs:∀{ts:List Ty} {l:List (TV S)} {x:Z5e S ts},Zdh T ts l=some x->dvl T l=Z2W T ts x
 | [],l,x,h=>by
  simp only[Zdh]at h;rw[(Z9L h).1];simp[Z2W,dvl]
 | t::ts,l,x,h=>by
  simp only[Zdh]at h;cases l with
  | nil=>cases h
  | cons v r =>
   obtain⟨y,a,h⟩:=Z0 h;obtain⟨z,b,h⟩:=Z0 h;cases h;simp only[dvl,Z2W,Z3T hT a,Zgs b]
theorem ZgZ:∀{ts:List Ty} {l:List (TV S)} {x:Z5g S ts},Zb9 T ts l=some x->dvl T l=Z3y T ts x
 | [],l,x,h=>by
  simp only[Zb9]at h;rw[(Z9L h).1];simp[Z3y,dvl]
 | [t],l,x,h=>by
  simp only[Zb9]at h;cases l with
  | nil=>cases h
  | cons v r =>
   obtain⟨y,b,h⟩:=Z0 h;obtain⟨a,c⟩:=Z9L h;subst a c;simp only[dvl,Z3y,Z3T hT b]
 | t::t'::ts,l,x,h=>by
  simp only[Zb9]at h;cases l with
  | nil=>cases h
  | cons v r =>
   obtain⟨y,b,h⟩:=Z0 h;obtain⟨z,a,h⟩:=Z0 h;cases h;simp only[dvl,Z3y,Z3T hT b,ZgZ a]
end
structure F7 (S:Nat->Type) where
 pts:List Ty
 rts:List Ty
 F:Z5e S pts->Option (Z5g S rts)
def Z6c (X:Y2 S) (g:Nat) (fs:F7 S):Prop:=∀xs r,fs.F xs=some r->Evt fun n=>evF X.E n g (Z2W X.T fs.pts xs)=some (Z3d (Z3y X.T fs.rts r))
def Zcp:List (Nat×F7 S)->Nat->Option (F7 S)
 | [],_=>none
 | (n,f)::l,g=>bif Nat.beq n g then some f else Zcp l g
abbrev Prs (S:Nat->Type) (R:Type):=Nat->List (TV S)->Tr (Zi S)->Nat->(TV S->Tr (Zi S)->Nat->Option R)->Option R
def Z8J (X:Y2 S) (ps:Prs S R):Prop:=∀g as s n0 k r,ps g as s n0 k=some r->WfO X.E s->∃v os n',
  Evt (fun n=>(Zjg X.E n g (dvl X.T as) (s.mapv (dvO X.T)) n0).bind (Z8S n0)=some (dv X.T v,os.mapv (dvO X.T),n'))/\WfO X.E os/\k v os n'=some r
def ZlF:Prs S R:=fun _ _ _ _ _=>none
theorem ZlG (X:Y2 S):Z8J X (ZlF (R:=R)):=fun _ _ _ _ _ _ h=>by cases h
def Z7Q (T:TS S) (tab:List (Nat×F7 S)) (ps:Prs S R):Z3v S R:=⟨fun g as k=>(Zcp tab g).bind fun fs=>(Zdh T fs.pts as).bind fun xs=>(fs.F xs).bind fun r=>k (Z1t (ZbQ T fs.rts r)),ps⟩
def Z9z (X:Y2 S):List (Nat×F7 S)->Prop
 | []=>True
 | (n,f)::l=>Z6c X n f/\Z9z X l
theorem ZaR {X:Y2 S}:∀{l:List (Nat×F7 S)} {g:Nat} {f:F7 S},Z9z X l->Zcp l g=some f->Z6c X g f
 | [],_,_,_,h=>by cases h
 | (n,f')::l,g,f,ht,h=>by
  simp only[Zcp]at h;cases hb:Nat.beq n g with
  | true=>rw[hb]at h;cases h;rw[<-je hb];exact ht.1
  | false=>rw[hb]at h;exact ZaR ht.2 h
section
variable {X:Y2 S} (hX:XOk X)
include hX
theorem Z3S {tab:List (Nat×F7 S)} (ht:Z9z X tab) {ps:Prs S R} (a:Z8J X ps):Z9k (R:=R) X (Z7Q X.T tab ps):=⟨fun g as k r h=>by
 simp only[Z7Q]at h;obtain⟨fs,c,h⟩:=Z0 h;obtain⟨xs,b,h⟩:=Z0 h;obtain⟨q,d,h⟩:=Z0 h;refine⟨_,(ZaR ht c xs q d).mono fun n e=>?_,h⟩;rw[Zgs hX.t b,e,<-ZeH hX.t,ZcI],a⟩
end
noncomputable def ZlT (X:Y2 S) (tab:List (Nat×F7 S)) (pts rts:List Ty) (ps:Prs S (Z5g S rts)) (ls:Z1J S (Z5g S rts)) (n g:Nat) (xs:Z5e S pts):Option (Z5g S rts) :=
 xK X (Z7Q X.T tab ps) ls n false [] g (Zdo X.T pts xs) .leaf 0 fun v o _=>(YE o.get v).bind fun v=>(Zdc rts.length v).bind fun l=>Zb9 X.T rts l
theorem Zi6 {T:TS S} {n:Nat} {v:TV S} {l:List (TV S)} (h:Zdc n v=some l) (c:l.length=n):dv T v=Z3d (dvl T l):=by
 unfold Zdc at h;cases hb:Nat.beq n 1 with
 | true=>rw[hb]at h;cases h;simp[dvl,Z3d]
 | false =>
  rw[hb]at h;simp only[jA]at h;split at h
  ·cases h;have:¬l.length=1:=fun e=>by rw[<-c,e]at hb;cases hb
   cases l with
   | nil=>simp[dv,dvl,Z3d]
   | cons a vs =>
    cases vs with
    | nil=>simp at this
    | cons b vs=>simp[dv,dvl,Z3d]
  ·cases h
theorem Zeq {T:TS S}:∀{ts:List Ty} {l:List (TV S)} {x:Z5g S ts},Zb9 T ts l=some x->l.length=ts.length
 | [],l,x,h=>by simp only[Zb9]at h;rw[(Z9L h).1];rfl
 | [t],l,x,h=>by
  simp only[Zb9]at h;cases l with
  | nil=>cases h
  | cons v r =>
   obtain⟨y,b,h⟩:=Z0 h;rw[(Z9L h).1];rfl
 | t::t'::ts,l,x,h=>by
  simp only[Zb9]at h;cases l with
  | nil=>cases h
  | cons v r =>
   obtain⟨y,b,h⟩:=Z0 h;obtain⟨z,a,h⟩:=Z0 h;simp[Zeq a]
theorem ZlO {X:Y2 S} (hX:XOk X) {tab:List (Nat×F7 S)} (ht:Z9z X tab) {pts rts:List Ty} {ps:Prs S (Z5g S rts)} (a:Z8J X ps) {ls:Z1J S (Z5g S rts)} (hls:Z2o X ls) (n g:Nat):Z6c X g ⟨pts,rts,ZlT X tab pts rts ps ls n g⟩:=fun xs r h=>by
 obtain⟨d,i,e⟩:=Zl7 hX (Z3S hX ht a) hls h;obtain⟨l,f,c⟩:=Z0 e;refine i.mono fun m b=>?_;rw[Zdp hX.t]at b;rw[b,Zi6 f (Zeq c),ZgZ hX.t c]
theorem ZlP {X:Y2 S} {g:Nat} {pts rts:List Ty} {F F':Z5e S pts->Option (Z5g S rts)} (h:Z6c X g ⟨pts,rts,F⟩) (e:∀xs r,F' xs=some r->F xs=some r):Z6c X g ⟨pts,rts,F'⟩:=fun xs r hr=>h xs r (e xs r hr)
def Zby {α β:Type} (t:(α->Option β)->α->Option β):Nat->α->Option β
 | 0,_=>none
 | n+1,x=>t (Zby t n) x
open Classical in
noncomputable def Zer {α β:Type} (t:(α->Option β)->α->Option β) (x:α):Option β:=if h:∃n r,Zby t n x=some r then some h.choose_spec.choose else none
theorem Zg0 {α β:Type} {t:(α->Option β)->α->Option β} {x:α} {r:β} (h:Zer t x=some r):∃n,Zby t n x=some r:=by
 unfold Zer at h;split at h
 ·rename_i a;cases h;exact⟨_,a.choose_spec.choose_spec⟩
 ·cases h
theorem ZlM {α β:Type} {t:(α->Option β)->α->Option β} {x:α} {y:β} (b:∀n r,Zby t n x=some r->r=y) (a:∃n r,Zby t n x=some r):Zer t x=some y:=by
 unfold Zer;rw[dif_pos a,b _ _ a.choose_spec.choose_spec]
theorem Zmv {X:Y2 S} {g:Nat} {pts rts:List Ty} {t:(Z5e S pts->Option (Z5g S rts))->Z5e S pts->Option (Z5g S rts)} (h:∀ih,Z6c X g ⟨pts,rts,ih⟩->Z6c X g ⟨pts,rts,t ih⟩):Z6c X g ⟨pts,rts,Zer t⟩:=fun xs r hr=>by
 obtain⟨n,a⟩:=Zg0 hr;have:∀n,Z6c X g ⟨pts,rts,Zby t n⟩:=fun n=>by
  induction n with
  | zero=>intro xs r h;cases h
  | succ n ih=>exact h _ ih
 exact this n xs r a
def Zgx (T:TS S) (ti:Option TI) (c:Ty):Bool:=match ti with
 | some ti=>Nat.beq ti.size (tsz T c)&&(ti.isAgg==YZ c)
 | none=>true
theorem Ziy {T:TS S} {o:Option TI} {ti:TI} {c:Ty} (h:Zgx T o c=true) (a:o=some ti):ti.size=tsz T c/\ti.isAgg=YZ c:=by
 subst a;simp only[Zgx,jn]at h;exact⟨je h.1,eq_of_beq h.2⟩
def zEq:DV->DV->Bool
 | .bool a,.bool b=>a==b
 | .int k a,.int k' b=>k==k'&&a==b
 | .str a,.str b=>a.toList==b.toList
 | .nilp,.nilp | .nils,.nils | .nilfn,.nilfn | .nilmap,.nilmap | .nilif,.nilif=>true
 | _,_=>false
def Zib:List DV->List DV->Bool
 | [],[]=>true
 | a::as,b::bs=>zEq a b&&Zib as bs
 | _,_=>false
theorem Zls {a b:DV} (h:zEq a b=true):a=b:=by
 unfold zEq at h;split at h<;>first|rfl|(cases h;done)|skip
 ·rw[eq_of_beq h]
 ·simp only[jn]at h;rw[eq_of_beq h.1,eq_of_beq h.2]
 ·have c:=eq_of_beq h;rename_i x y;have e:∀z:ByteArray,z=⟨z.toList.toArray⟩:=fun z=>by
   cases z;simp[ByteArray.toList_eq]
  rw[e x,c,<-e y]
theorem Zhj:∀{a b:List DV},Zib a b=true->a=b
 | [],[],_=>rfl
 | [],_::_,h=>by simp[Zib]at h
 | _::_,[],h=>by simp[Zib]at h
 | a::as,b::bs,h=>by
  simp only[Zib,jn]at h;rw[Zls h.1,Zhj h.2]
def ZjG (T:TS S) (ti:Option TI) (z:List (TV S)):Bool:=match ti with
 | some ti=>Zib (dvs T z) ti.zero
 | none=>true
theorem ZjH {T:TS S} {o:Option TI} {ti:TI} {z:List (TV S)} (h:ZjG T o z=true) (a:o=some ti):dvs T z=ti.zero:=by
 subst a;exact Zhj h
inductive Z6C {σ ω:Type} (step:σ->Option (σ⊕ω)):σ->ω->Prop
 | done {x:σ} {o:ω}:step x=some (.inr o)->Z6C step x o
 | next {x y:σ} {o:ω}:step x=some (.inl y)->Z6C step y o->Z6C step x o
theorem Z6C.det {σ ω:Type} {step:σ->Option (σ⊕ω)} {x:σ} {o o':ω} (h:Z6C step x o):Z6C step x o'->o=o':=by
 induction h with
 | done h=>intro h';cases h' with
  | done h'=>rw[h]at h';cases h';rfl
  | next h' _=>rw[h]at h';cases h'
 | next h _ ih=>intro h';cases h' with
  | done h'=>rw[h]at h';cases h'
  | next h' h''=>rw[h]at h';cases h';exact ih h''
open Classical in
noncomputable def Z9a {σ ω:Type} (step:σ->Option (σ⊕ω)) (x:σ):Option ω:=if h:∃o,Z6C step x o then some h.choose else none
theorem Z1H {σ ω:Type} {step:σ->Option (σ⊕ω)} {x:σ} {o:ω}:Z9a step x=some o↔Z6C step x o:=by
 unfold Z9a;constructor
 ·intro h;split at h
  ·rename_i a;cases h;exact a.choose_spec
  ·cases h
 ·intro h;have a:∃o,Z6C step x o:=⟨o,h⟩;rw[dif_pos a,a.choose_spec.det h]
theorem Zlk {σ ω:Type} (step:σ->Option (σ⊕ω)) (x:σ):Z9a step x=(step x).bind fun | .inl y=>Z9a step y | .inr o=>some o:=by
 cases hs:step x with
 | none =>
  simp only[Option.bind_none];cases hr:Z9a step x with
  | none=>rfl
  | some o =>
   cases Z1H.1 hr with
   | done h=>rw[hs]at h;cases h
   | next h _=>rw[hs]at h;cases h
 | some z =>
  cases z with
  | inr o=>simp only[jm];exact Z1H.2 (.done hs)
  | inl y =>
   simp only[jm];cases hr:Z9a step y with
   | some o=>exact Z1H.2 (.next hs (Z1H.1 hr))
   | none =>
    cases hr':Z9a step x with
    | none=>rfl
    | some o =>
     cases Z1H.1 hr' with
     | done h=>rw[hs]at h;cases h
     | next h h' =>
      rw[hs]at h;cases h;rw[Z1H.2 h']at hr;cases hr
structure Way (S:Nat->Type) where
 ex:Ex
 st:StT S
 ts:List LT
structure LE (S:Nat->Type) where
 key:Key
 head:StT S
 ts:List LT
 outs:List (Way S)
def Zkc (a b:Key):Bool:=Z2Y a.path b.path&&Nat.beq a.fid b.fid&&(match a.rnd,b.rnd with|none,none=>true|some x,some y=>Nat.beq x y|_,_=>false)&&Z2Y a.pos b.pos&&Nat.beq a.bid b.bid&&Nat.beq a.n0 b.n0
theorem Zkd {a b:Key} (h:Zkc a b=true):a=b:=by
 obtain⟨a1,a2,a3,a4,a5,a6⟩:=a;obtain⟨b1,b2,b3,b4,b5,b6⟩:=b;simp only[Zkc,jn]at h;obtain⟨⟨⟨⟨⟨g,d⟩,c⟩,f⟩,i⟩,e⟩:=h;rw[Z1U g,je d,Z1U f,je i,je e];cases a3<;>cases b3<;>simp only[jg]at c
 ·rfl
 ·rw[je c]
def ZcF (E:Env):(ws:List (Way S))->Z2T S (ws.map (·.ts))->(Ex->StT S->Option R)->Option R
 | [],_,_=>none
 | [w],o,k=>(Z9V E w.st (eT w.ts o)).bind fun s=>k w.ex s
 | w::w'::ws,o,k=>match o with
  | .inl y=>(Z9V E w.st (eT w.ts y)).bind fun s=>k w.ex s
  | .inr o=>ZcF E (w'::ws) o k
def Zei:(ws:List (Way S))->Ex->StT S->Option (Z2T S (ws.map (·.ts)))
 | [],_,_=>none
 | [w],ex,s=>bif Zhy ex w.ex&&Zd7 w.st s then dT w.ts (ZfE s)else none
 | w::w'::ws,ex,s=>bif Zhy ex w.ex&&Zd7 w.st s then(dT w.ts (ZfE s)).bind fun y=>some (.inl y)else(Zei (w'::ws) ex s).bind fun o=>some (.inr o)
def LE.ls (X:Y2 S) (e:LE S) (run:Tup S e.ts->(Z2T S (e.outs.map (·.ts))->Option R)->Option R) (ls:Z1J S R):Z1J S R:=fun key s k =>
 bif Zkc e.key key then(bif Zd7 e.head s then(dT e.ts (ZfE s)).bind fun x=>run x fun o=>ZcF X.E e.outs o k else none)else ls key s k
noncomputable def Zir (X:Y2 S) (key:Key) (head:StT S) (ts:List LT) (tab:List (Nat×F7 S)) (ps:Prs S R) (ls:Z1J S R) (n:Nat) (x:Tup S ts) (kx:Z4b->Ex->StT S->Option R):Option R :=
 (Z9V X.E head (eT ts x)).bind fun s=>(X.E.fn key.fid).bind fun F=>(Code.sub F.body key.pos).bind fun c=>(F.hints.find? fun h=>Nat.beq h.bid key.bid).bind fun hint =>
  YX X (Z7Q X.T tab ps) ls key.rnd key.fid F (xK X (Z7Q X.T tab ps) ls n false) (xK X (Z7Q X.T tab ps) ls n true) key.path key.pos key.bid c s (kx hint)
noncomputable def LE.step (X:Y2 S) (e:LE S) (tab:List (Nat×F7 S)) (ps:Prs S (Tup S e.ts⊕Z2T S (e.outs.map (·.ts)))) (ls:Z1J S (Tup S e.ts⊕Z2T S (e.outs.map (·.ts)))) (n:Nat) (x:Tup S e.ts):Option (Tup S e.ts⊕Z2T S (e.outs.map (·.ts))) :=
 Zir X e.key e.head e.ts tab ps ls n x fun hint ex s=>match ex with
   | .normal=>(ZgQ X hint e.key.n0 s).bind fun s=>bif Zd7 e.head s then(dT e.ts (ZfE s)).bind fun y=>some (.inl y)else none
   | ex=>(Zei e.outs ex s).bind fun o=>some (.inr o)
theorem ZcE {E:Env} {s:StT S} {ex:Ex} (b:WfO E s.objs):∀{ws:List (Way S)} {o:Z2T S (ws.map (·.ts))},Zei ws ex s=some o->∀k:Ex->StT S->Option R,ZcF E ws o k=k ex s
 | [],_,h,_=>by simp[Zei]at h
 | [w],o,h,k=>by
  simp only[Zei]at h;obtain⟨c,a⟩:=Z1 h;simp only[jn]at c;simp only[ZcF];rw[Zhq a,Z7g E b c.2,Zcl c.1];rfl
 | w::w'::ws,o,h,k=>by
  simp only[Zei]at h;cases hc:Zhy ex w.ex&&Zd7 w.st s with
  | true =>
   rw[hc]at h;obtain⟨y,a,d⟩:=Z0 h;cases d;simp only[jn]at hc;simp only[ZcF];rw[Zhq a,Z7g E b hc.2,Zcl hc.1];rfl
  | false =>
   rw[hc]at h;obtain⟨y,a,d⟩:=Z0 h;cases d;simp only[ZcF];exact ZcE b a k
section
variable {X:Y2 S} (hX:XOk X) {tab:List (Nat×F7 S)} (ht:Z9z X tab)
include hX ht
theorem Zkh {e:LE S} {ps0:Prs S (Tup S e.ts⊕Z2T S (e.outs.map (·.ts)))} (a:Z8J X ps0) {ls0:Z1J S (Tup S e.ts⊕Z2T S (e.outs.map (·.ts)))} (b:Z2o X ls0) {n:Nat} {run:Tup S e.ts->(Z2T S (e.outs.map (·.ts))->Option R)->Option R} (v:∀x k r,run x k=some r->∃o,Z6C (e.step X tab ps0 ls0 n) x o/\k o=some r)
  {ls:Z1J S R} (hls:Z2o X ls):Z2o X (e.ls X run ls):=fun key s k r h i F c g u hc hh=>by
 unfold LE.ls at h;cases hk:Zkc e.key key with
 | false=>rw[hk]at h;exact hls key s k r h i F c g u hc hh
 | true =>
  rw[hk]at h;have p:=Zkd hk;subst p;simp only[jB]at h;obtain⟨h1,h⟩:=Z1 h;obtain⟨x,h2,h⟩:=Z0 h;have w:Z9V X.E e.head (eT e.ts x)=some s:=by rw[Zhq h2];exact Z7g X.E i h1
  obtain⟨o,hR,h⟩:=v x _ r h
  have main:∀(x:Tup S e.ts) (o:Z2T S (e.outs.map (·.ts))),Z6C (e.step X tab ps0 ls0 n) x o->∀s,Z9V X.E e.head (eT e.ts x)=some s->WfO X.E s.objs →
    ∃ex s',LTo X.E e.key F c g (Zo X.T s) ex (Zo X.T s')/\WfO X.E s'.objs/\(∀(R':Type) (k':Ex->StT S->Option R'),ZcF X.E e.outs o k'=k' ex s'):=by
   intro x o hr
   induction hr with
   | @done x o hst =>
    intro s w i;unfold LE.step Zir at hst;rw[w,jm,u,jm,hc,jm,hh,jm]at hst;have z:=Zf6 hX (Z3S hX ht a) b n;obtain⟨ex,s',⟨N,q⟩,l,f⟩:=Ys hX (Z3S hX ht a) b z.1 z.2 u c _ _ s _ _ hst hc i;cases ex with
    | normal =>
     simp only at f;obtain⟨_,_,d⟩:=Z0 f;obtain⟨_,d⟩:=Z1 d;obtain⟨_,_,d⟩:=Z0 d;cases d
    | _ =>
     simp only at f;obtain⟨o',d,j⟩:=Z0 f;cases j;refine⟨_,s',⟨N,fun m m' hm _=>?_⟩,l,fun R' k'=>ZcE l d k'⟩;unfold ZiP;rw[q m hm];rfl
   | @next x y o hst _ ih =>
    intro s w i;unfold LE.step Zir at hst;rw[w,jm,u,jm,hc,jm,hh,jm]at hst;have z:=Zf6 hX (Z3S hX ht a) b n;obtain⟨ex,s',⟨N,q⟩,l,f⟩:=Ys hX (Z3S hX ht a) b z.1 z.2 u c _ _ s _ _ hst hc i;cases ex with
    | normal =>
     simp only at f;obtain⟨s2,d,j⟩:=Z0 f;obtain⟨h9,j⟩:=Z1 j;obtain⟨y',a2,j⟩:=Z0 j;cases j;obtain⟨a4,t⟩:=Zeg hX d l;have a5:Z9V X.E e.head (eT e.ts y)=some s2:=by rw[Zhq a2];exact Z7g X.E t h9
     obtain⟨ex3,s3,⟨N3,a0⟩,a1,a3⟩:=ih s2 a5 t;refine⟨ex3,s3,⟨max N N3+1,fun m m' hm hm'=>?_⟩,a1,a3⟩;unfold ZiP;rw[q m (by omega)]
     simp only[jm];cases m' with
     | zero=>omega
     | succ m' =>
      simp only[iter];rw[a4];simp only[jm];exact a0 m m' (by omega) (by omega)
    | _ =>
     simp only at f;obtain⟨_,_,d⟩:=Z0 f;cases d
  obtain⟨ex,s',q,l,f⟩:=main x o hR s w i;refine⟨ex,s',q,l,?_⟩;rw[f]at h;exact h
end
def Z4f:Nat->List (TV S)->Tr (TV S)->Tr (TV S)
 | _,[],b=>b
 | i,v::vs,b=>Z4f (i+1) vs (b.set i (some v))
def Zhk (b:Tr (TV S)):Nat->Nat->Option (List (TV S))
 | _,0=>some []
 | i,n+1=>(b.get i).bind fun v=>(Zhk b (i+1) n).bind fun vs=>some (v::vs)
theorem Z7Y:∀(vs:List (TV S)) (i:Nat) (b:Tr (TV S)) (j:Nat),(Z4f i vs b).get j=if i<=j/\j<i+vs.length then vs[j-i]? else b.get j
 | [],i,b,j=>by
  have:¬(i<=j/\j<i+([]:List (TV S)).length):=by simp
  rw[if_neg this];rfl
 | v::vs,i,b,j=>by
  simp only[Z4f];rw[Z7Y vs (i+1) _ j,Tr.get_set]
  by_cases e:j=i
  ·subst e;rw[if_neg (by omega),if_pos rfl,if_pos ⟨Nat.le_refl _,by simp⟩,Nat.sub_self];rfl
  ·rw[if_neg e]
   by_cases h:i+1<=j/\j<i+1+vs.length
   ·rw[if_pos h,if_pos ⟨by omega,by simp only[List.length_cons];omega⟩,show j-i=(j-(i+1))+1 by omega];simp
   ·rw[if_neg h,if_neg];simp only[List.length_cons];omega
theorem Zgu {b:Tr (TV S)}:∀(vs:List (TV S)) (i:Nat),(∀j,j<vs.length->b.get (i+j)=vs[j]?)->Zhk b i vs.length=some vs
 | [],_,_=>rfl
 | v::vs,i,h=>by
  simp only[List.length_cons,Zhk];have a:=h 0 (by simp)
  simp only[Nat.add_zero,List.getElem?_cons_zero]at a;rw[a,jm,Zgu vs (i+1) fun j c=>by
   have:=h (j+1) (by simp;omega)
   rw[show i+1+j=i+(j+1) by omega,this];simp]
  rfl
theorem Zfd (vs:List (TV S)):Zhk (Z4f 0 vs .leaf) 0 vs.length=some vs:=Zgu vs 0 fun j a=>by
 rw[Z7Y,if_pos ⟨by omega,by omega⟩];simp
structure PE (S:Nat->Type) where
 g:Nat
 ar:Nat
 head:StT S
 ts:List LT
 outs:List (Way S)
def PE.ps (X:Y2 S) (e:PE S) (run:Tup S e.ts->(Z2T S (e.outs.map (·.ts))->Option R)->Option R) (ps:Prs S R):Prs S R:=fun g as s n0 k =>
 bif Nat.beq e.g g&&(Nat.beq e.ar as.length&&Zd7 e.head ⟨Z4f 0 as .leaf,s,n0⟩)then
  (dT e.ts (ZfE ⟨Z4f 0 as .leaf,s,n0⟩)).bind fun x=>run x fun o=>ZcF X.E e.outs o fun _ st=>(st.base.get 0).bind fun v=>k v st.objs st.next
 else ps g as s n0 k
noncomputable def PE.body (X:Y2 S) (e:PE S) (tab:List (Nat×F7 S)) (ps:Prs S R) (ls:Z1J S R) (n:Nat) (x:Tup S e.ts) (k:StT S->Option R):Option R :=
 (Z9V X.E e.head (eT e.ts x)).bind fun s=>(Zhk s.base 0 e.ar).bind fun as=>(X.E.fn e.g).bind fun F=>bif Nat.ble as.length F.nt && !F.dfs then
  YX X (Z7Q X.T tab ps) ls none e.g F (xK X (Z7Q X.T tab ps) ls n false) (xK X (Z7Q X.T tab ps) ls n true) [e.g] [] 0 F.body ⟨Yf F.vmask 0 as .leaf,s.objs,s.next⟩ fun ex s2=>match ex with
   | .exit _ | .busy=>none
   | .pan=>(s2.base.get F.nt).bind fun d=>ZdG s.next (Z92 d) s2.objs fun v o n=>k ⟨Z4f 0 [v] .leaf,o,n⟩
   | _=>Z9i X s2.base.get s2.objs.get F.nres fun vs=>bif(Z10 (Z1t vs)).isNone then ZdG s.next (Z1t vs) s2.objs fun v o n=>k ⟨Z4f 0 [v] .leaf,o,n⟩else none
 else none
noncomputable def PE.step (X:Y2 S) (e:PE S) (tab:List (Nat×F7 S)) (ps:Prs S (Z2T S (e.outs.map (·.ts)))) (ls:Z1J S (Z2T S (e.outs.map (·.ts)))) (n:Nat) (x:Tup S e.ts):Option (Z2T S (e.outs.map (·.ts))) :=
 e.body X tab ps ls n x fun st=>Zei e.outs .ret st
def ZjJ (X:Y2 S) (e:PE S) (F:Tup S e.ts->Option (Z2T S (e.outs.map (·.ts)))):Prop:=∀x o,F x=some o->∀s as,Z9V X.E e.head (eT e.ts x)=some s->Zhk s.base 0 e.ar=some as->WfO X.E s.objs →
 ∃v os n',(∀(R':Type) (k':Ex->StT S->Option R'),ZcF X.E e.outs o k'=k' .ret ⟨Z4f 0 [v] .leaf,os,n'⟩)/\WfO X.E os ∧
  Evt fun n=>(Zjg X.E n e.g (dvl X.T as) (s.objs.mapv (dvO X.T)) s.next).bind (Z8S s.next)=some (dv X.T v,os.mapv (dvO X.T),n')
section
variable {X:Y2 S} (hX:XOk X)
include hX
omit hX in
theorem ZlK {e:PE S} {F:Tup S e.ts->Option (Z2T S (e.outs.map (·.ts)))} (q:ZjJ X e F) {ps:Prs S R} (c:Z8J X ps):Z8J X (e.ps X (fun x k=>(F x).bind k) ps):=fun g as s n0 k r h a=>by
 unfold PE.ps at h;cases hb:Nat.beq e.g g&&(Nat.beq e.ar as.length&&Zd7 e.head ⟨Z4f 0 as .leaf,s,n0⟩)with
 | false=>rw[hb]at h;exact c g as s n0 k r h a
 | true =>
  rw[hb]at h;simp only[jB]at h;simp only[jn]at hb;obtain⟨b,f,d⟩:=hb;have b:=je b;have f:=je f;subst b;obtain⟨x,i,h⟩:=Z0 h;obtain⟨o,j,h⟩:=Z0 h;have l:Z9V X.E e.head (eT e.ts x)=some ⟨Z4f 0 as .leaf,s,n0⟩:=by rw[Zhq i];exact Z7g X.E a d
  obtain⟨v,os,n',n,p,m⟩:=q x o j _ as l (by rw[f];exact Zfd as) a
  rw[n]at h;have hv:(Z4f 0 [v] .leaf:Tr (TV S)).get 0=some v:=by rw[Z7Y];rfl
  rw[hv,jm]at h;exact⟨v,os,n',m,p,h⟩
omit hX in
def Zly (E:Env) (F:FI) (ex:Ex) (s:St):Option (DV×Tr Z9×Nat):=match ex with
 | .exit _ | .busy=>none
 | .pan=>(s.base.get F.nt).bind fun d=>some (ZcL d,s.objs,s.next)
 | _=>(Z3h E s.base.get s.objs.get F.nres).bind fun vs=>(okV (Z3d vs)).bind fun v=>some (v,s.objs,s.next)
theorem Zlf {tab:List (Nat×F7 S)} (ht:Z9z X tab) {e:PE S} {ps:Prs S (Z2T S (e.outs.map (·.ts)))} (q:Z8J X ps) {ls:Z1J S (Z2T S (e.outs.map (·.ts)))} (hls:Z2o X ls) (n:Nat):ZjJ X e (e.step X tab ps ls n):=fun x o h s as hs has hw=>by
 unfold PE.step PE.body at h;rw[hs,jm,has,jm]at h;obtain⟨F,hF,h⟩:=Z0 h;obtain⟨hl,h⟩:=Z1 h;have hx:=Zf6 hX (Z3S hX ht q) hls n;obtain⟨ex,s2,h1,h2,c⟩:=Ys hX (Z3S hX ht q) hls hx.1 hx.2 hF F.body [] 0 _ _ o h rfl hw;rw[jn]at hl;have w:F.dfs=false:=by simpa using hl.2
 have hex:∃v:TV S,Zly X.E F ex (Zo X.T s2)=some (dv X.T v,s2.objs.mapv (dvO X.T),s2.next)/\ZdG s.next v s2.objs (fun v o n=>Zei e.outs .ret ⟨Z4f 0 [v] .leaf,o,n⟩)=some o:=by
  have b:∀{R':Type} {k:TV S->Option R'} {r:R'},(Z9i X s2.base.get s2.objs.get F.nres fun vs=>bif(Z10 (Z1t vs)).isNone then k (Z1t vs)else none)=some r →
    ∃v,((Z3h X.E (Zo X.T s2).base.get (Zo X.T s2).objs.get F.nres).bind fun vs=>(okV (Z3d vs)).bind fun v=>some (v,(Zo X.T s2).objs,(Zo X.T s2).next))=some (dv X.T v,s2.objs.mapv (dvO X.T),s2.next)/\k v=some r:=fun {R' k r} h=>by
   obtain⟨vs,l,a⟩:=Z9v hX h;obtain⟨h6,a⟩:=Z1 a;refine⟨Z1t vs,?_,a⟩;show(Z3h X.E (s2.base.mapv (dv X.T)).get (s2.objs.mapv (dvO X.T)).get F.nres).bind _=_;rw[ZgO,Z6m,l];simp only[jm,ZcI,Zjb X.T h6];rfl
  cases ex with
  | exit i=>cases c
  | busy=>cases c
  | normal=>exact b c
  | ret=>exact b c
  | pan =>
   simp only at c;obtain⟨d,l,a⟩:=Z0 c;refine⟨Z92 d,?_,a⟩;have hb:(Zo X.T s2).base.get F.nt=some (dv X.T d):=by
    show(s2.base.mapv (dv X.T)).get F.nt=_;rw[ZD,l];rfl
   simp only[Zly,hb,jm];rfl
 obtain⟨v,l,a⟩:=hex;obtain⟨v',o',n',h8,h9,a⟩:=ZiJ hX.t (n:=s2.next) a;have f:WfO X.E o':=fun i=>by
  cases hi:o'.get i with
  | none=>trivial
  | some y =>
   obtain⟨j,x,z,rfl⟩:=h9 i y hi;have:=h2 j;rw[z]at this;exact Zgn this
 refine⟨v',o',n',fun R' k'=>ZcE (s:=⟨_,_,_⟩) f a k',f,h1.mono fun m hm=>?_⟩;have p:Zjg X.E m e.g (dvl X.T as) (s.objs.mapv (dvO X.T)) s.next=some (dv X.T v,s2.objs.mapv (dvO X.T),s2.next):=by
  unfold Zjg Z9j;rw[hF];have hl':Nat.ble (dvl X.T as).length F.nt=true:=by rw[Z4H,List.length_map];exact hl.1
  simp only[jm,hl',jB,w,jA];have e1:(⟨YR F.vmask 0 (dvl X.T as) .leaf,s.objs.mapv (dvO X.T),s.next⟩:St)=Zo X.T ⟨Yf F.vmask 0 as .leaf,s.objs,s.next⟩:=by
   simp only[Zo];rw[<-Z3w];rfl
  rw[e1];have u:evC X.E none e.g F (fun g as=>(evX X.E m false g as .leaf 0).bind fun x=>frz x.2.1.get x.1) (evX X.E m false) (evX X.E m true) m 0 F.body (Zo X.T ⟨Yf F.vmask 0 as .leaf,s.objs,s.next⟩)=some (ex,Zo X.T s2):=hm;rw[u];exact l
 rw[p];exact h8
end
theorem ZlR {X:Y2 S} {e:PE S} {F F':Tup S e.ts->Option (Z2T S (e.outs.map (·.ts)))} (h:ZjJ X e F) (q:∀x o,F' x=some o->F x=some o):ZjJ X e F':=fun x o a=>h x o (q x o a)
theorem ZlD {α β:Type} (f:α->β) (c:Bool) (x y:Option α):Option.map f (bif c then x else y)=bif c then Option.map f x else Option.map f y:=by cases c<;>rfl
theorem Zlu {α β γ:Type} (f:β->γ) (x:Option α) (g:α->Option β):Option.map f (x.bind g)=x.bind fun a=>Option.map f (g a):=by cases x<;>rfl
theorem ZlE {α β γ δ:Type} (f:γ->δ) (l:α->Option γ) (r:β->Option γ) (x:α⊕β):Option.map f (Sum.elim l r x)=Sum.elim (fun a=>Option.map f (l a)) (fun b=>Option.map f (r b)) x:=by cases x<;>rfl
theorem Zju {B Ω σ ω:Type} {big:B->Option (B⊕Ω)} {st:B->σ->Option (σ⊕ω)} {prj:B->σ} {emb:B->σ->B} {embO:B->ω→Ω}
  (b:∀x,big x=(st x (prj x)).map (Sum.map (emb x) (embO x))) (a:∀x v,st (emb x v)=st x) (c:∀x v,prj (emb x v)=v) (e:∀x v w,emb (emb x v) w=emb x w) (f:∀x v w,embO (emb x v) w=embO x w) (d:∀x,emb x (prj x)=x)
  {x:B} {o:ω} (h:Z6C (st x) (prj x) o):Z6C big x (embO x o):=by
 have main:∀(v:σ) (o:ω),Z6C (st x) v o->Z6C big (emb x v) (embO x o):=fun v o hr=>by
  induction hr with
  | @done v o hs=>exact .done (by rw[b,a,c,hs,jq,Sum.map_inr,f])
  | @next v w o hs _ ih=>exact .next (by rw[b,a,c,hs,jq,Sum.map_inl,e]) ih
 have:=main _ o h
 rwa [d]at this
def Zkp:Z1J S R:=fun _ _ _=>none
theorem Zlb (X:Y2 S):Z2o X (Zkp (R:=R)):=fun _ _ _ _ h=>by cases h
end Go.Ab
namespace Go.Ab
variable {S:Nat->Type} {R:Type}
theorem ZlQ {X:Y2 S} (hX:XOk X) {tab:List (Nat×F7 S)} (ht:Z9z X tab) {e:LE S} {ps0:Prs S (Tup S e.ts⊕Z2T S (e.outs.map (·.ts)))} (a:Z8J X ps0) {ls0:Z1J S (Tup S e.ts⊕Z2T S (e.outs.map (·.ts)))} (b:Z2o X ls0) {n:Nat}
  {σ ω:Type} {emb:Tup S e.ts->σ->Tup S e.ts} (out:∀{T:Type},Tup S e.ts->(Z2T S (e.outs.map (·.ts))->T)->ω->T) {st:Tup S e.ts->σ->Option (σ⊕ω)} {prj:Tup S e.ts->σ}
  (i:∀x,e.step X tab ps0 ls0 n x=(st x (prj x)).map (Sum.map (emb x) (out x id))) {ls:Z1J S R} (hls:Z2o X ls)
  (c:∀x v,st (emb x v)=st x:=by intros;rfl) (d:∀x v,prj (emb x v)=v:=by intros;rfl) (g:∀x v w,emb (emb x v) w=emb x w:=by intros;rfl) (l:∀x v w,out (emb x v) id w=out x id w:=by intros;rfl) (f:∀x,emb x (prj x)=x:=by intros;rfl)
  (j:∀x (k:Z2T S (e.outs.map (·.ts))->Option R) o,out x k o=k (out x id o):=by intro x k o;repeat' first|rfl|(rcases o with o|o)) :
  Z2o X (e.ls X (fun x k=>(Z9a (st x) (prj x)).bind (out x k)) ls) :=
 Zkh hX ht a b (fun x k r h=>by
  obtain⟨o,g1,g2⟩:=Z0 h;exact⟨out x id o,Zju i c d g l f (Z1H.1 g1),(j x k o).symm.trans g2⟩) hls
end Go.Ab
namespace Go.Ab
open Go.RowKit
variable {S:Nat->Type}
def Z2C (T:TS S):(ts:List Ty)->Z5e S ts->List DV
 | [],_=>[]
 | t::ts,x=>dcl T t x.1++Z2C T ts x.2
def vok (lim:Ty->Nat) (ok:∀i,S i->Prop):(t:Ty)->Val S t->Prop
 | .bool,_=>True
 | .int k,n=>(Lit.int k n).wf=true
 | .str,s=>s.size<=maxLen
 | .sl t,xs=>List.length (α:=Val S t) xs<=lim t/\∀x:Val S t,List.Mem x xs->vok lim ok t x
 | .arr n t,a=>∀j,j<n->vok lim ok t (a j)
 | .st i,x=>ok i x
def aok (lim:Ty->Nat) (ok:∀i,S i->Prop):(ts:List Ty)->Z5e S ts->Prop
 | [],_=>True
 | t::ts,x=>vok lim ok t x.1/\aok lim ok ts x.2
structure SF (T:TS S) where
 flds:Nat->List Ty
 make:∀i,Z5e S (flds i)->S i
 ok:(Ty->Nat)->∀i,S i->Prop
 mk_dl:∀i xs,T.dcells i (make i xs)=Z2C T (flds i) xs
 mk_ok:∀lim i xs,aok lim (ok lim) (flds i) xs->ok lim i (make i xs)
structure Zf7 {H:Type} (P:Program) (code:Nat->Option Ty) (lim:Ty->Nat) (B:Nat->DataW H->Prop):Prop where
 slice:∀t e elems spare c,code e=some c->P.underlying t=some (.slice e)->0<P.bytesOf e->B t (.slice elems spare)->elems.length<=lim c/\∀d,d∈elems->B e d
 struct:∀t fs parts,P.underlying t=some (.struct fs)->B t (.agg parts)->∀(j:Nat) f d,fs[j]? = some f->parts[j]? = some d->B f.type d
 array:∀t n e parts,P.underlying t=some (.array n e)->B t (.agg parts)->∀d,d∈parts->B e d
def Z4J (code:Nat->Option Ty) (sz:Ty->Nat):Nat->List (Nat×Nat)->List Ty->Option Nat
 | off,[],[]=>some off
 | off,(t,o)::fs,c::cs=>bif Nat.beq o off&&decide (code t=some c)then Z4J code sz (off+sz c) fs cs else none
 | _,_,_=>none
def Zau (code:Nat->Option Ty) (ty:Nat->Option TI) (sz:Ty->Nat) (flds:Nat->List Ty) (o:Option TI) (c:Ty):Bool:=match o with
 | none=>false
 | some ti=>Nat.beq ti.size (sz c)&&(match c,ti.k with
  | .bool,.bool=>true
  | .int k,.int k'=>decide (k=k')
  | .str,.string=>true
  | .sl c',.slice e=>decide (code e=some c')&&(Nat.blt 0 (sz c')&&(match ty e with|some te=>Nat.blt 0 te.bytes|none=>false))
  | .arr n c',.array n' e=>Nat.beq n n'&&decide (code e=some c')
  | .st i,.struct fs=>match Z4J code sz 0 fs (flds i)with|some z=>Nat.beq z ti.size|none=>false
  | _,_=>false)
theorem Zay {β:Bi} {G:Gh}:∀{a b:List DV} {x y:List Value},Zc β G a x->Zc β G b y->Zc β G (a++b) (x++y)
 | [],b,x,y,h1,h2=>by unfold Zc at h1;subst h1;exact h2
 | d::a,b,x,y,h1,h2=>by
  unfold Zc at h1;obtain⟨v,vs,rfl,e,c⟩:=h1;show Zc β G (d::(a++b)) (v::(vs++y));unfold Zc;exact⟨v,vs++y,rfl,e,Zay c h2⟩
theorem Z4p {β:Bi} {G:Gh} {d:DV} {v:Value} (h:Rep β G d v):Zc β G [d] [v]:=by
 unfold Zc;exact⟨v,[],rfl,h,by unfold Zc;rfl⟩
theorem Z5n {α ξ:Type} {Q:α→ξ→Prop}:∀{l:List α},(∀a,a∈l->∃x,Q a x)->∃xs:List ξ,xs.length=l.length/\∀j (d:j<l.length) (c:j<xs.length),Q l[j] xs[j]
 | [],_=>⟨[],rfl,fun j h=>by simp at h⟩
 | a::l,h=>by
  obtain⟨x,i⟩:=h a (by simp)
  obtain⟨xs,d,c⟩:=Z5n (l:=l) (fun b g=>h b (List.mem_cons_of_mem _ g));refine⟨x::xs,by simp[d],fun j f e=>?_⟩
  cases j with
  | zero=>exact i
  | succ j=>exact c j (by simpa using f) (by simpa using e)
section
variable {H:Type} {enc:TypeId×Value->H} {P:Program} {w:World} {sp:Nat->Bool} {held:Bool} {β:Bi} {G:Gh}
theorem Zbk {a:Addr} {n:Nat} {cs:List Value} (h:w.cells? 0 a n=some cs):cs.length=n/\∀i,(hi:i<cs.length)->w.cell? (a.add i)=some cs[i]:=by
 unfold World.cells? at h;rw[if_pos (Nat.zero_le _)]at h;have gen:∀(l:List Nat) (r:List Value),l.mapM (fun i=>w.cell? (a.add i))=some r->r.length=l.length/\∀j,(c:j<l.length)->(d:j<r.length)->w.cell? (a.add l[j])=some r[j]:=by
  intro l
  induction l with
  | nil=>intro r h;simp at h;subst h;exact⟨rfl,fun j h=>by simp at h⟩
  | cons b l ih =>
   intro r h;rw[List.mapM_cons]at h;simp only[Option.bind_eq_bind,Option.bind_eq_some_iff]at h;obtain⟨y,hy,ys,f,hr⟩:=h;have e:y::ys=r:=by simpa using hr
   subst e;obtain⟨c,d⟩:=ih ys f;refine⟨by simp[c],fun j g k=>?_⟩
   cases j with
   | zero=>exact hy
   | succ j=>exact d j (by simpa using g) (by simpa using k)
 obtain⟨c,d⟩:=gen _ _ h;rw[List.length_range]at c;refine⟨c,fun i hi=>?_⟩;have:=d i (by rw[List.length_range];omega) hi
 rwa [List.getElem_range]at this
theorem Zje (a:∀b o v,w.cell? ⟨b,o,none⟩=some v->G b o=some v) {b:Nat}:∀{ds:List DV} {cs:List Value} {o:Nat},Zc β G ds cs->(∀i,(hi:i<cs.length)->w.cell? ⟨b,o+i,none⟩=some cs[i])->Pub β G b o ds
 | [],_,_,_,_=>by unfold Pub;trivial
 | d::ds,cs,o,h,hc=>by
  unfold Zc at h;obtain⟨v,vs,rfl,e,c⟩:=h;unfold Pub;refine⟨⟨v,a _ _ _ (hc 0 (by simp)),e⟩,Zje a c (fun i hi=>?_)⟩
  have:=hc (i+1) (by simpa using hi)
  rw[show o+1+i=o+(i+1) by omega]
  simpa using this
variable {lim:Ty->Nat} {B:Nat->DataW H->Prop} {X:Y2 S} (hX:XOk X) (F:SF X.T) (hE:∀ t ti,X.E.ty t=some ti->ZN P t ti)
 (hR:∀t c,X.code t=some c->Zau X.code X.E.ty (tsz X.T) F.flds (X.E.ty t) c=true)
include hX hE hR
theorem Z4F {t:TypeId} {c:Ty} (hc:X.code t=some c):P.cellsOf t=tsz X.T c:=by
 have h:=hR t c hc;unfold Zau at h;cases ht:X.E.ty t with
 | none=>rw[ht]at h;cases h
 | some ti =>
  rw[ht]at h;simp only[jn]at h;obtain⟨i,z,b,a,_⟩:=(hE t ti ht).info;unfold Program.cellsOf;rw[b];show i.size=_;rw[a];exact je h.1
theorem Z8T {fuel:Nat} (ih:∀t c cs x,X.code t=some c->B t x.1->DataW.trod enc P w 0 sp held fuel t cs=some x->∃v:Val S c,Zc β G (dcl X.T c v) cs/\vok lim (F.ok lim) c v) (cs:List Value) :
  ∀(fields:List Field) (cts:List Ty) (off en:Nat),Z4J X.code (tsz X.T) off (fields.map fun f=>(f.type,f.offset)) cts=some en →
   (∀f,f∈fields->∃x,B f.type x.1/\DataW.trod enc P w 0 sp held fuel f.type ((cs.drop f.offset).take (P.cellsOf f.type))=some x)->off<=en/\∃v:Z5e S cts,Zc β G (Z2C X.T cts v) ((cs.drop off).take (en-off))/\aok lim (F.ok lim) cts v
 | [],[],off,en,h,_=>by
  simp only[List.map_nil,Z4J,jh]at h;subst h;refine⟨Nat.le_refl _,(),?_,trivial⟩;rw[Nat.sub_self,List.take_zero];show Zc β G [] [];unfold Zc;rfl
 | [],_::_,off,en,h,_=>by simp[Z4J]at h
 | _::_,[],off,en,h,_=>by simp[Z4J]at h
 | f::fields,c::cts,off,en,h,hm=>by
  simp only[jr,Z4J]at h;cases hb:(Nat.beq f.offset off&&decide (X.code f.type=some c))with
  | false=>rw[hb]at h;cases h
  | true =>
   rw[hb,jB]at h;simp only[jn,jk]at hb;have j:=je hb.1;obtain⟨y,d,hy⟩:=hm f (by simp)
   obtain⟨v,hv,b⟩:=ih _ _ _ _ hb.2 d hy;obtain⟨l,vs,i,a⟩:=Z8T ih cs fields cts (off+tsz X.T c) en h (fun g k=>hm g (List.mem_cons_of_mem _ k));rw[Z4F hX F hE hR hb.2,j]at hv;refine⟨by omega,(v,vs),?_,b,a⟩
   have e:(cs.drop off).take (en-off)=(cs.drop off).take (tsz X.T c)++(cs.drop (off+tsz X.T c)).take (en-(off+tsz X.T c)):=by
    rw[show en-off=tsz X.T c+(en-(off+tsz X.T c)) by omega,List.take_add,List.drop_drop]
   rw[e];exact Zay hv i
theorem Zkx (hB:Zf7 P X.code lim B) (hG:∀b o v,w.cell? ⟨b,o,none⟩=some v->G b o=some v):∀(fuel:Nat) (t:TypeId) (c:Ty) (cs:List Value) (x:DataW H×List MemPlace),X.code t=some c->B t x.1 →
  DataW.trod enc P w 0 sp held fuel t cs=some x->∃v:Val S c,Zc β G (dcl X.T c v) cs/\vok lim (F.ok lim) c v:=by
 intro fuel
 induction fuel with
 | zero=>intro t c cs x _ _ h;simp[DataW.trod]at h
 | succ fuel ih =>
  intro t c cs x hc y h;have hr:=hR t c hc;unfold Zau at hr;cases ht:X.E.ty t with
  | none=>rw[ht]at hr;cases hr
  | some ti =>
   rw[ht]at hr;have hT:=hE t ti ht;have u:=hT.desc;simp only[jn]at hr;obtain⟨hsz,q⟩:=hr;have a6:=Z4F hX F hE hR hc;cases c with
   | bool =>
    split at q<;>try (cases q;done)
    all_goals (rename_i p d;try cases p)
    rw[d]at u;obtain⟨b,rfl,_⟩:=DataW.trod_bool u h;exact⟨b,Z4p (by unfold Rep;rfl),trivial⟩
   | int k =>
    split at q<;>try (cases q;done)
    all_goals (rename_i p d;try cases p)
    rename_i k';have:=of_decide_eq_true q;subst this;rw[d]at u;obtain⟨n,rfl,_,hw⟩:=DataW.trod_int u h;exact⟨n,Z4p (by unfold Rep;rfl),hw⟩
   | str =>
    split at q<;>try (cases q;done)
    all_goals (rename_i p d;try cases p)
    rw[d]at u;obtain⟨s,rfl,_,hw⟩:=DataW.trod_string u h;exact⟨s,Z4p (by unfold Rep;rfl),hw⟩
   | sl c' =>
    split at q<;>try (cases q;done)
    all_goals (rename_i p d;try cases p)
    rename_i e;simp only[jn,jk]at q;obtain⟨a0,hpos,hby⟩:=q;have hbytes:0<P.bytesOf e:=by
     cases hte:X.E.ty e with
     | none=>rw[hte]at hby;cases hby
     | some te =>
      rw[hte]at hby;simp only[Nat.blt,Nat.ble_eq]at hby;obtain⟨i,z,q1,_,q2,_⟩:=(hE e te hte).info;unfold Program.bytesOf;rw[q1];show 0<i.bytes;omega
    have hpos:0<tsz X.T c':=by simp only[Nat.blt,Nat.ble_eq]at hpos;omega
    have a3:=Z4F hX F hE hR a0;rw[d]at u;rcases DataW.trod_slice u h with⟨rfl,_⟩|⟨a,len,cap,elems,rest,n,hn,rfl,a5,_,hlc,hmx,hel,g,_⟩
    ·refine⟨([]:List (Val S c')),Z4p ?_,⟨Nat.zero_le _,fun x hx=>by cases hx⟩⟩
     show Rep β G (.sl []) _;unfold Rep;exact⟨none,0,⟨rfl,Nat.le_refl _⟩,.inl rfl⟩
    ·cases hn;rw[a5]at y;obtain⟨hlim,hBe⟩:=hB.slice _ _ _ _ _ a0 u hbytes y;rw[List.length_map,hel]at hlim;have hall:∀i,i∈List.range len->∃(xv:Val S c') (ecs:List Value),w.cells? 0 (a.add (i*P.cellsOf e)) (P.cellsOf e)=some ecs/\Zc β G (dcl X.T c' xv) ecs/\vok lim (F.ok lim) c' xv:=fun i hi=>by
      have hi':i<len:=by simpa using hi
      have hy:=g i hi';rw[List.getElem?_eq_getElem (by omega)]at hy
      simp only[Option.bind_eq_some_iff]at hy;obtain⟨ecs,h1,h2⟩:=hy;obtain⟨v,h3,h4⟩:=ih e c' ecs _ a0 (hBe _ (List.mem_map.2 ⟨_,jl (by omega),rfl⟩)) h2
      exact⟨v,ecs,h1,h3,h4⟩
     ·obtain⟨xs,a4,hxs⟩:=Z5n (l:=List.range len) (Q:=fun i (xv:Val S c')=>∃(ecs:List Value),w.cells? 0 (a.add (i*P.cellsOf e)) (P.cellsOf e)=some ecs/\Zc β G (dcl X.T c' xv) ecs/\vok lim (F.ok lim) c' xv) hall;rw[List.length_range]at a4;have r:∀j,(hj:j<xs.length)->∃(ecs:List Value),w.cells? 0 (a.add (j*tsz X.T c')) (tsz X.T c')=some ecs/\Zc β G (dcl X.T c' xs[j]) ecs/\vok lim (F.ok lim) c' xs[j]:=fun j hj=>by
       have:=hxs j (by rw[List.length_range];omega) hj
       rw[List.getElem_range,a3]at this;exact this
      refine⟨(xs:List (Val S c')),Z4p ?_,⟨by omega,fun x hx=>?_⟩⟩
      ·show Rep β G (.sl (xs.map (dcl X.T c'))) _;unfold Rep;refine⟨some a,cap,⟨by rw[List.length_map,a4],by rw[List.length_map];omega⟩,?_⟩
       by_cases hnil:xs=[]
       ·left;rw[hnil];rfl
       ·right;have hl0:0<xs.length:=List.length_pos_iff.2 hnil;have a2:a.spot=none:=by
         obtain⟨ecs,h1,_,_⟩:=r 0 hl0;obtain⟨h3,h4⟩:=Zbk h1;have:=h4 0 (by omega)
         rw[Nat.zero_mul]at this;simp only[Addr.add,if_true]at this;unfold World.cell? at this;split at this
         ·split at this
          ·cases this
          ·rename_i hs;cases hsp:a.spot with
           | none=>rfl
           | some z=>rw[hsp]at hs;exact absurd rfl hs
         ·cases this
        obtain⟨ab,ao,asp⟩:=a;simp only at a2;subst a2;refine⟨ab,ao,tsz X.T c',rfl,?_⟩;have gen:∀(n k:Nat),k+n=xs.length->Yo β G ab (tsz X.T c') (ao+k*tsz X.T c') ((xs.drop k).map (dcl X.T c')):=by
         intro n
         induction n with
         | zero =>
          intro k q;rw[jd (by omega)]
          simp only[List.map_nil];unfold Yo;trivial
         | succ n ihn =>
          intro k q;have hk':k<xs.length:=by omega
          rw[jb hk'];simp only[jr];unfold Yo;obtain⟨ecs,h1,h2,_⟩:=r k hk';obtain⟨h3,h4⟩:=Zbk h1;refine⟨Y9 hX.t c' _,⟨Z1V (Z3o hX.t c' _),Z2M (Z3o hX.t c' _)⟩,Zje hG h2 (fun i hi=>?_),?_⟩
          ·have:=h4 i hi;have e:(Addr.add (Addr.add ⟨ab,ao,none⟩ (k*tsz X.T c')) i)=⟨ab,ao+k*tsz X.T c'+i,none⟩:=by
            simp only[Addr.add]
            by_cases hz:k*tsz X.T c'=0
            ·by_cases hi0:i=0
             ·simp[hz,hi0]
             ·simp[hz,hi0]
            ·by_cases hi0:i=0
             ·simp[hz,hi0]
             ·simp[hz,hi0]
           rwa [e]at this
          ·have:=ihn (k+1) (by omega)
           rw[show ao+k*tsz X.T c'+tsz X.T c'=ao+(k+1)*tsz X.T c' by rw[Nat.succ_mul];omega]
           exact this
        have:=gen xs.length 0 (by omega)
        rw[Nat.zero_mul,Nat.add_zero,List.drop_zero]at this;exact this
      ·obtain⟨j,hj,rfl⟩:=List.getElem_of_mem hx;obtain⟨_,_,_,h3⟩:=r j hj;exact h3
   | arr n c' =>
    split at q<;>try (cases q;done)
    all_goals (rename_i p d;try cases p)
    rename_i n' e;simp only[jn,jk]at q;obtain⟨hn,a0⟩:=q;have hn:=je hn;subst hn;have a3:=Z4F hX F hE hR a0;rw[d]at u
    ·obtain⟨xs0,m,hm,a5,a1,hxl0,g⟩:=DataW.trod_array u h;cases hm;rw[a5]at y;have hBe:=hB.array _ _ _ _ u y;obtain⟨xs,a4,hxs⟩:=Z5n (l:=List.range n) (Q:=fun i (xv:Val S c')=>Zc β G (dcl X.T c' xv) ((cs.drop (i*P.cellsOf e)).take (P.cellsOf e))/\vok lim (F.ok lim) c' xv) (fun i hi=>by
      have hi':i<n:=by simpa using hi
      have hy:=g i hi';rw[List.getElem?_eq_getElem (by omega)]at hy
      exact ih e c' _ _ a0 (hBe _ (List.mem_map.2 ⟨_,jl (by omega),rfl⟩)) hy)
     rw[List.length_range]at a4;have r:∀j,(hj:j<n)->Zc β G (dcl X.T c' (xs.getD j (tdf X.T c'))) ((cs.drop (j*tsz X.T c')).take (tsz X.T c'))/\vok lim (F.ok lim) c' (xs.getD j (tdf X.T c')):=fun j hj=>by
      have a7:j<xs.length:=by omega
      have:=hxs j (by rw[List.length_range];omega) a7
      rw[List.getElem_range,a3]at this;have e2:xs.getD j (tdf X.T c')=xs[j]:=by simp[List.getD,a7]
      rw[e2];exact this
     refine⟨(fun j=>xs.getD j (tdf X.T c')),?_,fun j hj=>(r j hj).2⟩;show Zc β G ((List.range n).flatMap fun j=>dcl X.T c' (xs.getD j (tdf X.T c'))) cs;have gen:∀k,k<=n->Zc β G ((List.range k).flatMap fun j=>dcl X.T c' (xs.getD j (tdf X.T c'))) (cs.take (k*tsz X.T c')):=by
      intro k
      induction k with
      | zero =>
       intro _;rw[Nat.zero_mul,List.take_zero];show Zc β G [] [];unfold Zc;rfl
      | succ k ihk =>
       intro q;rw[List.range_succ,List.flatMap_append,Nat.succ_mul,List.take_add];refine Zay (ihk (by omega)) ?_
       simp only[List.flatMap_cons,List.flatMap_nil,jo];exact(r k (by omega)).1
     have:=gen n (Nat.le_refl _);rw[List.take_of_length_le (by rw[a1,a6];exact Nat.le_refl _)]at this
     exact this
   | st i =>
    split at q<;>try (cases q;done)
    all_goals (rename_i p d;try cases p)
    rename_i fs;rw[d]at u;obtain⟨fields,hu,hfs,_⟩:=u;split at q
    ·rename_i z hz;have hz2:=je q;obtain⟨xs,m,hm,a5,a1,a4,g⟩:=DataW.trod_struct hu h;cases hm;rw[a5]at y;have hBf:=hB.struct _ _ _ hu y;rw[<-hfs]at hz
     ·obtain⟨_,v,hv,hvk⟩:=Z8T hX F hE hR ih cs _ _ 0 z hz (fun f hf=>by
       obtain⟨j,hj,hfj⟩:=List.getElem_of_mem hf;have a7:j<fields.size:=by simpa using hj
       have:=g j f (by rw[Array.getElem?_eq_getElem a7];simpa using hfj)
       rw[List.getElem?_eq_getElem (by omega)]at this
       exact⟨_,hBf j f _ (by rw[Array.getElem?_eq_getElem a7];simpa using hfj) (by rw[List.getElem?_map,List.getElem?_eq_getElem (by omega)];rfl),this⟩)
      refine⟨F.make i v,?_,F.mk_ok lim i v hvk⟩;show Zc β G (X.T.dcells i (F.make i v)) cs;rw[F.mk_dl];rw[Nat.sub_zero,List.drop_zero,List.take_of_length_le (by rw[a1,a6,hz2,je hsz];exact Nat.le_refl _)]at hv
      exact hv
    ·cases q
theorem Zl0 (hB:Zf7 P X.code lim B) (hG:∀b o v,w.cell? ⟨b,o,none⟩=some v->G b o=some v) {t:TypeId} {c:Ty} {v:Value} {d:DataW H} {ps:List MemPlace} {r:Reach} {base:Nat} (hc:X.code t=some c) (g:Value.okWide P w r base t v) (q:B t d)
  (h:DataW.Trod enc P w 0 sp held t v d ps):∃x:Val S c,Rep β G (Yt X.T c x) v/\vok lim (F.ok lim) c x:=by
 obtain⟨fuel,h⟩:=h;obtain⟨x,p,y⟩:=Zkx (β:=β) hX F hE hR hB hG fuel t c _ _ hc q h;refine⟨x,?_,y⟩;have hr:=hR t c hc;unfold Zau at hr;cases ht:X.E.ty t with
 | none=>rw[ht]at hr;cases hr
 | some ti =>
  rw[ht]at hr;have j:=(hE t ti ht).desc;simp only[jn]at hr;obtain⟨_,m⟩:=hr;have one:∀{d:DV},(∀cs,v≠.agg cs)->Zc β G [d] v.cells.toList->Rep β G d v:=fun {d} hne h=>by
   have hcs:v.cells = #[v]:=by cases v<;>simp[Value.cells]at hne⊢
   rw[hcs]at h;unfold Zc at h;obtain⟨u,us,h3,z,_⟩:=h;cases h3;exact z
  cases c with
  | bool =>
   split at m<;>try (cases m;done)
   all_goals (rename_i f e;try cases f)
   rw[e]at j;obtain⟨b,rfl⟩:=WideShapes.okWide_bool j g;exact one (fun cs h=>by cases h) p
  | int k =>
   split at m<;>try (cases m;done)
   all_goals (rename_i f e;try cases f)
   rw[e]at j;obtain⟨n,rfl⟩:=WideShapes.okWide_int j g;exact one (fun cs h=>by cases h) p
  | str =>
   split at m<;>try (cases m;done)
   all_goals (rename_i f e;try cases f)
   rw[e]at j;obtain⟨s,rfl⟩:=WideShapes.okWide_string j g;exact one (fun cs h=>by cases h) p
  | sl c' =>
   split at m<;>try (cases m;done)
   all_goals (rename_i f e;try cases f)
   rw[e]at j;obtain⟨a,l,cp,rfl⟩:=WideShapes.okWide_slice j g;exact one (fun cs h=>by cases h) p
  | arr n c' =>
   split at m<;>try (cases m;done)
   all_goals (rename_i f e;try cases f)
   rw[e]at j;simp only[Value.okWide,j]at g;obtain⟨cs,rfl,_,_⟩:=g;show Rep β G (.agg (acl X.T c' n x)) _;unfold Rep;exact⟨cs.toList,by simp,p⟩
  | st i =>
   split at m<;>try (cases m;done)
   all_goals (rename_i f e;try cases f)
   rw[e]at j;obtain⟨fields,hu,_⟩:=j;obtain⟨cs,rfl,_⟩:=WideShapes.okWide_struct hu g;show Rep β G (.agg (X.T.dcells i x)) _;unfold Rep;exact⟨cs.toList,by simp,p⟩
theorem ZjO (k:Zf7 P X.code lim B) (i:∀b o v,w.cell? ⟨b,o,none⟩=some v->G b o=some v) {r:Reach} {base:Nat}:∀(ts:List TypeId) (cs:List Ty) (vs:List Value) (ds:List (DataW H)) (ps:List MemPlace),ts.map X.code=cs.map some →
  (∀(j:Nat) t v,ts[j]? = some t->vs[j]? = some v->Value.okWide P w r base t v)->(∀(j:Nat) t d,ts[j]? = some t->ds[j]? = some d->B t d)->DataW.TrodAll enc P w 0 sp held ts vs ds ps->∃x:Z5e S cs,Zc β G (Z2W X.T cs x) vs/\aok lim (F.ok lim) cs x
 | [],[],[],_,_,_,_,_,_=>⟨(),by show Zc β G [] [];unfold Zc;rfl,trivial⟩
 | [],[],_::_,[],_,_,_,_,h=>by cases h
 | [],[],_::_,_::_,_,_,_,_,h=>by cases h
 | [],_::_,_,_,_,h,_,_,_=>by simp at h
 | _::_,[],_,_,_,h,_,_,_=>by simp at h
 | _::_,_::_,[],_,_,_,_,_,h=>by cases h
 | _::_,_::_,_::_,[],_,_,_,_,h=>by cases h
 | t::ts,c::cs,v::vs,d::ds,ps,hm,hok,hBd,h=>by
  obtain⟨p,q,n,l,_⟩:=h;simp only[jr,List.cons.injEq]at hm;obtain⟨x,m,f⟩:=Zl0 hX F hE hR k i hm.1 (hok 0 t v rfl rfl) (hBd 0 t d rfl rfl) n;obtain⟨xs,g,e⟩:=ZjO k i ts cs vs ds q hm.2 (fun j t v a b=>hok (j+1) t v a b) (fun j t d a b=>hBd (j+1) t d a b) l;refine⟨(x,xs),?_,f,e⟩;show Zc β G (Yt X.T c x::Z2W X.T cs xs) (v::vs);unfold Zc;exact⟨v,vs,rfl,m,g⟩
end
end Go.Ab
namespace Go.Ab
def LeC (c c':Nat->List DV->Option DV):Prop:=∀g as r,c g as=some r->c' g as=some r
def LeH (c c':ZY):Prop:=∀g as o n r,c g as o n=some r->c' g as o n=some r
section
variable {E:Env} {c c':Nat->List DV->Option DV} {h h' y y':ZY} (hc:LeC c c') (hh:LeH h h') (hy:LeH y y')
include hc
theorem ZeS {nid:Nat} {ρ:Nat->Option DV} {ob:Nat->Option Z9} {op:Op} {r:Option Out} (a:Z4y E c nid ρ ob op=some r):Z4y E c' nid ρ ob op=some r:=by
 unfold Z4y at a⊢;split at a
 ·exact a
 ·rename_i cl hi;obtain⟨tgt,e,a⟩:=Z0 a;simp only[e,jm];cases hp:ZfU E tgt with
  | false=>rw[hp]at a;exact a
  | true =>
   rw[hp]at a;simp only[jB]at a⊢;obtain⟨q,b,a⟩:=Z0 a;unfold Z5q at b⊢;obtain⟨tg,g,b⟩:=Z0 b;simp only[g,jm];split at b
   ·obtain⟨fs,d,b⟩:=Z0 b;obtain⟨x,f,b⟩:=Z0 b;simp only[d,jm,hc _ _ _ f,b];exact a
   ·cases b
include hh hy
omit hc in
theorem ZiA {ob:Nat->Option Z9} {nx:Nat} {tgt:DV×List DV} {r:Out×List Nat×Nat} (a:YS h y ob nx tgt=some r):YS h' y' ob nx tgt=some r:=by
 unfold YS at a⊢;split at a
 ·unfold Z46 at a⊢;obtain⟨x,b,a⟩:=Z0 a;simp only[hh _ _ _ _ _ b,jm];exact a
 ·unfold Z46 at a⊢;obtain⟨x,b,a⟩:=Z0 a;simp only[hy _ _ _ _ _ b,jm];exact a
 ·cases a
theorem ZaL {V nt:Nat} {ops:Array Oper} {b:Nat}:∀(os:List Oper) (k:Nat) (m:Mid) (mf:Option DV×Mid),Z1O E c h y V nt ops b k os m=some mf->Z1O E c' h' y' V nt ops b k os m=some mf
 | [],_,_,_,a=>a
 | o::os,k,m,mf,a=>by
  simp only[Z1O]at a⊢;obtain⟨want,i,a⟩:=Z0 a;simp only[i,jm];cases want with
  | false=>exact ZaL os _ _ _ a
  | true =>
   simp only[jB]at a⊢;cases hp:Zej (ZQ V m.base m.loc) o.op with
   | some d=>rw[hp]at a;exact a
   | none =>
   rw[hp]at a;simp only at a⊢;obtain⟨so,e,a⟩:=Z0 a;simp only[ZeS hc e,jm];cases so with
   | some r=>exact ZaL os _ _ _ a
   | none =>
    simp only at a⊢;obtain⟨cl,f,a⟩:=Z0 a;obtain⟨tgt,g,a⟩:=Z0 a;obtain⟨m1,j,a⟩:=Z0 a;simp only[f,g,jm,ZiA hh hy j];cases hq:m1.1.val.bind Yd with
    | some d=>rw[hq]at a;exact a
    | none=>rw[hq]at a;exact ZaL os _ _ _ a
theorem Z9n {V nt:Nat} {ops:Array Oper} {b:Nat}:∀(os:List Oper) (k:Nat) (m mf:Mid) (ds:List (Nat×YK)),Z1c E c h y V nt ops b k os m ds=some mf->Z1c E c' h' y' V nt ops b k os m ds=some mf
 | [],_,_,_,_,a=>a
 | o::os,k,m,mf,ds,a=>by
  simp only[Z1c]at a⊢;obtain⟨f,a⟩:=Z1 a;refine(Z2B f).trans ?_;obtain⟨want,j,a⟩:=Z0 a;simp only[j,jm];cases want with
  | false=>exact Z9n os _ _ _ _ a
  | true =>
   simp only[jB]at a⊢;obtain⟨so,e,a⟩:=Z0 a;simp only[ZeS hc e,jm];cases so with
   | some r =>
    simp only at a⊢;obtain⟨d,a⟩:=Z1 a;rw[d];exact Z9n os _ _ _ _ a
   | none =>
    simp only at a⊢;obtain⟨cl,d,a⟩:=Z0 a;obtain⟨tgt,i,a⟩:=Z0 a;obtain⟨m1,l,a⟩:=Z0 a;simp only[d,i,jm,ZiA hh hy l];obtain⟨g,a⟩:=Z1 a;refine(Z2B g).trans ?_;exact Z9n os _ _ _ _ a
theorem ZhT {V nt:Nat} {ops:Array Oper} {draw:Bool} {s:St} {s':Option DV×St} (b:Z2F E c h y V nt ops draw s=some s'):Z2F E c' h' y' V nt ops draw s=some s':=by
 unfold Z2F at b⊢;obtain⟨m,a,d⟩:=Z0 b;clear b;cases draw with
 | true =>
  simp only[jB]at a⊢;obtain⟨q,e,f⟩:=Z0 a;cases f;rw[Z9n hc hh hy _ _ _ _ _ e];exact d
 | false =>
  simp only[jA]at a⊢;rw[ZaL hc hh hy _ _ _ _ a];exact d
omit hc hh hy in
theorem ZgJ {nrm:St->Option St} {st st':St->Option (Ex×St)} (a:∀s r,st s=some r->st' s=some r):∀(n n':Nat) (s:St) (r:Ex×St),n<=n'->iter nrm st n s=some r->iter nrm st' n' s=some r
 | 0,_,_,_,_,h=>by cases h
 | n+1,0,_,_,hle,_=>by omega
 | n+1,n'+1,s,r,hle,h=>by
  simp only[iter]at h⊢;obtain⟨s1,c,h⟩:=Z0 h;obtain⟨q,b,h⟩:=Z0 h;simp only[c,jm,a _ _ b];obtain⟨ex,s2⟩:=q;cases ex with
  | normal=>exact ZgJ a n n' s2 r (by omega) h
  | _=>exact h
theorem Z18 {rnd:Option Nat} {fid:Nat} {F:FI} {f f':Nat} (i:f<=f'):∀(cd:Code) (bid:Nat) (s:St) (r:Ex×St),evC E rnd fid F c h y f bid cd s=some r->evC E rnd fid F c' h' y' f' bid cd s=some r
 | .skip,_,_,_,e=>e
 | .label _,_,_,_,e=>e
 | .ret,_,_,_,e=>e
 | .exit _,_,_,_,e=>e
 | .goto _,_,_,_,e=>e
 | .refuse _,_,_,_,e=>e
 | .region _ ops dr,bid,s,r,e=>by
  simp only[evC]at e⊢;obtain⟨s1,g,e⟩:=Z0 e;rw[ZhT hc hh hy g];exact e
 | .seq a b,bid,s,r,e=>by
  simp only[evC]at e⊢;obtain⟨q,g,e⟩:=Z0 e;simp only[Z18 i a _ _ _ g,jm];obtain⟨ex,s2⟩:=q;cases ex with
  | normal=>exact Z18 i b _ _ _ e
  | _=>exact e
 | .cond x a b,bid,s,r,e=>by
  simp only[evC]at e⊢;cases ho:ZS s.base.get x with
  | none=>rw[ho]at e;cases e
  | some d =>
   rw[ho]at e;cases d<;>simp only[reduceCtorEq]at e;rename_i t;simp only;cases t with
   | true=>exact Z18 i a _ _ _ e
   | false=>exact Z18 i b _ _ _ e
 | .block id a,bid,s,r,e=>by
  simp only[evC]at e⊢;obtain⟨q,g,e⟩:=Z0 e;simp only[Z18 i a _ _ _ g,jm];exact e
 | .loop a,bid,s,r,e=>by
  simp only[evC]at e⊢;split at e
  ·rename_i p j
   try rw[j]
   exact e
  rename_i j
  try rw[j]
  obtain⟨k,g,e⟩:=Z0 e;simp only[g,jm];exact ZgJ (fun s r h=>Z18 i a _ s r h) _ _ _ _ i e
 | .scope a,bid,s,r,e=>by
  simp only[evC]at e⊢;exact Z18 i a _ _ _ e
 | .rangeFunc fo ps as bo,bid,s,r,e=>by
  simp only[evC]at e⊢;obtain⟨m,e⟩:=Z1 e;rw[m];simp only[jB];obtain⟨s1,g,e⟩:=Z0 e;refine(congrArg (fun z=>Option.bind z _) g).trans ?_;simp only[jm];obtain⟨fv,l,e⟩:=Z0 e;rw[l];simp only[jm];split at e
  ·obtain⟨x,n,e⟩:=Z0 e;simp only[hh _ _ _ _ _ n,jm];exact e
  ·cases e
end
theorem Zdt {E:Env} {h h':ZY} (hh:LeH h h'):LeH (Z45 E h) (Z45 E h'):=fun g as o nx r a=>by
 unfold Z45 at a⊢;obtain⟨F,c,a⟩:=Z0 a;simp only[c,jm];cases hc:F.can with
 | false=>rw[hc]at a;exact hh _ _ _ _ _ a
 | true =>
  rw[hc]at a;simp only[jB]at a⊢;obtain⟨d,a⟩:=Z1 a;obtain⟨x,b,a⟩:=Z0 a;rw[d];simp only[jB];rw[hh _ _ _ _ _ b];exact a
theorem Zca {E:Env} {c c':Nat->List DV->Option DV} {h h' y y':ZY} (hc:LeC c c') (hh:LeH h h') (hy:LeH y y') {n n':Nat} (g:n<=n') {fid:Nat} {F:FI}:∀(cd:Code) (s:St) (r:Ex×St×List (Nat×List DV)),evB E fid F c h y n cd s=some r->evB E fid F c' h' y' n' cd s=some r
 | .seq a b,s,r,d=>by
  simp only[evB]at d⊢;obtain⟨q,e,d⟩:=Z0 d;simp only[Zca hc hh hy g a _ _ e,jm];obtain⟨ex,s2,cl⟩:=q;cases ex with
  | normal =>
   cases cl with
   | nil=>exact Zca hc hh hy g b _ _ d
   | cons x xs =>
    simp only at d⊢;obtain⟨q2,j,d⟩:=Z0 d;simp only[Z18 hc hh hy g _ _ _ _ j,jm];exact d
  | _=>exact d
 | .region rid ops dr,s,r,d=>by
  simp only[evB]at d⊢;split at d
  ·rename_i pre o f i
   try rw[i]
   try simp only
   cases dr with
   | true=>cases d
   | false =>
    simp only[jA]at d⊢;obtain⟨q,e,d⟩:=Z0 d;rw[ZaL hc hh hy _ _ _ _ e];exact d
  ·rename_i i
   try rw[i]
   try simp only
   obtain⟨q,e,d⟩:=Z0 d;simp only[Z18 hc hh hy g _ _ _ _ e,jm];exact d
 | .skip,s,r,d | .label _,s,r,d | .ret,s,r,d | .exit _,s,r,d | .goto _,s,r,d | .refuse _,s,r,d | .cond _ _ _,s,r,d | .block _ _,s,r,d | .loop _,s,r,d | .scope _,s,r,d | .rangeFunc _ _ _ _,s,r,d=>by
  simp only[evB]at d⊢;obtain⟨q,e,d⟩:=Z0 d;simp only[Z18 hc hh hy g _ _ _ _ e,jm];exact d
theorem Zli {E:Env} {c c':Nat->List DV->Option DV} {h h' y y':ZY} (hc:LeC c c') (hh:LeH h h') (hy:LeH y y') {n n':Nat} (f:n<=n') {g:Nat} {caps:List DV} {d:DV} {o:Tr Z9} {nx:Nat} {r:Tr Z9×Nat} (a:Z3O E c h y n g caps d o nx=some r):Z3O E c' h' y' n' g caps d o nx=some r:=by
 unfold Z3O at a⊢;obtain⟨F,j,a⟩:=Z0 a;obtain⟨b,a⟩:=Z1 a;simp only[j,b,jm,jB];split at a
 ·rename_i rid ops rest l;obtain⟨t,e,a⟩:=Z0 a;obtain⟨i,a⟩:=Z1 a;obtain⟨q,k,a⟩:=Z0 a;rw[e];simp only[jm];refine(Z2B i).trans ?_;simp only[Z18 hc hh hy f _ _ _ _ k,jm];exact a
 ·cases a
theorem Zh7 {E:Env} {c c':Nat->List DV->Option DV} {h h' y y':ZY} (hc:LeC c c') (hh:LeH h h') (hy:LeH y y') {n n':Nat} (e:n<=n'):LeH (Z9j E c h y n) (Z9j E c' h' y' n'):=fun g as o nx r a=>by
 unfold Z9j at a⊢;obtain⟨F,j,a⟩:=Z0 a;obtain⟨f,a⟩:=Z1 a;simp only[j,jm,f,jB];cases hf:F.dfs with
 | false =>
  rw[hf]at a;simp only[jA]at a⊢;obtain⟨q,b,a⟩:=Z0 a;simp only[Z18 hc hh hy e _ _ _ _ b,jm];exact a
 | true =>
  rw[hf]at a;simp only[jB]at a⊢;obtain⟨⟨ex,s,cl⟩,b,a⟩:=Z0 a;simp only[Zca hc hh hy e _ _ _ b,jm];cases ex with
  | pan =>
   match cl,a with
   | [],a=>exact a
   | [(g1,caps)],a =>
    simp only at a⊢;obtain⟨d,i,a⟩:=Z0 a;obtain⟨q,k,a⟩:=Z0 a;simp only[i,Zli hc hh hy e k,jm];exact a
   | _::_::_,a=>cases a
  | _=>exact a
theorem Zh8 {E:Env} {c c':Nat->List DV->Option DV} {h h' y y':ZY} (hc:LeC c c') (hh:LeH h h') (hy:LeH y y') {n n':Nat} (d:n<=n'):LeH (ZhW E c h y n) (ZhW E c' h' y' n'):=fun l as o nx r a=>by
 unfold ZhW at a⊢;split at a
 ·rename_i fid base ps assign body bid e
  try rw[e]
  try simp only
  obtain⟨F,j,a⟩:=Z0 a;obtain⟨b,f,a⟩:=Z0 a;obtain⟨q,g,a⟩:=Z0 a;simp only[j,f,jm,Z18 hc hh hy d _ _ _ _ g];split at a
  ·obtain⟨q2,i,a⟩:=Z0 a;simp only[Z18 hc hh hy d _ _ _ _ i,jm];exact a
  ·cases a
 ·cases a
theorem Zhd (E:Env) {r r':ZY} (h:LeH r r'):LeH (fun g as o nx=>Z38 E g r g as o nx) (fun g as o nx=>Z38 E g r' g as o nx):=fun g as o nx x a=>by
 simp only[Z38]at a⊢;cases hL:E.leaf g with
 | some L=>rw[hL]at a;exact a
 | none =>
  rw[hL]at a;cases hc:E.cc g with
  | some t=>rw[hc]at a;exact a
  | none =>
   rw[hc]at a;cases hcl:E.cln g with
   | some e=>rw[hcl]at a;exact a
   | none =>
    rw[hcl]at a;cases hs:E.srt g with
    | some e=>rw[hs]at a;exact a
    | none=>rw[hs]at a;exact h g as o nx x a
theorem ZkL (E:Env):∀n,LeH (evX E n false) (evX E (n+1) false)/\LeH (evX E n true) (evX E (n+1) true)
 | 0=>⟨fun _ _ _ _ _ h=>by simp[evX]at h,fun _ _ _ _ _ h=>by simp[evX]at h⟩
 | n+1=>by
  obtain⟨i1,i2⟩:=ZkL E n;have ic:LeC (fun g as=>(evX E n false g as .leaf 0).bind fun x=>frz x.2.1.get x.1) (fun g as=>(evX E (n+1) false g as .leaf 0).bind fun x=>frz x.2.1.get x.1):=fun g as r h=>by
   obtain⟨x,b,a⟩:=Z0 h;simp only[i1 _ _ _ _ _ b,jm];exact a
  constructor
  ·exact Zhd E (Zdt (Zh7 ic i1 i2 (Nat.le_succ n)))
  ·exact Zh8 (E:=E) ic i1 i2 (Nat.le_succ n)
theorem ZaZ (E:Env) (n:Nat):∀M,LeH (evX E n false) (evX E (n+M) false)/\LeH (evX E n true) (evX E (n+M) true)
 | 0=>⟨fun _ _ _ _ _ h=>h,fun _ _ _ _ _ h=>h⟩
 | M+1=>⟨fun g as o nx r h=>(ZkL E (n+M)).1 _ _ _ _ _ ((ZaZ E n M).1 _ _ _ _ _ h),fun g as o nx r h=>(ZkL E (n+M)).2 _ _ _ _ _ ((ZaZ E n M).2 _ _ _ _ _ h)⟩
theorem Z9T (E:Env) {n m:Nat} (h:n<=m):LeC (evF E n) (evF E m):=fun g as r a=>by
 obtain⟨M,rfl⟩:=Nat.exists_eq_add_of_le h;unfold evF at a⊢;obtain⟨x,c,b⟩:=Z0 a;rw[(ZaZ E n M).1 _ _ _ _ _ c];exact b
theorem ZkX {E:Env} {c:Nat->List DV->Option DV} {M:Nat} (hc:LeC c (evF E M)):∀n,LeH (Zck E c n false) (evX E (n+M) false)/\LeH (Zck E c n true) (evX E (n+M) true)
 | 0=>⟨fun _ _ _ _ _ h=>by simp[Zck]at h,fun _ _ _ _ _ h=>by simp[Zck]at h⟩
 | n+1=>by
  obtain⟨i1,i2⟩:=ZkX hc n;have ic:LeC c (fun g as=>(evX E (n+M) false g as .leaf 0).bind fun x=>frz x.2.1.get x.1):=fun g as r h=>Z9T E (Nat.le_add_left M n) g as r (hc g as r h);rw[show n+1+M=(n+M)+1 by omega]
  exact⟨Zhd E (Zdt (Zh7 ic i1 i2 (Nat.le_add_right n M))),Zh8 (E:=E) ic i1 i2 (Nat.le_add_right n M)⟩
def ZH (E:Env) (e:Nat×List DV×DV):Prop:=∃N,evF E N e.1 e.2.1=some e.2.2
theorem Zak {E:Env}:∀{l:List (Nat×List DV×DV)},(∀e∈l,ZH E e)->∃N,LeC (ZiV l) (evF E N)
 | [],_=>⟨0,fun _ _ _ h=>by cases h⟩
 | (f,xs,d)::l,hl=>by
  obtain⟨N,j⟩:=Zak (l:=l) fun e a=>hl e (by simp[a])
  obtain⟨M,i⟩:=hl (f,xs,d) (by simp)
  refine⟨N+M,fun g as r h=>?_⟩;simp only[ZiV]at h;cases hq:Nat.beq f g&&Z8P xs as with
  | true =>
   rw[hq]at h;cases h;simp only[jn]at hq;have c:=je hq.1;have b:=Z7c _ _ hq.2;subst c b;exact Z9T E (Nat.le_add_left M N) _ _ _ i
  | false =>
   rw[hq]at h;exact Z9T E (Nat.le_add_right N M) _ _ _ (j _ _ _ h)
theorem Zgl {E:Env} {l:List (Nat×List DV×DV)} (c:∀e∈l,ZH E e) {n f:Nat} {as:List DV} {d:DV} (h:Zlq E l n f as=some d):ZH E (f,as,d):=by
 obtain⟨N,j⟩:=Zak c;have hc:LeC (Zjv E l n) (evF E (N+n)):=fun g as r a=>by
  unfold Zjv at a;cases hq:l.any fun e=>Nat.beq e.1 g with
  | true=>rw[hq]at a;exact Z9T E (Nat.le_add_right N n) _ _ _ (j _ _ _ a)
  | false=>rw[hq]at a;exact Z9T E (Nat.le_add_left n N) _ _ _ a
 refine⟨n+(N+n),?_⟩;unfold Zlq ZgW at h;obtain⟨x,i,b⟩:=Z0 h;unfold evF;rw[(ZkX hc n).1 _ _ _ _ _ i];exact b
theorem Zk2 {E:Env} {n f:Nat} {as:List DV} {d:DV} (h:evF E n f as=some d):Evt fun m=>evF E m f as=some d:=by
 have step:∀m,evF E m f as=some d->evF E (m+1) f as=some d:=fun m a=>by
  unfold evF at a⊢;obtain⟨x,c,b⟩:=Z0 a;rw[(ZkL E m).1 _ _ _ _ _ c];exact b
 refine⟨n,fun m a=>?_⟩
 induction m with
 | zero =>
  have:n=0:=by omega
  subst this;exact h
 | succ m ih =>
  by_cases e:n=m+1
  ·subst e;exact h
  ·exact step m (ih (by omega))
theorem Ziw {S:Nat->Type} {X:Y2 S} {g:Nat} {F:Option Bool} (c:F=some true) (h:ZH X.E (g,[],.bool true)):Z6c X g ⟨[],[.bool],fun _=>F⟩:=fun xs r hr=>by
 have a:(some true:Option Bool)=some r:=by rw[<-c];exact hr
 cases a;obtain⟨N,b⟩:=h;exact Zk2 b
end Go.Ab
