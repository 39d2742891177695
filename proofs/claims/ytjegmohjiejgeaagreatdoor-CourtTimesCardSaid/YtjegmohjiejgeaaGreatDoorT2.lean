/- The same on typed values. -/
import Derived.Test.YtjegmohjiejgeaaGreatDoorT1
import Derived.WalkKit
import Derived.ProofKit
import Derived.OpenShut
import Derived.Below
import Derived.ChangeSame
import Derived.ReadAgain
import Derived.WideShapes
import Derived.Test.YtjegmohjiejgeaaGreatDoorA3
set_option linter.unusedSectionVars false
set_option linter.unusedVariables false
set_option linter.unusedSimpArgs false
namespace Go.Ab
variable {S:Nat->Type} {R:Type}
def Zhw (nrm:St->Option St) (step:St->Option (Ex×St)) (m:Nat) (s:St):Option (Ex×St):=(step s).bind fun r=>match r.1 with
 | .normal=>iter nrm step m r.2
 | _=>some r
def LTo (E:Env) (key:Key) (F:FI) (c:Code) (hint:Z3K) (s:St) (ex:Ex) (s':St):Prop :=
 ∃N,∀n m,N<=n->N<=m->Zhw (Zdr E hint key.n0) (evC E key.rnd key.fid F (evF E n) (evX E n false) (evX E n true) n key.bid c) m s=some (ex,s')
def Z4b (X:Ye S) (ls:Z2G S R):Prop:=∀key s k r,ls key s k=some r->WfO X.E s.objs->∀F c hint,X.E.fn key.fid=some F->Code.sub F.body key.pos=some c->(F.hints.find? fun h=>Nat.beq h.bid key.bid)=some hint →
 ∃ex s',LTo X.E key F c hint (ZI X.T s) ex (ZI X.T s')/\WfO X.E s'.objs/\k ex s'=some r
theorem Zc7 (T:TS S) (vs:List (TV S)):Z72 (dvl T vs)=dv T (Z5b vs):=by
 cases vs with
 | nil=>simp[Z72,Z5b,dvl,dv]
 | cons v vs =>
  cases vs with
  | nil=>simp[Z72,Z5b,dvl]
  | cons w vs=>simp[Z72,Z5b,dvl,dv]
theorem Z4c (T:TS S) (V:Nat):∀(vs:List (TV S)) (k:Nat) (b:Tr (TV S)),Z2a V k (dvl T vs) (b.mapv (dv T))=(Z1k V k vs b).mapv (dv T)
 | [],k,b=>by simp[Z2a,Z1k,dvl]
 | v::vs,k,b=>by
  simp only[dvl,Z2a,Z1k];cases Nat.testBit V k with
  | true=>simp only[jB];rw[<-Z4c T V vs,Y6];rfl
  | false=>simp only[jA];exact Z4c T V vs _ _
theorem Z4B (T:TS S) (V nt:Nat):∀(ps:List Nat) (vs:List (TV S)) (b:Tr (TV S)),YS V nt ps (dvl T vs) (b.mapv (dv T))=(Z1x V nt ps vs b).map (Tr.mapv (dv T))
 | [],[],b=>by simp[YS,Z1x,dvl]
 | [],_::_,b=>by simp[YS,Z1x,dvl]
 | _::_,[],b=>by simp[YS,Z1x,dvl]
 | p::ps,v::vs,b=>by
  simp only[dvl,YS,Z1x];cases Nat.blt p nt with
  | false=>rfl
  | true =>
   simp only[jB];cases Nat.testBit V p with
   | true =>
    simp only[jB];rw[<-Z4B T V nt ps vs,Y6];rfl
   | false=>simp only[jA];exact Z4B T V nt ps vs b
theorem Z5T (T:TS S) (o:Tr (Zk S)):(o.mapv (dvO T)).get=dvh T o.get:=funext fun i=>ZP _ _ _
theorem ZfK (T:TS S) (o:Tr (TV S)):(o.mapv (dv T)).get=dvr T o.get:=funext fun i=>ZP _ _ _
section
variable {X:Ye S} (hX:XOk X)
include hX
theorem Z8U {base:Nat->Option (TV S)} {h:Nat->Option (Zk S)}:∀{rs:List ResultVar} {k:List (TV S)->Option R} {r:R},Zf1 X base h rs k=some r->∃vs,Z4w X.E (dvr X.T base) (dvh X.T h) rs=some (dvl X.T vs)/\k vs=some r
 | [],k,r,hr=>⟨[],by simp[Z4w,dvl],hr⟩
 | .tmp t::rs,k,r,hr=>by
  simp only[Zf1]at hr;obtain⟨v,e,hr⟩:=Z0 hr;obtain⟨vs,b,c⟩:=Z8U hr;refine⟨v::vs,?_,c⟩;simp only[Z4w,dvr,e,jq,jm];rw[b];simp[dvl]
 | .cell a t::rs,k,r,hr=>by
  simp only[Zf1]at hr;obtain⟨ti,e,hr⟩:=Z0 hr;obtain⟨av,b,hr⟩:=Z0 hr;obtain⟨o,c,_,hr⟩:=Zdk hX hr;obtain⟨v,j,hr⟩:=Z0 hr;obtain⟨vs,m,g⟩:=Z8U hr;obtain⟨d,l,f⟩:=Z0 c;have i:d=dv X.T v:=by
   have:(ret d)=some (ZY X.T o):=f;simp only[ret,ZY,j,jq,jh,Out.mk.injEq]at this;exact this.1
  refine⟨v::vs,?_,g⟩;simp only[Z4w,e,jm,dvr,b,jq];rw[l];simp only[jm];rw[m,i];simp[dvl]
end
theorem ZfG (T:TS S) (m:Nat) (s:StT S):(ZI T s).keep m=ZI T (s.keep m):=by
 simp only[St.keep,StT.keep,ZI,Z7J]
theorem Z9A (T:TS S) (F:FI) (id:Nat) (s:StT S):(ZI T s).keepX F id=ZI T (s.keepX F id):=by
 unfold St.keepX StT.keepX;cases F.xm.find? fun p=>Nat.beq p.1 id with
 | none=>rfl
 | some p=>exact ZfG T p.2 s
section
variable {X:Ye S} (hX:XOk X) {cs:Z3L S R} (hcs:Z8J X cs) {ls:Z2G S R} (hls:Z4b X ls)
include hX hcs hls
omit hX hcs hls in
theorem Zbo {E:Env} {f:Nat} (h:Ze6 E f=false) (run:Yb):Z47 E f run=run:=by
 unfold Ze6 at h;simp only[Bool.or_eq_false_iff,Option.isSome_eq_false_iff,Option.isNone_iff_eq_none]at h;funext g as o nx;unfold Z47;rw[h.1,h.2.1,h.2.2.1,h.2.2.2]
omit hX hcs hls in
theorem Zdx {T:TS S} (hT:TOk T) (t id:Nat) (s:StT S):ZfP (ZI T s) t id=ZI T (Z7S s t id):=by
 unfold ZfP Z7S;simp only[ZI,ZP];cases ho:s.objs.get id with
 | none=>rfl
 | some x =>
  cases x with
  | cells ct cs =>
   simp only[jq,dvO,Z3v hT];cases Yo cs with
   | true=>simp only[jB,Y6,dv,jq,jp]
   | false=>rfl
  | _=>rfl
omit hX hcs hls in
theorem ZeQ {T:TS S} (hT:TOk T) (t:Nat) (s:StT S):pubSlot (ZI T s) t=ZI T (Z5f s t):=by
 unfold pubSlot Z5f;have a:(ZI T s).base.get t=(s.base.get t).map (dv T):=by simp only[ZI,ZP]
 rw[a];cases hb:s.base.get t with
 | none=>rfl
 | some v =>
  cases v with
  | ptr id o =>
   simp only[jq,dv];cases Nat.beq o 0 with
   | true=>exact Zdx hT t id s
   | false=>rfl
  | ap id b i e o =>
   simp only[jq,dv];cases Nat.beq (b+i*e+o) 0 with
   | true=>exact Zdx hT t id s
   | false=>rfl
  | _=>rfl
omit hX hcs hls in
theorem Z7Q {T:TS S} (hT:TOk T) {rid:Nat}:∀(ps:List (Nat×Nat)) (s:StT S),pubAll rid ps (ZI T s)=ZI T (Z5E rid ps s)
 | [],_=>rfl
 | (r,t)::ps,s=>by
  unfold pubAll Z5E;cases Nat.beq r rid with
  | false=>exact Z7Q hT ps s
  | true=>simp only[jB,ZeQ hT];exact Z7Q hT ps _
omit hX hcs hls in
theorem Zdy {E:Env} {s:StT S} (t id:Nat) (h:WfO E s.objs):WfO E (Z7S s t id).objs:=by
 unfold Z7S;split
 ·rename_i ct cs _;cases Yo cs with
  | true=>exact h.set trivial
  | false=>exact h
 ·exact h
omit hX hcs hls in
theorem ZeR {E:Env} {s:StT S} (t:Nat) (h:WfO E s.objs):WfO E (Z5f s t).objs:=by
 unfold Z5f;split
 ·rename_i id o _;cases Nat.beq o 0 with
  | true=>exact Zdy t id h
  | false=>exact h
 ·rename_i id b i e o _;cases Nat.beq (b+i*e+o) 0 with
  | true=>exact Zdy t id h
  | false=>exact h
 ·exact h
omit hX hcs hls in
theorem Z7R {E:Env} {rid:Nat}:∀(ps:List (Nat×Nat)) {s:StT S},WfO E s.objs->WfO E (Z5E rid ps s).objs
 | [],_,h=>h
 | (r,t)::ps,s,h=>by
  unfold Z5E;cases Nat.beq r rid with
  | false=>exact Z7R ps h
  | true=>exact Z7R ps (ZeR t h)
omit hX hcs hls in
theorem ZbB (T:TS S):∀(ts:List Nat) (b:Tr (TV S)),Z9a ts (b.mapv (dv T))=(ZcM ts b).mapv (dv T)
 | [],_=>rfl
 | t::ts,b=>by
  unfold Z9a ZcM;rw[<-ZbB T ts,Y6];rfl
omit hX hcs hls in
theorem Zdi (T:TS S) (et:Ty):∀m:List (Val S (.int .i64)×Val S et),Z6W (m.map fun p=>(Yr T (.int .i64) p.1,Yr T et p.2))=some (m.map fun p=>p.1)
 | []=>rfl
 | p::m=>by
  show(Z6W (m.map fun p=>(Yr T (.int .i64) p.1,Yr T et p.2))).bind (fun l=>some ((p.1:Int)::l))=_;rw[Zdi T et m];rfl
omit hX hcs hls in
theorem ZfH (T:TS S):∀{kt et:Ty} {m:List (Val S kt×Val S et)} {l:List Int},Zhy kt et m=some l->Z6W (m.map fun p=>(Yr T kt p.1,Yr T et p.2))=some l
 | kt,et,m,l,h=>by
  unfold Zhy at h;split at h
  ·cases h;exact Zdi T _ _
  ·cases h
omit hcs hls in
theorem Zjv {F:FI} {bid:Nat} {p:Nat×Nat×TypeId×Nat} {c:Code} {s:StT S} {kk:Ex->StT S->Option R} {r:R} (h:ZbY X F bid p c s kk=some r) (f:WfO X.E s.objs) :
  ∃s1,Z7L X.E F bid p c (ZI X.T s)=some (.exit bid,ZI X.T s1)/\WfO X.E s1.objs/\kk (.exit bid) s1=some r:=by
 unfold ZbY at h;split at h
 ·rename_i k d b;split at h
  ·rename_i m n v;split at h
   ·rename_i kt et es w;obtain⟨q,t,h⟩:=Z0 h;obtain⟨ti,g,h⟩:=Z0 h;split at h
    ·rename_i e j;obtain⟨ei,i,h⟩:=Z0 h;split at h
     ·rename_i a;obtain⟨l,o,h⟩:=Z0 h;obtain⟨u,h⟩:=Z3 h;have e1:(ZI X.T s).base.get p.1=some (.iter k):=by simp only[ZI,ZP,d,jq,dv]
      have e2:(ZI X.T s).base.get p.2.1=some .nils:=by simp only[ZI,ZP,b,jq,dv]
      have e3:(ZI X.T s).objs.get k=some (.mit m n []):=by simp only[ZI,ZP,v,jq,dvO]
      have e4:(ZI X.T s).objs.get m=some (.map (es.map fun p=>(Yr X.T kt p.1,Yr X.T et p.2))):=by simp only[ZI,ZP,w,jq,dvO]
      cases hn:Nat.beq n 0 with
      | true =>
       rw[hn]at h;refine⟨_,?_,?_,h⟩
       ·unfold Z7L;simp only[e1,e2,e3,e4,t,jm,g,j,i,a,ZfH X.T o,List.length_map,u,jB,hn];rw[<-Z9A];simp only[ZI,Y6,jq,jp,dv,<-ZbB]
       ·have:∀s':StT S,(s'.keepX F bid).objs=s'.objs:=fun s'=>by unfold StT.keepX;cases F.xm.find? fun p=>Nat.beq p.1 bid<;>rfl
        rw[this];exact f.set (x:=none) trivial
      | false =>
       rw[hn]at h;refine⟨_,?_,?_,h⟩
       ·unfold Z7L;simp only[e1,e2,e3,e4,t,jm,g,j,i,a,ZfH X.T o,List.length_map,u,jB,hn,jA];rw[<-Z9A];simp only[ZI,Y6,jq,jp,dv,dvO,<-ZbB];rfl
       ·have:∀s':StT S,(s'.keepX F bid).objs=s'.objs:=fun s'=>by unfold StT.keepX;cases F.xm.find? fun p=>Nat.beq p.1 bid<;>rfl
        rw[this];exact(f.set (x:=none) trivial).set (x:=some (.bag _ _ _ _)) trivial
     ·cases h
    ·cases h
   ·cases h
  ·cases h
 ·cases h
omit hX hcs hls in
theorem ZaS:∀xs:List Int,Z9x (xs.map fun n=>[DV.int .i64 n])=some xs
 | []=>rfl
 | n::xs=>by simp only[jr,Z9x,ZaS xs,jm]
omit hX hcs hls in
theorem Zi8 {o:Tr Zb} {id e e' u v nx:Nat} {ys:List Int} (a:o.get id=some (.bag e' (ys.map fun n=>[DV.int .i64 n]) u)) (h:(Nat.beq e' e&&Nat.beq u v&&Nat.ble ys.length 1000000)=true) :
  ZgR e [.rs id v] o nx=some (.tup [],o.set id (some (.row e ((Z3n ys).map fun n=>[.int .i64 n]) 0 u)),nx):=by
 simp only[ZgR,a,List.length_map,h,jB,ZaS,jm]
omit hcs hls in
theorem Zie {g:Nat} {as:List (TV S)} {o:Tr (Zk S)} {nx:Nat} {k:TV S->Tr (Zk S)->Nat->Option R} {r:R} (h:Zid X g as o nx k=some r) (d:WfO X.E o) :
  ∃v o' nx',(∀run:Yb,Z47 X.E g run g (dvl X.T as) (o.mapv (dvO X.T)) nx=some (dv X.T v,o'.mapv (dvO X.T),nx'))/\WfO X.E o'/\k v o' nx'=some r:=by
 unfold Zid at h;split at h
 ·rename_i e c hc a;unfold clnT at h;split at h
  ·rename_i x;obtain⟨ei,j,h⟩:=Z0 h;obtain⟨te,m,h⟩:=Z0 h;obtain⟨xs,n,h⟩:=Z0 h;obtain⟨b,h⟩:=Z3 h;have f:=(hX.code e te ei m j).1;refine⟨_,_,_,fun run=>?_,d.set (x:=some (.row _ _ _ _ _)) trivial,h⟩;simp only[jn]at b;simp only[Z47,c,hc,a,dvl,Zis,Z5T,Z5t n,jm,j,Z2r hX f.symm,List.length_map,b.1,b.2,ju,jB,Y6,dv,dvO,jq]
  ·cases h
 ·rename_i e c hc a i;unfold srtT at h;split at h
  ·refine⟨_,_,_,fun run=>?_,d,h⟩;simp only[Z47,c,hc,a,i,dvl,dv,dvs,ZgR]
  ·rename_i id v;split at h
   ·rename_i e' t xs u l;obtain⟨b,h⟩:=Z3 h;split at h
    ·rename_i q;subst q;refine⟨_,_,_,fun run=>?_,d.set (x:=some (.row _ _ _ _ _)) trivial,h⟩;simp only[Z47,c,hc,a,i,dvl,dv];rw[Zi8 (ys:=xs) (by rw[ZP,l];rfl) b,Y6]
     rfl
    ·cases h
   ·cases h
  ·cases h
 ·cases h
theorem YX {callH callY:Z2z S R} (hH:Z2A X false callH) (hY:Z2A X true callY) {path:List Nat} {rnd:Option Nat} {fid:Nat} {F:FI} (hF:X.E.fn fid=some F) :
  ∀(c:Code) (pos:List Nat) (bid:Nat) (s:StT S) (k:Ex->StT S->Option R) (r:R),Z1l X cs ls rnd fid F callH callY path pos bid c s k=some r->Code.sub F.body pos=some c->WfO X.E s.objs →
   ∃ex s',Evt (fun n=>evC X.E rnd fid F (evF X.E n) (evX X.E n false) (evX X.E n true) n bid c (ZI X.T s)=some (ex,ZI X.T s'))/\WfO X.E s'.objs/\k ex s'=some r
 | .skip,pos,bid,s,k,r,h,_,hw=>⟨.normal,s,Evt.of fun _=>rfl,hw,h⟩
 | .region id ops draw,pos,bid,s,k,r,h,_,hw=>by
  simp only[Z1l]at h;obtain⟨s',a,e,b⟩:=Zf0 hX hcs (df:=rnd.isNone) hH hY h (Z7R F.pubs hw);refine⟨.normal,s',a.mono fun n d=>?_,e,b⟩;rw[<-Z7Q hX.t]at d;simp only[evC,d,jm]
 | .seq x y,pos,bid,s,k,r,h,hp,hw=>by
  simp only[Z1l]at h;have w:Code.sub F.body (0::pos)=some x:=by simp only[Code.sub,hp,jm,Code.kid]
  have hy:Code.sub F.body (1::pos)=some y:=by simp only[Code.sub,hp,jm,Code.kid]
  obtain⟨ex,s1,a,e,b⟩:=YX hH hY hF x _ bid s _ r h w hw;cases ex with
  | normal =>
   simp only at b;obtain⟨ex',s2,h4,h5,o⟩:=YX hH hY hF y _ bid s1 k r b hy e;refine⟨ex',s2,(a.and h4).mono fun n d=>?_,h5,o⟩;simp only[evC,d.1,jm];exact d.2
  | _ =>
   simp only at b;refine⟨_,s1,a.mono fun n d=>?_,e,b⟩;simp only[evC,d,jm]
 | .cond c x y,pos,bid,s,k,r,h,hp,hw=>by
  simp only[Z1l]at h;have w:Code.sub F.body (0::pos)=some x:=by simp only[Code.sub,hp,jm,Code.kid]
  have hy:Code.sub F.body (1::pos)=some y:=by simp only[Code.sub,hp,jm,Code.kid]
  cases ho:ZR s.base.get c with
  | none=>rw[ho]at h;cases h
  | some v =>
   rw[ho]at h;cases v<;>simp only[reduceCtorEq]at h;rename_i t;have u:ZU (ZI X.T s).base.get c=some (.bool t):=by
    show ZU (s.base.mapv (dv X.T)).get c=_;rw[ZfK,ZM,ho];rfl
   cases t with
   | true =>
    simp only[jB]at h;obtain⟨ex,s1,a,e,b⟩:=YX hH hY hF x _ bid s _ r h w hw;refine⟨ex,s1,a.mono fun n d=>?_,e,b⟩;simp only[evC,u,jB];exact d
   | false =>
    simp only[jA]at h;obtain⟨ex,s1,a,e,b⟩:=YX hH hY hF y _ bid s _ r h hy hw;refine⟨ex,s1,a.mono fun n d=>?_,e,b⟩;simp only[evC,u,jA];exact d
 | .block id c,pos,bid,s,k,r,h,hp,hw=>by
  simp only[Z1l]at h;have w:Code.sub F.body (0::pos)=some c:=by simp only[Code.sub,hp,jm,Code.kid]
  obtain⟨ex,s1,a,e,b⟩:=YX hH hY hF c _ id s _ r h w hw;cases ex with
  | exit i =>
   simp only at b;cases hi:Nat.beq i id with
   | true =>
    rw[hi]at b;refine⟨.normal,s1,a.mono fun n d=>?_,e,b⟩;simp only[evC,d,jm,hi,jB]
   | false =>
    rw[hi]at b;refine⟨_,s1,a.mono fun n d=>?_,e,b⟩;simp only[evC,d,jm,hi,jA]
  | _ =>
   simp only at b;refine⟨_,s1,a.mono fun n d=>?_,e,b⟩;simp only[evC,d,jm]
 | .loop c,pos,bid,s,k,r,h,hp,hw=>by
  simp only[Z1l]at h;have w:Code.sub F.body (0::pos)=some c:=by simp only[Code.sub,hp,jm,Code.kid]
  split at h
  ·rename_i p hfd;obtain⟨s1,a,e,b⟩:=Zjv hX h hw;exact⟨_,s1,Evt.of fun n=>by simp only[evC,hfd];exact a,e,b⟩
  rename_i hfd;obtain⟨j,a,h⟩:=Z0 h;obtain⟨s1,e,h⟩:=Z0 h;obtain⟨b,h4⟩:=Zdu hX e hw;obtain⟨ex,s',⟨N,h5⟩,o,h7⟩:=hls _ _ _ _ h h4 F c j hF w a;refine⟨ex,s',⟨N+1,fun n d=>?_⟩,o,h7⟩;simp only[evC,hfd,a,jm];cases n with
  | zero=>omega
  | succ m =>
   simp only[iter];have h3':Zdr X.E j (ZI X.T s).next (ZI X.T s)=some (ZI X.T s1):=b;rw[h3'];simp only[jm];exact h5 (m+1) m (by omega) (by omega)
 | .exit id,pos,bid,s,k,r,h,_,hw=>⟨.exit id,s.keepX F id,Evt.of fun _=>by simp only[evC,Z9A],by
   have:(s.keepX F id).objs=s.objs:=by unfold StT.keepX;cases F.xm.find? fun p=>Nat.beq p.1 id<;>rfl
   rw[this];exact hw,h⟩
 | .scope c,pos,bid,s,k,r,h,hp,hw=>by
  simp only[Z1l]at h;have w:Code.sub F.body (0::pos)=some c:=by simp only[Code.sub,hp,jm,Code.kid]
  obtain⟨ex,s1,a,e,b⟩:=YX hH hY hF c _ bid s _ r h w hw;exact⟨ex,s1,a.mono fun n d=>by simp only[evC];exact d,e,b⟩
 | .label l,pos,bid,s,k,r,h,_,hw=>⟨.normal,s,Evt.of fun _=>rfl,hw,h⟩
 | .ret,pos,bid,s,k,r,h,_,hw=>⟨.ret,s.keep F.rm,Evt.of fun _=>by simp only[evC,ZfG],hw,h⟩
 | .goto _,pos,bid,s,k,r,h,_,hw=>by simp only[Z1l,reduceCtorEq]at h
 | .refuse _,pos,bid,s,k,r,h,_,hw=>by simp only[Z1l,reduceCtorEq]at h
 | .rangeFunc f ps assign body,pos,bid,s0,k,r,h,hp,hw=>by
  simp only[Z1l]at h;obtain⟨a,h⟩:=Z3 h;obtain⟨s,e,h⟩:=Z0 h;obtain⟨fv,b,h⟩:=Z0 h
  have hs:(match(F.hints.find? fun h=>Nat.beq h.bid bid:Option Z3K)with
   | some j=>(Yi X.E (ZI X.T s0).next 0 j.accs ((ZI X.T s0).base,(ZI X.T s0).objs)).bind fun r=>some (St.mk r.1 r.2 ((ZI X.T s0).next+j.accs.length))
   | none=>some (ZI X.T s0))=some (ZI X.T s)/\WfO X.E s.objs:=by
   cases hh:(F.hints.find? fun h=>Nat.beq h.bid bid)with
   | none=>rw[hh]at e;cases e;exact⟨rfl,hw⟩
   | some j =>
    rw[hh]at e;obtain⟨q,h4,h5⟩:=Z0 e;cases h5;obtain⟨o,h7⟩:=Yh hX h4 hw;refine⟨?_,h7⟩;simp only;have h6':Yi X.E (ZI X.T s0).next 0 j.accs ((ZI X.T s0).base,(ZI X.T s0).objs)=_:=o;rw[h6'];rfl
  obtain⟨hs1,hs2⟩:=hs;cases fv with
  | fn g first caps =>
   cases g with
   | func g =>
    simp only at h;obtain⟨v,objs',next',h4,h5,o⟩:=hH _ _ _ _ _ _ _ h (hs2.set (x:=some (.loop fid s.base ps.toList assign body bid .normal (bid::path) pos)) ⟨F,f,hF,by simpa using hp⟩)
    cases ho:objs'.get s.next with
    | none=>rw[ho]at o;cases o
    | some ob =>
     rw[ho]at o;cases ob<;>simp only[reduceCtorEq]at o;rename_i fid' bs' ps' as' bo' bid' ex pa' po';have hres:k ex { s with objs:=objs'.set s.next none,next:=next' }=some r/\ex≠.busy:=by
      cases ex<;>simp only[reduceCtorEq]at o<;>exact⟨o,by simp⟩
     refine⟨ex,_,h4.mono fun n d=>?_,h5.set (x:=none) trivial,hres.1⟩;simp only[evC];have hir:Z6S rnd (ZI X.T s0).objs.get=true:=by
      show Z6S rnd (s0.objs.mapv (dvO X.T)).get=true;rw[Z5T];unfold Zdc at a;unfold Z6S;cases rnd with
      | none=>rfl
      | some l =>
       simp only at a⊢;unfold dvh;cases hl:s0.objs.get l with
       | none=>rw[hl]at a;cases a
       | some ob=>rw[hl]at a;cases ob<;>simp only[jg]at a;rfl
     rw[hir];simp only[jB];have hs1':=hs1;refine(congrArg (fun z=>Option.bind z _) hs1').trans ?_;simp only[jm];have u:ZU (ZI X.T s).base.get f=some (.fn (.func g) (dvl X.T first) (dvl X.T caps)):=by
      show ZU (s.base.mapv (dv X.T)).get f=_;rw[ZfK,ZM,b];rfl
     rw[u];simp only[jm];have e1:evX X.E n false g (dvl X.T first++[.yld (ZI X.T s).next]++dvl X.T caps) ((ZI X.T s).objs.set (ZI X.T s).next (some (.loop fid (ZI X.T s).base ps.toList assign body bid .normal))) ((ZI X.T s).next+1)=some (dv X.T v,objs'.mapv (dvO X.T),next'):=by
      rw[Y6]at d;simp only[Z6d,dvl,dv]at d;exact d
     rw[e1];simp only[jm,ZP];have ho2:objs'.get (ZI X.T s).next=some (.loop fid' bs' ps' as' bo' bid' ex pa' po'):=ho;rw[ho2];simp only[jq,dvO];have e2:(ZI X.T { s with objs:=objs'.set s.next none,next:=next' })={ ZI X.T s with objs:=(objs'.mapv (dvO X.T)).set (ZI X.T s).next none,next:=next' }:=by
      simp only[ZI,Y6];rfl
     rw[e2];cases ex<;>first|rfl|exact absurd rfl hres.2
   | _=>cases h
  | _=>cases h
omit hls in
theorem Zgg {g:Nat} {as:List (TV S)} {objs:Tr (Zk S)} {next:Nat} {k:TV S->Tr (Zk S)->Nat->Option R} {r:R} {F:FI} (f:Ze6 X.E g=false) (p:X.E.fn g=some F) (b:F.can=true)
  (h:Zeo cs g as objs next k=some r) (i:WfO X.E objs) :
  ∃v objs' next',Evt (fun n=>evX X.E n false g (dvl X.T as) (objs.mapv (dvO X.T)) next=some (dv X.T v,objs'.mapv (dvO X.T),next'))/\WfO X.E objs'/\k v objs' next'=some r:=by
 unfold Zeo at h;rw[Z3m,Z3l (fun v k=>Za7 v k),Za6,Z3k]at h;generalize hfs:(as.map fun d=>(YD objs.get d).getD d)=fs at h;generalize ho1:Z4N objs (Z61 objs.get (Yp as))=o1 at h;generalize hRs:Z24 o1.get 4096 (Z2L fs) []=Rs at h;obtain⟨c,h⟩:=Z3 h;rw[Z3m,Z3l (fun v k=>Za7 v k)]at h;have a:WfO X.E o1:=by rw[<-ho1];exact i.upd (Z2t _ _)
 obtain⟨v,os,n',o,j,h⟩:=hcs.pr _ _ _ _ _ _ h (Zeb a _);rw[Zbd,Z3l (fun v k=>Za7 v k),Z3k]at h;refine⟨_,_,_,Evt.succ (o.mono fun n m=>?_),a.updW (Zec j _),h⟩;simp only[jn]at c;have e1:((dvl X.T as).map fun d=>(frz (objs.mapv (dvO X.T)).get d).getD d)=dvl X.T fs:=by
  rw[<-hfs,Z5s,Z5s,List.map_map,List.map_map];congr 1;funext d;simp only[Function.comp,Z5T,Z6i hX.t];cases YD objs.get d<;>rfl
 have e2:Y3 (objs.mapv (dvO X.T)) (Zo (objs.mapv (dvO X.T)).get (Zi (dvl X.T as)))=o1.mapv (dvO X.T):=by
  rw[<-ho1,Z5T,Z43 hX.t,Z7i,Zal]
 have e3:Z1g (o1.mapv (dvO X.T)).get 4096 (Z1q (dvl X.T fs)) []=Rs:=by
  rw[Z5T,Z4x hX.t,Z3g hX.t,hRs]
 obtain⟨⟨r1,o2,n2⟩,hr,l⟩:=Z0 m;have e:Za1 X.E (fun g as=>(evX X.E n false g as .leaf 0).bind fun x=>frz x.2.1.get x.1) (evX X.E n false) (evX X.E n true) n g (dvl X.T (Z7c (Z4K Rs) fs)) ((Z5X (Z4K Rs) o1.get Rs).mapv (dvO X.T)) (Z2q Rs)=some (r1,o2,n2):=hr;rw[evX,Zbo f];unfold Z4e;rw[p];simp only[jm,b,jB,e1,e2,e3];rw[Z5T,ZeM hX.t c.2.2,Z5a hX.t _ _ c.2.1,c.1,Z7d hX.t,Zck hX.t];simp only[ju,jB,e,jm,l,Z5T,Zbb hX.t,ZdJ hX.t,Zal]
theorem Zed:∀n,Z2A X false (xK X cs ls n false)/\Z2A X true (xK X cs ls n true)
 | 0=>⟨fun _ _ _ _ _ _ _ h=>by simp[xK]at h,fun _ _ _ _ _ _ _ h=>by simp[xK]at h⟩
 | N+1=>by
  obtain⟨ih1,ih2⟩:=Zed N;constructor
  ·intro path g as objs next k r h p
   simp only[xK]at h;cases hnt:Ze6 X.E g with
   | true =>
    rw[hnt]at h;obtain⟨v,o',nx',u,o,e⟩:=Zie hX h p;exact⟨v,o',nx',Evt.succ (Evt.of fun n=>by simp only[evX];exact u _),o,e⟩
   | false =>
   rw[hnt]at h;simp only[jA]at h;obtain⟨F,m,h⟩:=Z0 h;cases hcan:F.can with
   | true=>rw[hcan]at h;exact Zgg hX hcs hnt m hcan h p
   | false =>
   rw[hcan]at h;simp only[jA]at h;obtain⟨hl,h⟩:=Z3 h;obtain⟨ex,s',u,o,e⟩:=YX hX hcs hls ih1 ih2 m F.body [] 0 _ _ r h rfl p;have hex:(∃vs,Z4w X.E (dvr X.T s'.base.get) (dvh X.T s'.objs.get) F.nres=some (dvl X.T vs)/\k (Z5b vs) s'.objs s'.next=some r)/\(∀i,ex≠.exit i)/\ex≠.busy:=by
    cases ex<;>simp only[reduceCtorEq]at e<;>exact⟨Z8U hX e,by simp,by simp⟩
   obtain⟨⟨vs,h4,w⟩,a,h7⟩:=hex;refine⟨Z5b vs,s'.objs,s'.next,Evt.succ (u.mono fun n y=>?_),o,w⟩;simp only[evX,Zbo hnt,Z4e,m,jm,hcan,jA,Za1];have hl':Nat.ble (dvl X.T as).length F.nt=true:=by rw[Z5s,List.length_map];exact hl
   rw[hl'];simp only[jB];have e1:(⟨Z2a F.vmask 0 (dvl X.T as) .leaf,objs.mapv (dvO X.T),next⟩:St)=ZI X.T ⟨Z1k F.vmask 0 as .leaf,objs,next⟩:=by
    simp only[ZI];rw[<-Z4c];rfl
   rw[e1];have hn':evC X.E none g F (fun g as=>(evX X.E n false g as .leaf 0).bind fun x=>frz x.2.1.get x.1) (evX X.E n false) (evX X.E n true) n 0 F.body (ZI X.T ⟨Z1k F.vmask 0 as .leaf,objs,next⟩)=some (ex,ZI X.T s'):=y
   rw[hn'];simp only[jm];have h4':Z4w X.E (ZI X.T s').base.get (ZI X.T s').objs.get F.nres=some (dvl X.T vs):=by
    show Z4w X.E (s'.base.mapv (dv X.T)).get (s'.objs.mapv (dvO X.T)).get F.nres=_;rw[ZfK,Z5T];exact h4
   cases ex with
   | exit i=>exact absurd rfl (a i)
   | busy=>exact absurd rfl h7
   | _=>simp only[h4',jm,Zc7];rfl
  ·intro path l as objs next k r h p
   simp only[xK]at h;split at h
   ·rename_i fid base ps assign body bid pa po t;obtain⟨F,m,h⟩:=Z0 h;obtain⟨b,hb,h⟩:=Z0 h;have s:=p l;rw[t]at s;obtain⟨F',f,q,j⟩:=s;rw[m]at q;cases q;have hs0:Code.sub F.body (0::po)=some assign:=by simp only[Code.sub,j,jm,Code.kid]
    have hs1:Code.sub F.body (1::po)=some body:=by simp only[Code.sub,j,jm,Code.kid]
    obtain⟨ex,s1,u,o,e⟩:=YX hX hcs hls ih1 ih2 m assign _ bid _ _ r h hs0 p;split at e
    ·rename_i fid2 base2 ps2 as2 bo2 bid2 pa2 po2 d;have a1:WfL X.E (some (.loop fid2 base2 ps2 as2 bo2 bid2 .busy pa2 po2)):=by have:=o l;rw[d]at this;exact this
     obtain⟨ex2,s2,h4,w,a⟩:=YX hX hcs hls ih1 ih2 m body _ bid _ _ r e hs1 (o.set a1);split at a
     ·rename_i fid3 base3 ps3 as3 bo3 bid3 pa3 po3 c;cases hbz:Zhu ex2 with
      | true=>rw[hbz]at a;cases a
      | false =>
       rw[hbz]at a;simp only[jA]at a;have z:WfL X.E (some (.loop fid3 base3 ps3 as3 bo3 bid3 ex2 pa3 po3)):=by have:=w l;rw[c]at this;exact this
       refine⟨_,_,_,Evt.succ ((u.and h4).mono fun n y=>?_),w.set z,a⟩;simp only[evX,ZP,t,jq,dvO,m,jm,Z4B,hb];have a0:evC X.E (some l) fid F (fun g as=>(evX X.E n false g as .leaf 0).bind fun x=>frz x.2.1.get x.1) (evX X.E n false) (evX X.E n true) n bid assign ⟨b.mapv (dv X.T),objs.mapv (dvO X.T),next⟩=some (.normal,ZI X.T s1):=y.1
       rw[a0];simp only[jm,ZI,ZP,d,jq,dvO];have hn2:evC X.E (some l) fid F (fun g as=>(evX X.E n false g as .leaf 0).bind fun x=>frz x.2.1.get x.1) (evX X.E n false) (evX X.E n true) n bid body ⟨s1.base.mapv (dv X.T),(s1.objs.mapv (dvO X.T)).set l (some (.loop fid2 (base2.mapv (dv X.T)) ps2 as2 bo2 bid2 .busy)),s1.next⟩=some (ex2,ZI X.T s2):=by
        have:=y.2;simp only[ZI,Y6]at this;exact this
       rw[hn2];simp only[jm,ZI,ZP,c,jq,dvO,Y6];cases ex2<;>first|(cases hbz;done)|rfl
     ·cases a
    ·cases e
   ·cases h
theorem Zjt {n g:Nat} {as:List (TV S)} {k:TV S->Option R} {r:R} (h:xK X cs ls n false [] g as .leaf 0 (fun v o _=>(YD o.get v).bind k)=some r) :
  ∃d,Evt (fun n=>evF X.E n g (dvl X.T as)=some (dv X.T d))/\k d=some r:=by
 obtain⟨v,o,nx,e,_,b⟩:=(Zed hX hcs hls n).1 _ _ _ _ _ _ _ h (fun i=>by trivial)
 obtain⟨d,f,c⟩:=Z0 b;refine⟨d,e.mono fun n j=>?_,c⟩;unfold evF;have a:evX X.E n false g (dvl X.T as) .leaf 0=some (dv X.T v,o.mapv (dvO X.T),nx):=j;rw[a];simp only[jm,Z5T,Z6i hX.t,f,jq]
end
end Go.Ab
namespace Go.Ab
variable {S:Nat->Type}
inductive LT where
 | int|bool|str|nat
 | lst (t:Ty)
 | arr (t:Ty)
 | st (i:Nat)
 | mp (k e:Ty)
 | en
 deriving DecidableEq
def Zef (S:Nat->Type):LT->Type
 | .int=>Int
 | .bool=>Bool
 | .str=>ByteArray
 | .nat=>Nat
 | .lst t=>List (Val S t)
 | .arr t=>Nat->Val S t
 | .st i=>S i
 | .mp k e=>List (Val S k×Val S e)
 | .en=>Nat->Nat
structure Yw (S:Nat->Type) where
 t:LT
 v:Zef S t
def Tup (S:Nat->Type):List LT->Type
 | []=>Unit
 | [t]=>Zef S t
 | t::t'::ts=>Zef S t×Tup S (t'::ts)
def Z32 (S:Nat->Type):List (List LT)->Type
 | []=>Empty
 | [a]=>Tup S a
 | a::b::r=>Tup S a⊕Z32 S (b::r)
def eT:(ts:List LT)->Tup S ts->List (Yw S)
 | [],_=>[]
 | [t],x=>[⟨t,x⟩]
 | t::t'::ts,x=>⟨t,x.1⟩::eT (t'::ts) x.2
def dL (t:LT) (l:Yw S):Option (Zef S t):=if h:l.t=t then some (h▸l.v)else none
def dTn {α:Type} (x:α) (l:List (Yw S)):Option α:=match l with
 | []=>some x
 | _=>none
def dT:(ts:List LT)->List (Yw S)->Option (Tup S ts)
 | [],l=>dTn () l
 | [t],l=>match l with
  | []=>none
  | x::r=>(dL t x).bind fun y=>dTn y r
 | t::t'::ts,l=>match l with
  | []=>none
  | x::r=>(dL t x).bind fun y=>(dT (t'::ts) r).bind fun z=>some (y,z)
theorem ZjQ {t:LT} {l:Yw S} {x:Zef S t} (h:dL t l=some x):l=⟨t,x⟩:=by
 unfold dL at h;split at h
 ·rename_i e;obtain⟨t',v⟩:=l;simp only at e;subst e;cases h;rfl
 ·cases h
theorem Zjd {α:Type} {x y:α} {l:List (Yw S)} (h:dTn x l=some y):l=[]/\x=y:=by
 cases l with
 | nil=>cases h;exact⟨rfl,rfl⟩
 | cons=>cases h
theorem Zgi:∀{ts:List LT} {l:List (Yw S)} {x:Tup S ts},dT ts l=some x->eT ts x=l
 | [],l,x,h=>by
  simp only[dT]at h;rw[(Zjd h).1];rfl
 | [t],l,x,h=>by
  simp only[dT]at h;cases l with
  | nil=>cases h
  | cons y r =>
   obtain⟨z,d,h⟩:=Z0 h;obtain⟨c,e⟩:=Zjd h;subst c e;rw[ZjQ d];rfl
 | t::t'::ts,l,x,h=>by
  simp only[dT]at h;cases l with
  | nil=>cases h
  | cons y r =>
   obtain⟨a,d,h⟩:=Z0 h;obtain⟨b,c,h⟩:=Z0 h;cases h;simp only[eT];rw[ZjQ d,Zgi c]
def Z2C:List Nat->List Nat->Bool
 | [],[]=>true
 | a::as,b::bs=>Nat.beq a b&&Z2C as bs
 | _,_=>false
theorem Z1F:∀{a b:List Nat},Z2C a b=true->a=b
 | [],[],_=>rfl
 | [],_::_,h=>by simp[Z2C]at h
 | _::_,[],h=>by simp[Z2C]at h
 | a::as,b::bs,h=>by
  simp only[Z2C,jn]at h;rw[je h.1,Z1F h.2]
mutual
def lvV:TV S->List (Yw S)
 | .bool b=>[⟨.bool,b⟩]
 | .int _ n=>[⟨.int,n⟩]
 | .str s=>[⟨.str,s⟩]
 | .ap _ _ i _ _=>[⟨.nat,i⟩]
 | .rptr _ _ i _ _=>[⟨.nat,i⟩]
 | .sl t xs=>[⟨.lst t,xs⟩]
 | .arr t _ a=>[⟨.arr t,a⟩]
 | .stc i x=>[⟨.st i,x⟩]
 | .earr _ _ _ a=>[⟨.en,a⟩]
 | .pub cs=>Zaw cs
 | .agg cs=>Zaw cs
 | .tup vs=>Zaw vs
 | .fn _ a c=>Zaw a++Zaw c
 | .iface _ v=>lvV v
 | _=>[]
def Zaw:List (TV S)->List (Yw S)
 | []=>[]
 | c::cs=>lvV c++Zaw cs
end
def Zjs:Fn->Fn->Bool
 | .func a,.func b=>Nat.beq a b
 | _,_=>false
theorem ZiE {a b:Fn} (h:Zjs a b=true):a=b:=by
 unfold Zjs at h;split at h
 ·rw[je h]
 ·cases h
mutual
def shV:TV S->TV S->Bool
 | .bool _,.bool _=>true
 | .int k _,.int k' _=>decide (k=k')
 | .str _,.str _=>true
 | .nilp,.nilp=>true
 | .ptr i o,.ptr i' o'=>Nat.beq i i'&&Nat.beq o o'
 | .ap i b _ e o,.ap i' b' _ e' o'=>Nat.beq i i'&&Nat.beq b b'&&Nat.beq e e'&&Nat.beq o o'
 | .rptr i v _ e o,.rptr i' v' _ e' o'=>Nat.beq i i'&&Nat.beq v v'&&Nat.beq e e'&&Nat.beq o o'
 | .pub cs,.pub cs'=>Zaa cs cs'
 | .nils,.nils=>true
 | .sl0,.sl0=>true
 | .sl t _,.sl t' _=>decide (t=t')
 | .rs i v,.rs i' v'=>Nat.beq i i'&&Nat.beq v v'
 | .arr t n _,.arr t' n' _=>decide (t=t')&&Nat.beq n n'
 | .stc i _,.stc i' _=>Nat.beq i i'
 | .earr ts p n _,.earr ts' p' n' _=>Z2C ts ts'&&Nat.beq p p'&&Nat.beq n n'
 | .narr ts n,.narr ts' n'=>Z2C ts ts'&&Nat.beq n n'
 | .agg cs,.agg cs'=>Zaa cs cs'
 | .tup cs,.tup cs'=>Zaa cs cs'
 | .fn f a c,.fn f' a' c'=>Zjs f f'&&Zaa a a'&&Zaa c c'
 | .nilfn,.nilfn=>true
 | .map i,.map i'=>Nat.beq i i'
 | .nilmap,.nilmap=>true
 | .iface t v,.iface t' v'=>Nat.beq t t'&&shV v v'
 | .nilif,.nilif=>true
 | .iter i,.iter i'=>Nat.beq i i'
 | .yld i,.yld i'=>Nat.beq i i'
 | _,_=>false
def Zaa:List (TV S)->List (TV S)->Bool
 | [],[]=>true
 | c::cs,c'::cs'=>shV c c'&&Zaa cs cs'
 | _,_=>false
end
def tk1 (t:LT) (l:List (Yw S)):Option (Zef S t×List (Yw S)):=match l with
 | []=>none
 | x::r=>(dL t x).bind fun v=>some (v,r)
mutual
def fiV:TV S->List (Yw S)->Option (TV S×List (Yw S))
 | .bool _,l=>(tk1 .bool l).bind fun p=>some (.bool p.1,p.2)
 | .int k _,l=>(tk1 .int l).bind fun p=>some (.int k p.1,p.2)
 | .str _,l=>(tk1 .str l).bind fun p=>some (.str p.1,p.2)
 | .ap i b _ e o,l=>(tk1 .nat l).bind fun p=>some (.ap i b p.1 e o,p.2)
 | .rptr i v _ e o,l=>(tk1 .nat l).bind fun p=>some (.rptr i v p.1 e o,p.2)
 | .sl t _,l=>(tk1 (.lst t) l).bind fun p=>some (.sl t p.1,p.2)
 | .arr t n _,l=>(tk1 (.arr t) l).bind fun p=>some (.arr t n p.1,p.2)
 | .stc i _,l=>(tk1 (.st i) l).bind fun p=>some (.stc i p.1,p.2)
 | .earr ts q n _,l=>(tk1 .en l).bind fun p=>some (.earr ts q n p.1,p.2)
 | .pub cs,l=>(Zat cs l).bind fun p=>some (.pub p.1,p.2)
 | .agg cs,l=>(Zat cs l).bind fun p=>some (.agg p.1,p.2)
 | .tup cs,l=>(Zat cs l).bind fun p=>some (.tup p.1,p.2)
 | .fn f a c,l=>(Zat a l).bind fun p=>(Zat c p.2).bind fun q=>some (.fn f p.1 q.1,q.2)
 | .iface t v,l=>(fiV v l).bind fun p=>some (.iface t p.1,p.2)
 | v,l=>some (v,l)
def Zat:List (TV S)->List (Yw S)->Option (List (TV S)×List (Yw S))
 | [],l=>some ([],l)
 | c::cs,l=>(fiV c l).bind fun p=>(Zat cs p.2).bind fun q=>some (p.1::q.1,q.2)
end
theorem Z1U (t:LT) (x:Zef S t) (r:List (Yw S)):tk1 t (⟨t,x⟩::r)=some (x,r):=by
 simp[tk1,dL]
theorem Z3q (b:Bool) (r:List (Yw S)):tk1 .bool (⟨.bool,b⟩::r)=some (b,r):=Z1U .bool b r
theorem Z4F (b:Int) (r:List (Yw S)):tk1 .int (⟨.int,b⟩::r)=some (b,r):=Z1U .int b r
theorem Z2i (b:ByteArray) (r:List (Yw S)):tk1 .str (⟨.str,b⟩::r)=some (b,r):=Z1U .str b r
theorem Z2h (b:Nat) (r:List (Yw S)):tk1 .nat (⟨.nat,b⟩::r)=some (b,r):=Z1U .nat b r
theorem Z2g (t:Ty) (b:List (Val S t)) (r:List (Yw S)):tk1 (.lst t) (⟨.lst t,b⟩::r)=some (b,r):=Z1U (.lst t) b r
theorem Z4E (t:Ty) (b:Nat->Val S t) (r:List (Yw S)):tk1 (.arr t) (⟨.arr t,b⟩::r)=some (b,r):=Z1U (.arr t) b r
theorem ZjJ (i:Nat) (b:S i) (r:List (Yw S)):tk1 (.st i) (⟨.st i,b⟩::r)=some (b,r):=Z1U (.st i) b r
theorem ZjI (b:Nat->Nat) (r:List (Yw S)):tk1 .en (⟨.en,b⟩::r)=some (b,r):=Z1U .en b r
theorem Zfh (k e:Ty) (b:List (Val S k×Val S e)) (r:List (Yw S)):tk1 (.mp k e) (⟨.mp k e,b⟩::r)=some (b,r):=Z1U (.mp k e) b r
mutual
theorem Zfy:∀{p v:TV S} (r:List (Yw S)),shV p v=true->fiV p (lvV v++r)=some (v,r)
 | .bool _,v,r,h=>by cases v<;>simp only[shV,jg]at h;(simp[lvV,fiV,Z3q,Z4F,Z2i,Z2h,Z2g,Z4E];first|done|rfl)
 | .int k _,v,r,h=>by cases v<;>simp only[shV,jg,jk]at h;subst h;(simp[lvV,fiV,Z3q,Z4F,Z2i,Z2h,Z2g,Z4E];first|done|rfl)
 | .str _,v,r,h=>by cases v<;>simp only[shV,jg]at h;(simp[lvV,fiV,Z3q,Z4F,Z2i,Z2h,Z2g,Z4E];first|done|rfl)
 | .nilp,v,r,h=>by cases v<;>simp only[shV,jg]at h;simp[lvV,fiV]
 | .ptr i o,v,r,h=>by
  cases v<;>simp only[shV,jg,jn]at h;rw[je h.1,je h.2];simp[lvV,fiV]
 | .ap i b _ e o,v,r,h=>by
  cases v<;>simp only[shV,jg,jn]at h;rw[je h.1.1.1,je h.1.1.2,je h.1.2,je h.2];(simp[lvV,fiV,Z3q,Z4F,Z2i,Z2h,Z2g,Z4E];first|done|rfl)
 | .rptr i w _ e o,v,r,h=>by
  cases v<;>simp only[shV,jg,jn]at h;rw[je h.1.1.1,je h.1.1.2,je h.1.2,je h.2];(simp[lvV,fiV,Z3q,Z4F,Z2i,Z2h,Z2g,Z4E];first|done|rfl)
 | .pub cs,v,r,h=>by
  cases v<;>simp only[shV,jg]at h;simp only[lvV,fiV,Z6g r h,jm]
 | .nils,v,r,h=>by cases v<;>simp only[shV,jg]at h;simp[lvV,fiV]
 | .sl0,v,r,h=>by cases v<;>simp only[shV,jg]at h;simp[lvV,fiV]
 | .sl t _,v,r,h=>by cases v<;>simp only[shV,jg,jk]at h;subst h;(simp[lvV,fiV,Z3q,Z4F,Z2i,Z2h,Z2g,Z4E];first|done|rfl)
 | .rs i w,v,r,h=>by
  cases v<;>simp only[shV,jg,jn]at h;rw[je h.1,je h.2];simp[lvV,fiV]
 | .arr t n _,v,r,h=>by
  cases v<;>simp only[shV,jg,jn,jk]at h;obtain⟨d,g⟩:=h;subst d;rw[je g];(simp[lvV,fiV,Z3q,Z4F,Z2i,Z2h,Z2g,Z4E];first|done|rfl)
 | .stc i _,v,r,h=>by
  cases v<;>simp only[shV,jg]at h;have:=je h;subst this;simp only[lvV,fiV,List.cons_append,List.nil_append,ZjJ];rfl
 | .earr ts p n _,v,r,h=>by
  cases v<;>simp only[shV,jg,jn]at h;rw[Z1F h.1.1,je h.1.2,je h.2];simp only[lvV,fiV,List.cons_append,List.nil_append,ZjI];rfl
 | .narr ts n,v,r,h=>by
  cases v<;>simp only[shV,jg,jn]at h;rw[Z1F h.1,je h.2];simp[lvV,fiV]
 | .agg cs,v,r,h=>by
  cases v<;>simp only[shV,jg]at h;simp only[lvV,fiV,Z6g r h,jm]
 | .tup cs,v,r,h=>by
  cases v<;>simp only[shV,jg]at h;simp only[lvV,fiV,Z6g r h,jm]
 | .fn f a c,v,r,h=>by
  cases v<;>simp only[shV,jg,jn]at h;obtain⟨⟨d,g⟩,j⟩:=h;simp only[lvV,fiV,jj,Z6g _ g,jm,Z6g r j,ZiE d]
 | .nilfn,v,r,h=>by cases v<;>simp only[shV,jg]at h;simp[lvV,fiV]
 | .map i,v,r,h=>by
  cases v<;>simp only[shV,jg]at h;rw[je h];simp[lvV,fiV]
 | .nilmap,v,r,h=>by cases v<;>simp only[shV,jg]at h;simp[lvV,fiV]
 | .iface t w,v,r,h=>by
  cases v<;>simp only[shV,jg,jn]at h;simp only[lvV,fiV,Zfy r h.2,jm,je h.1]
 | .nilif,v,r,h=>by cases v<;>simp only[shV,jg]at h;simp[lvV,fiV]
 | .iter i,v,r,h=>by
  cases v<;>simp only[shV,jg]at h;rw[je h];simp[lvV,fiV]
 | .yld i,v,r,h=>by
  cases v<;>simp only[shV,jg]at h;rw[je h];simp[lvV,fiV]
theorem Z6g:∀{p v:List (TV S)} (r:List (Yw S)),Zaa p v=true->Zat p (Zaw v++r)=some (v,r)
 | [],[],r,_=>by simp[Zaw,Zat]
 | [],_::_,_,h=>by simp[Zaa]at h
 | _::_,[],_,h=>by simp[Zaa]at h
 | p::ps,v::vs,r,h=>by
  simp only[Zaa,jn]at h;simp only[Zaw,Zat,jj,Zfy _ h.1,jm,Z6g r h.2]
end
def ZbU {α:Type} (f:α->List (Yw S)):Tr α->List (Yw S)
 | .leaf=>[]
 | .node l v r=>ZbU f l++((match v with|some x=>f x|none=>[])++ZbU f r)
def Z83 {α:Type} (f:α->α->Bool):Tr α->Tr α->Bool
 | .leaf,.leaf=>true
 | .node l v r,.node l' v' r'=>Z83 f l l'&&(match v,v' with|some x,some x'=>f x x'|none,none=>true|_,_=>false)&&Z83 f r r'
 | _,_=>false
def ZbJ {α:Type} (f:α->List (Yw S)->Option (α×List (Yw S))):Tr α->List (Yw S)->Option (Tr α×List (Yw S))
 | .leaf,l=>some (.leaf,l)
 | .node a v b,l=>(ZbJ f a l).bind fun p=>((match v with|some x=>(f x p.2).bind fun q=>some (some q.1,q.2)|none=>some (none,p.2)):Option (Option α×List (Yw S))).bind fun q=>(ZbJ f b q.2).bind fun r=>some (.node p.1 q.1 r.1,r.2)
theorem Z6M {α:Type} {lv:α->List (Yw S)} {sh:α->α->Bool} {fi:α->List (Yw S)->Option (α×List (Yw S))} (c:∀p v r,sh p v=true->fi p (lv v++r)=some (v,r)) :
  ∀{p v:Tr α} (r:List (Yw S)),Z83 sh p v=true->ZbJ fi p (ZbU lv v++r)=some (v,r)
 | .leaf,.leaf,r,_=>rfl
 | .leaf,.node ..,_,h=>by simp[Z83]at h
 | .node ..,.leaf,_,h=>by simp[Z83]at h
 | .node a x b,.node a' x' b',r,h=>by
  simp only[Z83,jn]at h;obtain⟨⟨f,d⟩,e⟩:=h;simp only[ZbU,ZbJ,jj,Z6M c _ f,jm];cases x<;>cases x'<;>simp only[jg]at d
  ·simp only[List.nil_append,jm,Z6M c r e]
  ·simp only[c _ _ _ d,jm,Z6M c r e]
def Zgp:Ex->Ex->Bool
 | .normal,.normal=>true
 | .exit i,.exit j=>Nat.beq i j
 | .ret,.ret=>true
 | .busy,.busy=>true
 | _,_=>false
theorem ZbG {a b:Ex} (h:Zgp a b=true):a=b:=by
 cases a<;>cases b<;>simp only[Zgp,jg]at h<;>first|rfl|rw[je h]
def lvO:Zk S->List (Yw S)
 | .cells _ cs=>Zaw cs
 | .row _ t xs _ _=>[⟨.lst t,xs⟩]
 | .map k e m=>[⟨.mp k e,m⟩]
 | .siter s p=>[⟨.str,s⟩,⟨.nat,p⟩]
 | .mit _ _ | .bag _ _ _ _=>[]
 | .loop _ b _ _ _ _ _ _ _=>ZbU lvV b
def shO:Zk S->Zk S->Bool
 | .cells t cs,.cells t' cs'=>Nat.beq t t'&&Zaa cs cs'
 | .row e t _ p v,.row e' t' _ p' v'=>Nat.beq e e'&&decide (t=t')&&Nat.beq v v'&&Nat.beq p p'
 | .map k e _,.map k' e' _=>decide (k=k')&&decide (e=e')
 | .siter _ _,.siter _ _=>true
 | .loop f b ps _ _ bid ex pa po,.loop f' b' ps' _ _ bid' ex' pa' po'=>Nat.beq f f'&&Z83 shV b b'&&Z2C ps ps'&&Nat.beq bid bid'&&Zgp ex ex'&&Z2C pa pa'&&Z2C po po'
 | _,_=>false
def ZjU (E:Env) (f:Nat) (po:List Nat):Option (Code×Code):=(E.fn f).bind fun F=>match Code.sub F.body po with
 | some (.rangeFunc _ _ a b)=>some (a,b)
 | _=>none
def fiO (E:Env):Zk S->List (Yw S)->Option (Zk S×List (Yw S))
 | .cells t cs,l=>(Zat cs l).bind fun p=>some (.cells t p.1,p.2)
 | .row e t _ n v,l=>(tk1 (.lst t) l).bind fun p=>some (.row e t p.1 n v,p.2)
 | .map k e _,l=>(tk1 (.mp k e) l).bind fun p=>some (.map k e p.1,p.2)
 | .siter _ _,l=>(tk1 .str l).bind fun p=>(tk1 .nat p.2).bind fun q=>some (.siter p.1 q.1,q.2)
 | .mit _ _,_ | .bag _ _ _ _,_=>none
 | .loop f b ps _ _ bid ex pa po,l=>(ZbJ fiV b l).bind fun p=>(ZjU E f po).bind fun c=>some (.loop f p.1 ps c.1 c.2 bid ex pa po,p.2)
theorem Zjr (E:Env) {p v:Zk S} (c:WfL E (some v)) (r:List (Yw S)) (h:shO p v=true):fiO E p (lvO v++r)=some (v,r):=by
 cases p<;>cases v<;>simp only[shO,jg,jn]at h
 ·rw[je h.1];simp only[lvO,fiO,Z6g r h.2,jm]
 ·have a:=of_decide_eq_true h.1.1.2;subst a;rw[je h.1.1.1,je h.1.2,je h.2]
  (simp[lvO,fiO,Z2i,Z2h,Z2g,Zfh];first|done|rfl)
 ·have a:=of_decide_eq_true h.1;have b:=of_decide_eq_true h.2;subst a b
  (simp[lvO,fiO,Z2i,Z2h,Z2g,Zfh];first|done|rfl)
 ·(simp[lvO,fiO,Z2i,Z2h,Z2g,Zfh];first|done|rfl)
 ·obtain⟨⟨⟨⟨⟨⟨a,b⟩,j⟩,e⟩,i⟩,d⟩,g⟩:=h;obtain⟨F,f,l,k⟩:=c;rw[je a,Z1F j,je e,ZbG i,Z1F d,Z1F g];simp only[lvO,fiO,Z6M (fun p v r h=>Zfy r h) r b,jm,ZjU,l,k]
def ZeE (s:StT S):List (Yw S):=ZbU lvV s.base++ZbU lvO s.objs
def Zcr (p s:StT S):Bool:=Z83 shV p.base s.base&&Z83 shO p.objs s.objs&&Nat.beq p.next s.next
def Z9j (E:Env) (p:StT S) (l:List (Yw S)):Option (StT S):=(ZbJ fiV p.base l).bind fun b=>(ZbJ (fiO E) p.objs b.2).bind fun o=>match o.2 with
 | []=>some ⟨b.1,o.1,p.next⟩
 | _=>none
def Zfl {α:Type} (q:α->Prop):Tr α->Prop
 | .leaf=>True
 | .node l v r=>Zfl q l/\(∀x,v=some x->q x)/\Zfl q r
theorem Z92 {α:Type} {q:α->Prop}:∀{t:Tr α},(∀i x,t.get i=some x->q x)->Zfl q t
 | .leaf,_=>trivial
 | .node l v r,h=>by
  refine⟨Z92 fun i x a=>h (2*i+1) x ?_,fun x a=>h 0 x ?_,Z92 fun i x a=>h (2*i+2) x ?_⟩
  ·rw[Tr.get_node,if_neg (by omega),if_pos (by omega),show(2*i+1) / 2=i by omega];exact a
  ·rw[Tr.get_node,if_pos rfl];exact a
  ·rw[Tr.get_node,if_neg (by omega),if_neg (by omega),show(2*i+2) / 2-1=i by omega];exact a
theorem Z6N {α:Type} {q:α->Prop} {lv:α->List (Yw S)} {sh:α->α->Bool} {fi:α->List (Yw S)->Option (α×List (Yw S))} (c:∀p v r,q v->sh p v=true->fi p (lv v++r)=some (v,r)) :
  ∀{p v:Tr α} (r:List (Yw S)),Zfl q v->Z83 sh p v=true->ZbJ fi p (ZbU lv v++r)=some (v,r)
 | .leaf,.leaf,r,_,_=>rfl
 | .leaf,.node ..,_,_,h=>by simp[Z83]at h
 | .node ..,.leaf,_,_,h=>by simp[Z83]at h
 | .node a x b,.node a' x' b',r,hq,h=>by
  simp only[Z83,jn]at h;obtain⟨⟨f,d⟩,e⟩:=h;obtain⟨q1,q2,q3⟩:=hq;simp only[ZbU,ZbJ,jj,Z6N c _ q1 f,jm];cases x<;>cases x'<;>simp only[jg]at d
  ·simp only[List.nil_append,jm,Z6N c r q3 e]
  ·simp only[c _ _ _ (q2 _ rfl) d,jm,Z6N c r q3 e]
theorem Z6L (E:Env) {p s:StT S} (a:WfO E s.objs) (h:Zcr p s=true):Z9j E p (ZeE s)=some s:=by
 unfold Zcr at h;simp only[jn]at h;obtain⟨⟨d,c⟩,e⟩:=h;unfold Z9j ZeE;rw[Z6M (fun p v r h=>Zfy r h) _ d];simp only[jm];have:=Z6N (q:=fun x=>WfL E (some x)) (fun p v r b h=>Zjr E b r h) [] (Z92 fun i x f=>by have:=a i;rw[f]at this;exact this) c
 rw[jo]at this;rw[this];simp only[jm,je e]
end Go.Ab
namespace Go.Ab
variable {S:Nat->Type} {R:Type}
def Z4P (S:Nat->Type):List Ty->Type
 | []=>Unit
 | t::ts=>Val S t×Z4P S ts
def Z5J (S:Nat->Type):List Ty->Type
 | []=>Unit
 | [t]=>Val S t
 | t::t'::ts=>Val S t×Z5J S (t'::ts)
def ZcG (T:TS S):(ts:List Ty)->Z4P S ts->List (TV S)
 | [],_=>[]
 | t::ts,x=>Z8a T t x.1::ZcG T ts x.2
def Z3E (T:TS S):(ts:List Ty)->Z4P S ts->List DV
 | [],_=>[]
 | t::ts,x=>Yr T t x.1::Z3E T ts x.2
def ZcD (T:TS S):(ts:List Ty)->List (TV S)->Option (Z4P S ts)
 | [],l=>dTn' () l
 | t::ts,l=>match l with
  | []=>none
  | v::r=>(Z63 T t v).bind fun x=>(ZcD T ts r).bind fun y=>some (x,y)
 where
 dTn' {α:Type} (x:α) (l:List (TV S)):Option α:=match l with
  | []=>some x
  | _=>none
def Zbc (T:TS S):(ts:List Ty)->Z5J S ts->List (TV S)
 | [],_=>[]
 | [t],x=>[Z8a T t x]
 | t::t'::ts,x=>Z8a T t x.1::Zbc T (t'::ts) x.2
def Z3F (T:TS S):(ts:List Ty)->Z5J S ts->List DV
 | [],_=>[]
 | [t],x=>[Yr T t x]
 | t::t'::ts,x=>Yr T t x.1::Z3F T (t'::ts) x.2
def Zay (T:TS S):(ts:List Ty)->List (TV S)->Option (Z5J S ts)
 | [],l=>ZcD.dTn' () l
 | [t],l=>match l with
  | []=>none
  | v::r=>(Z63 T t v).bind fun x=>ZcD.dTn' x r
 | t::t'::ts,l=>match l with
  | []=>none
  | v::r=>(Z63 T t v).bind fun x=>(Zay T (t'::ts) r).bind fun y=>some (x,y)
def Zcx (n:Nat) (v:TV S):Option (List (TV S)):=bif Nat.beq n 1 then some [v]else match v with
 | .tup vs=>some vs
 | _=>none
section
variable {T:TS S} (hT:TOk T)
include hT
theorem ZcH:∀(ts:List Ty) (x:Z4P S ts),dvl T (ZcG T ts x)=Z3E T ts x
 | [],_=>by simp[ZcG,Z3E,dvl]
 | t::ts,x=>by simp only[ZcG,Z3E,dvl,Z1J hT,ZcH ts]
theorem ZdP:∀(ts:List Ty) (x:Z5J S ts),dvl T (Zbc T ts x)=Z3F T ts x
 | [],_=>by simp[Zbc,Z3F,dvl]
 | [t],x=>by simp only[Zbc,Z3F,dvl];exact congrArg (fun z=>[z]) (Z1J hT t x)
 | t::t'::ts,x=>by simp only[Zbc,Z3F,dvl,Z1J hT,ZdP (t'::ts)]
omit hT in
theorem Z98 {α:Type} {x y:α} {l:List (TV S)} (h:ZcD.dTn' x l=some y):l=[]/\x=y:=by
 cases l with
 | nil=>cases h;exact⟨rfl,rfl⟩
 | cons=>cases h
theorem Zfo:∀{ts:List Ty} {l:List (TV S)} {x:Z4P S ts},ZcD T ts l=some x->dvl T l=Z3E T ts x
 | [],l,x,h=>by
  simp only[ZcD]at h;rw[(Z98 h).1];simp[Z3E,dvl]
 | t::ts,l,x,h=>by
  simp only[ZcD]at h;cases l with
  | nil=>cases h
  | cons v r =>
   obtain⟨y,a,h⟩:=Z0 h;obtain⟨z,b,h⟩:=Z0 h;cases h;simp only[dvl,Z3E,Z3p hT a,Zfo b]
theorem ZfU:∀{ts:List Ty} {l:List (TV S)} {x:Z5J S ts},Zay T ts l=some x->dvl T l=Z3F T ts x
 | [],l,x,h=>by
  simp only[Zay]at h;rw[(Z98 h).1];simp[Z3F,dvl]
 | [t],l,x,h=>by
  simp only[Zay]at h;cases l with
  | nil=>cases h
  | cons v r =>
   obtain⟨y,b,h⟩:=Z0 h;obtain⟨a,c⟩:=Z98 h;subst a c;simp only[dvl,Z3F,Z3p hT b]
 | t::t'::ts,l,x,h=>by
  simp only[Zay]at h;cases l with
  | nil=>cases h
  | cons v r =>
   obtain⟨y,b,h⟩:=Z0 h;obtain⟨z,a,h⟩:=Z0 h;cases h;simp only[dvl,Z3F,Z3p hT b,ZfU a]
end
structure F7 (S:Nat->Type) where
 pts:List Ty
 rts:List Ty
 F:Z4P S pts->Option (Z5J S rts)
def Zaq (X:Ye S) (g:Nat) (fs:F7 S):Prop:=∀xs r,fs.F xs=some r->Evt fun n=>evF X.E n g (Z3E X.T fs.pts xs)=some (Z72 (Z3F X.T fs.rts r))
def ZbK:List (Nat×F7 S)->Nat->Option (F7 S)
 | [],_=>none
 | (n,f)::l,g=>bif Nat.beq n g then some f else ZbK l g
abbrev Prs (S:Nat->Type) (R:Type):=Nat->List (TV S)->Tr (Zk S)->Nat->(TV S->Tr (Zk S)->Nat->Option R)->Option R
def Z8Z (X:Ye S) (ps:Prs S R):Prop:=∀g as s n0 k r,ps g as s n0 k=some r->WfO X.E s->∃v os n',
  Evt (fun n=>(ZhT X.E n g (dvl X.T as) (s.mapv (dvO X.T)) n0).bind (Z8m n0)=some (dv X.T v,os.mapv (dvO X.T),n'))/\WfO X.E os/\k v os n'=some r
def ZjZ:Prs S R:=fun _ _ _ _ _=>none
theorem Zk0 (X:Ye S):Z8Z X (ZjZ (R:=R)):=fun _ _ _ _ _ _ h=>by cases h
def Z7k (T:TS S) (tab:List (Nat×F7 S)) (ps:Prs S R):Z3L S R:=⟨fun g as k=>(ZbK tab g).bind fun fs=>(ZcD T fs.pts as).bind fun xs=>(fs.F xs).bind fun r=>k (Z5b (Zbc T fs.rts r)),ps⟩
def ZaC (X:Ye S):List (Nat×F7 S)->Prop
 | []=>True
 | (n,f)::l=>Zaq X n f/\ZaC X l
theorem Zag {X:Ye S}:∀{l:List (Nat×F7 S)} {g:Nat} {f:F7 S},ZaC X l->ZbK l g=some f->Zaq X g f
 | [],_,_,_,h=>by cases h
 | (n,f')::l,g,f,ht,h=>by
  simp only[ZbK]at h;cases hb:Nat.beq n g with
  | true=>rw[hb]at h;cases h;rw[<-je hb];exact ht.1
  | false=>rw[hb]at h;exact Zag ht.2 h
section
variable {X:Ye S} (hX:XOk X)
include hX
theorem Z3o {tab:List (Nat×F7 S)} (ht:ZaC X tab) {ps:Prs S R} (a:Z8Z X ps):Z8J (R:=R) X (Z7k X.T tab ps):=⟨fun g as k r h=>by
 simp only[Z7k]at h;obtain⟨fs,c,h⟩:=Z0 h;obtain⟨xs,b,h⟩:=Z0 h;obtain⟨q,d,h⟩:=Z0 h;refine⟨_,(Zag ht c xs q d).mono fun n e=>?_,h⟩;rw[Zfo hX.t b,e,<-ZdP hX.t,Zc7],a⟩
end
def Zkc (X:Ye S) (tab:List (Nat×F7 S)) (pts rts:List Ty) (ps:Prs S (Z5J S rts)) (ls:Z2G S (Z5J S rts)) (n g:Nat) (xs:Z4P S pts):Option (Z5J S rts) :=
 xK X (Z7k X.T tab ps) ls n false [] g (ZcG X.T pts xs) .leaf 0 fun v o _=>(YD o.get v).bind fun v=>(Zcx rts.length v).bind fun l=>Zay X.T rts l
theorem ZgW {T:TS S} {n:Nat} {v:TV S} {l:List (TV S)} (h:Zcx n v=some l) (c:l.length=n):dv T v=Z72 (dvl T l):=by
 unfold Zcx at h;cases hb:Nat.beq n 1 with
 | true=>rw[hb]at h;cases h;simp[dvl,Z72]
 | false =>
  rw[hb]at h;simp only[jA]at h;split at h
  ·cases h;have:¬l.length=1:=fun e=>by rw[<-c,e]at hb;cases hb
   cases l with
   | nil=>simp[dv,dvl,Z72]
   | cons a vs =>
    cases vs with
    | nil=>simp at this
    | cons b vs=>simp[dv,dvl,Z72]
  ·cases h
theorem ZdA {T:TS S}:∀{ts:List Ty} {l:List (TV S)} {x:Z5J S ts},Zay T ts l=some x->l.length=ts.length
 | [],l,x,h=>by simp only[Zay]at h;rw[(Z98 h).1];rfl
 | [t],l,x,h=>by
  simp only[Zay]at h;cases l with
  | nil=>cases h
  | cons v r =>
   obtain⟨y,b,h⟩:=Z0 h;rw[(Z98 h).1];rfl
 | t::t'::ts,l,x,h=>by
  simp only[Zay]at h;cases l with
  | nil=>cases h
  | cons v r =>
   obtain⟨y,b,h⟩:=Z0 h;obtain⟨z,a,h⟩:=Z0 h;simp[ZdA a]
theorem Zk8 {X:Ye S} (hX:XOk X) {tab:List (Nat×F7 S)} (ht:ZaC X tab) {pts rts:List Ty} {ps:Prs S (Z5J S rts)} (a:Z8Z X ps) {ls:Z2G S (Z5J S rts)} (hls:Z4b X ls) (n g:Nat):Zaq X g ⟨pts,rts,Zkc X tab pts rts ps ls n g⟩:=fun xs r h=>by
 obtain⟨d,i,e⟩:=Zjt hX (Z3o hX ht a) hls h;obtain⟨l,f,c⟩:=Z0 e;refine i.mono fun m b=>?_;rw[ZcH hX.t]at b;rw[b,ZgW f (ZdA c),ZfU hX.t c]
theorem Zk9 {X:Ye S} {g:Nat} {pts rts:List Ty} {F F':Z4P S pts->Option (Z5J S rts)} (h:Zaq X g ⟨pts,rts,F⟩) (e:∀xs r,F' xs=some r->F xs=some r):Zaq X g ⟨pts,rts,F'⟩:=fun xs r hr=>h xs r (e xs r hr)
def Z9y {α β:Type} (t:(α->Option β)->α->Option β):Nat->α->Option β
 | 0,_=>none
 | n+1,x=>t (Z9y t n) x
open Classical in
noncomputable def Zb7 {α β:Type} (t:(α->Option β)->α->Option β) (x:α):Option β:=if h:∃n r,Z9y t n x=some r then some h.choose_spec.choose else none
theorem Z9S {α β:Type} {t:(α->Option β)->α->Option β} {x:α} {r:β} (h:Zb7 t x=some r):∃n,Z9y t n x=some r:=by
 unfold Zb7 at h;split at h
 ·rename_i a;cases h;exact⟨_,a.choose_spec.choose_spec⟩
 ·cases h
theorem Zk5 {α β:Type} {t:(α->Option β)->α->Option β} {x:α} {y:β} (b:∀n r,Z9y t n x=some r->r=y) (a:∃n r,Z9y t n x=some r):Zb7 t x=some y:=by
 unfold Zb7;rw[dif_pos a,b _ _ a.choose_spec.choose_spec]
theorem ZkO {X:Ye S} {g:Nat} {pts rts:List Ty} {t:(Z4P S pts->Option (Z5J S rts))->Z4P S pts->Option (Z5J S rts)} (h:∀ih,Zaq X g ⟨pts,rts,ih⟩->Zaq X g ⟨pts,rts,t ih⟩):Zaq X g ⟨pts,rts,Zb7 t⟩:=fun xs r hr=>by
 obtain⟨n,a⟩:=Z9S hr;have:∀n,Zaq X g ⟨pts,rts,Z9y t n⟩:=fun n=>by
  induction n with
  | zero=>intro xs r h;cases h
  | succ n ih=>exact h _ ih
 exact this n xs r a
def Zft (T:TS S) (ti:Option TI) (c:Ty):Bool:=match ti with
 | some ti=>Nat.beq ti.size (tsz T c)&&(ti.isAgg==YV c)
 | none=>true
theorem Zhf {T:TS S} {o:Option TI} {ti:TI} {c:Ty} (h:Zft T o c=true) (a:o=some ti):ti.size=tsz T c/\ti.isAgg=YV c:=by
 subst a;simp only[Zft,jn]at h;exact⟨je h.1,eq_of_beq h.2⟩
def zEq:DV->DV->Bool
 | .bool a,.bool b=>a==b
 | .int k a,.int k' b=>k==k'&&a==b
 | .str a,.str b=>a.toList==b.toList
 | .nilp,.nilp | .nils,.nils | .nilfn,.nilfn | .nilmap,.nilmap | .nilif,.nilif=>true
 | _,_=>false
def ZgY:List DV->List DV->Bool
 | [],[]=>true
 | a::as,b::bs=>zEq a b&&ZgY as bs
 | _,_=>false
theorem ZjM {a b:DV} (h:zEq a b=true):a=b:=by
 unfold zEq at h;split at h<;>first|rfl|(cases h;done)|skip
 ·rw[eq_of_beq h]
 ·simp only[jn]at h;rw[eq_of_beq h.1,eq_of_beq h.2]
 ·have c:=eq_of_beq h;rename_i x y;have e:∀z:ByteArray,z=⟨z.toList.toArray⟩:=fun z=>by
   cases z;simp[ByteArray.toList_eq]
  rw[e x,c,<-e y]
theorem Zgc:∀{a b:List DV},ZgY a b=true->a=b
 | [],[],_=>rfl
 | [],_::_,h=>by simp[ZgY]at h
 | _::_,[],h=>by simp[ZgY]at h
 | a::as,b::bs,h=>by
  simp only[ZgY,jn]at h;rw[ZjM h.1,Zgc h.2]
def Zih (T:TS S) (ti:Option TI) (z:List (TV S)):Bool:=match ti with
 | some ti=>ZgY (dvs T z) ti.zero
 | none=>true
theorem Zii {T:TS S} {o:Option TI} {ti:TI} {z:List (TV S)} (h:Zih T o z=true) (a:o=some ti):dvs T z=ti.zero:=by
 subst a;exact Zgc h
inductive Z66 {σ ω:Type} (step:σ->Option (σ⊕ω)):σ->ω->Prop
 | done {x:σ} {o:ω}:step x=some (.inr o)->Z66 step x o
 | next {x y:σ} {o:ω}:step x=some (.inl y)->Z66 step y o->Z66 step x o
theorem Z66.det {σ ω:Type} {step:σ->Option (σ⊕ω)} {x:σ} {o o':ω} (h:Z66 step x o):Z66 step x o'->o=o':=by
 induction h with
 | done h=>intro h';cases h' with
  | done h'=>rw[h]at h';cases h';rfl
  | next h' _=>rw[h]at h';cases h'
 | next h _ ih=>intro h';cases h' with
  | done h'=>rw[h]at h';cases h'
  | next h' h''=>rw[h]at h';cases h';exact ih h''
open Classical in
noncomputable def Za2 {σ ω:Type} (step:σ->Option (σ⊕ω)) (x:σ):Option ω:=if h:∃o,Z66 step x o then some h.choose else none
theorem Z25 {σ ω:Type} {step:σ->Option (σ⊕ω)} {x:σ} {o:ω}:Za2 step x=some o↔Z66 step x o:=by
 unfold Za2;constructor
 ·intro h;split at h
  ·rename_i a;cases h;exact a.choose_spec
  ·cases h
 ·intro h;have a:∃o,Z66 step x o:=⟨o,h⟩;rw[dif_pos a,a.choose_spec.det h]
theorem ZjE {σ ω:Type} (step:σ->Option (σ⊕ω)) (x:σ):Za2 step x=(step x).bind fun | .inl y=>Za2 step y | .inr o=>some o:=by
 cases hs:step x with
 | none =>
  simp only[Option.bind_none];cases hr:Za2 step x with
  | none=>rfl
  | some o =>
   cases Z25.1 hr with
   | done h=>rw[hs]at h;cases h
   | next h _=>rw[hs]at h;cases h
 | some z =>
  cases z with
  | inr o=>simp only[jm];exact Z25.2 (.done hs)
  | inl y =>
   simp only[jm];cases hr:Za2 step y with
   | some o=>exact Z25.2 (.next hs (Z25.1 hr))
   | none =>
    cases hr':Za2 step x with
    | none=>rfl
    | some o =>
     cases Z25.1 hr' with
     | done h=>rw[hs]at h;cases h
     | next h h' =>
      rw[hs]at h;cases h;rw[Z25.2 h']at hr;cases hr
structure Way (S:Nat->Type) where
 ex:Ex
 st:StT S
 ts:List LT
structure LE (S:Nat->Type) where
 key:Key
 head:StT S
 ts:List LT
 outs:List (Way S)
def ZiL (a b:Key):Bool:=Z2C a.path b.path&&Nat.beq a.fid b.fid&&(match a.rnd,b.rnd with|none,none=>true|some x,some y=>Nat.beq x y|_,_=>false)&&Z2C a.pos b.pos&&Nat.beq a.bid b.bid&&Nat.beq a.n0 b.n0
theorem ZiM {a b:Key} (h:ZiL a b=true):a=b:=by
 obtain⟨a1,a2,a3,a4,a5,a6⟩:=a;obtain⟨b1,b2,b3,b4,b5,b6⟩:=b;simp only[ZiL,jn]at h;obtain⟨⟨⟨⟨⟨g,d⟩,c⟩,f⟩,i⟩,e⟩:=h;rw[Z1F g,je d,Z1F f,je i,je e];cases a3<;>cases b3<;>simp only[jg]at c
 ·rfl
 ·rw[je c]
def Zc4 (E:Env):(ws:List (Way S))->Z32 S (ws.map (·.ts))->(Ex->StT S->Option R)->Option R
 | [],_,_=>none
 | [w],o,k=>(Z9j E w.st (eT w.ts o)).bind fun s=>k w.ex s
 | w::w'::ws,o,k=>match o with
  | .inl y=>(Z9j E w.st (eT w.ts y)).bind fun s=>k w.ex s
  | .inr o=>Zc4 E (w'::ws) o k
def Zdv:(ws:List (Way S))->Ex->StT S->Option (Z32 S (ws.map (·.ts)))
 | [],_,_=>none
 | [w],ex,s=>bif Zgp ex w.ex&&Zcr w.st s then dT w.ts (ZeE s)else none
 | w::w'::ws,ex,s=>bif Zgp ex w.ex&&Zcr w.st s then(dT w.ts (ZeE s)).bind fun y=>some (.inl y)else(Zdv (w'::ws) ex s).bind fun o=>some (.inr o)
def LE.ls (X:Ye S) (e:LE S) (run:Tup S e.ts->(Z32 S (e.outs.map (·.ts))->Option R)->Option R) (ls:Z2G S R):Z2G S R:=fun key s k =>
 bif ZiL e.key key then(bif Zcr e.head s then(dT e.ts (ZeE s)).bind fun x=>run x fun o=>Zc4 X.E e.outs o k else none)else ls key s k
def Zh9 (X:Ye S) (key:Key) (head:StT S) (ts:List LT) (tab:List (Nat×F7 S)) (ps:Prs S R) (ls:Z2G S R) (n:Nat) (x:Tup S ts) (kx:Z3K->Ex->StT S->Option R):Option R :=
 (Z9j X.E head (eT ts x)).bind fun s=>(X.E.fn key.fid).bind fun F=>(Code.sub F.body key.pos).bind fun c=>(F.hints.find? fun h=>Nat.beq h.bid key.bid).bind fun hint =>
  Z1l X (Z7k X.T tab ps) ls key.rnd key.fid F (xK X (Z7k X.T tab ps) ls n false) (xK X (Z7k X.T tab ps) ls n true) key.path key.pos key.bid c s (kx hint)
def LE.step (X:Ye S) (e:LE S) (tab:List (Nat×F7 S)) (ps:Prs S (Tup S e.ts⊕Z32 S (e.outs.map (·.ts)))) (ls:Z2G S (Tup S e.ts⊕Z32 S (e.outs.map (·.ts)))) (n:Nat) (x:Tup S e.ts):Option (Tup S e.ts⊕Z32 S (e.outs.map (·.ts))) :=
 Zh9 X e.key e.head e.ts tab ps ls n x fun hint ex s=>match ex with
   | .normal=>(ZfM X hint e.key.n0 s).bind fun s=>bif Zcr e.head s then(dT e.ts (ZeE s)).bind fun y=>some (.inl y)else none
   | ex=>(Zdv e.outs ex s).bind fun o=>some (.inr o)
theorem Zc3 {E:Env} {s:StT S} {ex:Ex} (b:WfO E s.objs):∀{ws:List (Way S)} {o:Z32 S (ws.map (·.ts))},Zdv ws ex s=some o->∀k:Ex->StT S->Option R,Zc4 E ws o k=k ex s
 | [],_,h,_=>by simp[Zdv]at h
 | [w],o,h,k=>by
  simp only[Zdv]at h;obtain⟨c,a⟩:=Z3 h;simp only[jn]at c;simp only[Zc4];rw[Zgi a,Z6L E b c.2,ZbG c.1];rfl
 | w::w'::ws,o,h,k=>by
  simp only[Zdv]at h;cases hc:Zgp ex w.ex&&Zcr w.st s with
  | true =>
   rw[hc]at h;obtain⟨y,a,d⟩:=Z0 h;cases d;simp only[jn]at hc;simp only[Zc4];rw[Zgi a,Z6L E b hc.2,ZbG hc.1];rfl
  | false =>
   rw[hc]at h;obtain⟨y,a,d⟩:=Z0 h;cases d;simp only[Zc4];exact Zc3 b a k
section
variable {X:Ye S} (hX:XOk X) {tab:List (Nat×F7 S)} (ht:ZaC X tab)
include hX ht
theorem Zka {e:LE S} {ps0:Prs S (Tup S e.ts⊕Z32 S (e.outs.map (·.ts)))} (a:Z8Z X ps0) {ls0:Z2G S (Tup S e.ts⊕Z32 S (e.outs.map (·.ts)))} (b:Z4b X ls0) {n:Nat} {run:Tup S e.ts->(Z32 S (e.outs.map (·.ts))->Option R)->Option R} (v:∀x k r,run x k=some r->∃o,Z66 (e.step X tab ps0 ls0 n) x o/\k o=some r)
  {ls:Z2G S R} (hls:Z4b X ls):Z4b X (e.ls X run ls):=fun key s k r h i F c g u hc hh=>by
 unfold LE.ls at h;cases hk:ZiL e.key key with
 | false=>rw[hk]at h;exact hls key s k r h i F c g u hc hh
 | true =>
  rw[hk]at h;have p:=ZiM hk;subst p;simp only[jB]at h;obtain⟨h1,h⟩:=Z3 h;obtain⟨x,h2,h⟩:=Z0 h;have w:Z9j X.E e.head (eT e.ts x)=some s:=by rw[Zgi h2];exact Z6L X.E i h1
  obtain⟨o,hR,h⟩:=v x _ r h
  have main:∀(x:Tup S e.ts) (o:Z32 S (e.outs.map (·.ts))),Z66 (e.step X tab ps0 ls0 n) x o->∀s,Z9j X.E e.head (eT e.ts x)=some s->WfO X.E s.objs →
    ∃ex s',LTo X.E e.key F c g (ZI X.T s) ex (ZI X.T s')/\WfO X.E s'.objs/\(∀(R':Type) (k':Ex->StT S->Option R'),Zc4 X.E e.outs o k'=k' ex s'):=by
   intro x o hr
   induction hr with
   | @done x o hst =>
    intro s w i;unfold LE.step Zh9 at hst;rw[w,jm,u,jm,hc,jm,hh,jm]at hst;have z:=Zed hX (Z3o hX ht a) b n;obtain⟨ex,s',⟨N,q⟩,l,f⟩:=YX hX (Z3o hX ht a) b z.1 z.2 u c _ _ s _ _ hst hc i;cases ex with
    | normal =>
     simp only at f;obtain⟨_,_,d⟩:=Z0 f;obtain⟨_,d⟩:=Z3 d;obtain⟨_,_,d⟩:=Z0 d;cases d
    | _ =>
     simp only at f;obtain⟨o',d,j⟩:=Z0 f;cases j;refine⟨_,s',⟨N,fun m m' hm _=>?_⟩,l,fun R' k'=>Zc3 l d k'⟩;unfold Zhw;rw[q m hm];rfl
   | @next x y o hst _ ih =>
    intro s w i;unfold LE.step Zh9 at hst;rw[w,jm,u,jm,hc,jm,hh,jm]at hst;have z:=Zed hX (Z3o hX ht a) b n;obtain⟨ex,s',⟨N,q⟩,l,f⟩:=YX hX (Z3o hX ht a) b z.1 z.2 u c _ _ s _ _ hst hc i;cases ex with
    | normal =>
     simp only at f;obtain⟨s2,d,j⟩:=Z0 f;obtain⟨h9,j⟩:=Z3 j;obtain⟨y',a2,j⟩:=Z0 j;cases j;obtain⟨a4,t⟩:=Zdu hX d l;have a5:Z9j X.E e.head (eT e.ts y)=some s2:=by rw[Zgi a2];exact Z6L X.E t h9
     obtain⟨ex3,s3,⟨N3,a0⟩,a1,a3⟩:=ih s2 a5 t;refine⟨ex3,s3,⟨max N N3+1,fun m m' hm hm'=>?_⟩,a1,a3⟩;unfold Zhw;rw[q m (by omega)]
     simp only[jm];cases m' with
     | zero=>omega
     | succ m' =>
      simp only[iter];rw[a4];simp only[jm];exact a0 m m' (by omega) (by omega)
    | _ =>
     simp only at f;obtain⟨_,_,d⟩:=Z0 f;cases d
  obtain⟨ex,s',q,l,f⟩:=main x o hR s w i;refine⟨ex,s',q,l,?_⟩;rw[f]at h;exact h
end
def Z4H:Nat->List (TV S)->Tr (TV S)->Tr (TV S)
 | _,[],b=>b
 | i,v::vs,b=>Z4H (i+1) vs (b.set i (some v))
def Zgd (b:Tr (TV S)):Nat->Nat->Option (List (TV S))
 | _,0=>some []
 | i,n+1=>(b.get i).bind fun v=>(Zgd b (i+1) n).bind fun vs=>some (v::vs)
theorem Z7t:∀(vs:List (TV S)) (i:Nat) (b:Tr (TV S)) (j:Nat),(Z4H i vs b).get j=if i<=j/\j<i+vs.length then vs[j-i]? else b.get j
 | [],i,b,j=>by
  have:¬(i<=j/\j<i+([]:List (TV S)).length):=by simp
  rw[if_neg this];rfl
 | v::vs,i,b,j=>by
  simp only[Z4H];rw[Z7t vs (i+1) _ j,Tr.get_set]
  by_cases e:j=i
  ·subst e;rw[if_neg (by omega),if_pos rfl,if_pos ⟨Nat.le_refl _,by simp⟩,Nat.sub_self];rfl
  ·rw[if_neg e]
   by_cases h:i+1<=j/\j<i+1+vs.length
   ·rw[if_pos h,if_pos ⟨by omega,by simp only[List.length_cons];omega⟩,show j-i=(j-(i+1))+1 by omega];simp
   ·rw[if_neg h,if_neg];simp only[List.length_cons];omega
theorem Zfq {b:Tr (TV S)}:∀(vs:List (TV S)) (i:Nat),(∀j,j<vs.length->b.get (i+j)=vs[j]?)->Zgd b i vs.length=some vs
 | [],_,_=>rfl
 | v::vs,i,h=>by
  simp only[List.length_cons,Zgd];have a:=h 0 (by simp)
  simp only[Nat.add_zero,List.getElem?_cons_zero]at a;rw[a,jm,Zfq vs (i+1) fun j c=>by
   have:=h (j+1) (by simp;omega)
   rw[show i+1+j=i+(j+1) by omega,this];simp]
  rfl
theorem Zek (vs:List (TV S)):Zgd (Z4H 0 vs .leaf) 0 vs.length=some vs:=Zfq vs 0 fun j a=>by
 rw[Z7t,if_pos ⟨by omega,by omega⟩];simp
structure PE (S:Nat->Type) where
 g:Nat
 ar:Nat
 head:StT S
 ts:List LT
 outs:List (Way S)
def PE.ps (X:Ye S) (e:PE S) (run:Tup S e.ts->(Z32 S (e.outs.map (·.ts))->Option R)->Option R) (ps:Prs S R):Prs S R:=fun g as s n0 k =>
 bif Nat.beq e.g g&&(Nat.beq e.ar as.length&&Zcr e.head ⟨Z4H 0 as .leaf,s,n0⟩)then
  (dT e.ts (ZeE ⟨Z4H 0 as .leaf,s,n0⟩)).bind fun x=>run x fun o=>Zc4 X.E e.outs o fun _ st=>(st.base.get 0).bind fun v=>k v st.objs st.next
 else ps g as s n0 k
def PE.body (X:Ye S) (e:PE S) (tab:List (Nat×F7 S)) (ps:Prs S R) (ls:Z2G S R) (n:Nat) (x:Tup S e.ts) (k:StT S->Option R):Option R :=
 (Z9j X.E e.head (eT e.ts x)).bind fun s=>(Zgd s.base 0 e.ar).bind fun as=>(X.E.fn e.g).bind fun F=>bif Nat.ble as.length F.nt then
  Z1l X (Z7k X.T tab ps) ls none e.g F (xK X (Z7k X.T tab ps) ls n false) (xK X (Z7k X.T tab ps) ls n true) [e.g] [] 0 F.body ⟨Z1k F.vmask 0 as .leaf,s.objs,s.next⟩ fun ex s2=>match ex with
   | .exit _ | .busy=>none
   | _=>Zf1 X s2.base.get s2.objs.get F.nres fun vs=>Zfx s.next (Z5b vs) s2.objs fun v o n=>k ⟨Z4H 0 [v] .leaf,o,n⟩
 else none
def PE.step (X:Ye S) (e:PE S) (tab:List (Nat×F7 S)) (ps:Prs S (Z32 S (e.outs.map (·.ts)))) (ls:Z2G S (Z32 S (e.outs.map (·.ts)))) (n:Nat) (x:Tup S e.ts):Option (Z32 S (e.outs.map (·.ts))) :=
 e.body X tab ps ls n x fun st=>Zdv e.outs .ret st
def ZcA (X:Ye S) (e:PE S) (F:Tup S e.ts->Option (Z32 S (e.outs.map (·.ts)))):Prop:=∀x o,F x=some o->∀s as,Z9j X.E e.head (eT e.ts x)=some s->Zgd s.base 0 e.ar=some as->WfO X.E s.objs →
 ∃v os n',(∀(R':Type) (k':Ex->StT S->Option R'),Zc4 X.E e.outs o k'=k' .ret ⟨Z4H 0 [v] .leaf,os,n'⟩)/\WfO X.E os ∧
  Evt fun n=>(ZhT X.E n e.g (dvl X.T as) (s.objs.mapv (dvO X.T)) s.next).bind (Z8m s.next)=some (dv X.T v,os.mapv (dvO X.T),n')
section
variable {X:Ye S} (hX:XOk X)
include hX
omit hX in
theorem Zk3 {e:PE S} {F:Tup S e.ts->Option (Z32 S (e.outs.map (·.ts)))} (q:ZcA X e F) {ps:Prs S R} (c:Z8Z X ps):Z8Z X (e.ps X (fun x k=>(F x).bind k) ps):=fun g as s n0 k r h a=>by
 unfold PE.ps at h;cases hb:Nat.beq e.g g&&(Nat.beq e.ar as.length&&Zcr e.head ⟨Z4H 0 as .leaf,s,n0⟩)with
 | false=>rw[hb]at h;exact c g as s n0 k r h a
 | true =>
  rw[hb]at h;simp only[jB]at h;simp only[jn]at hb;obtain⟨b,f,d⟩:=hb;have b:=je b;have f:=je f;subst b;obtain⟨x,i,h⟩:=Z0 h;obtain⟨o,j,h⟩:=Z0 h;have l:Z9j X.E e.head (eT e.ts x)=some ⟨Z4H 0 as .leaf,s,n0⟩:=by rw[Zgi i];exact Z6L X.E a d
  obtain⟨v,os,n',n,p,m⟩:=q x o j _ as l (by rw[f];exact Zek as) a
  rw[n]at h;have hv:(Z4H 0 [v] .leaf:Tr (TV S)).get 0=some v:=by rw[Z7t];rfl
  rw[hv,jm]at h;exact⟨v,os,n',m,p,h⟩
theorem ZjB {tab:List (Nat×F7 S)} (ht:ZaC X tab) {e:PE S} {ps:Prs S (Z32 S (e.outs.map (·.ts)))} (c:Z8Z X ps) {ls:Z2G S (Z32 S (e.outs.map (·.ts)))} (hls:Z4b X ls) (n:Nat):ZcA X e (e.step X tab ps ls n):=fun x o h s as hs r hw=>by
 unfold PE.step PE.body at h;rw[hs,jm,r,jm]at h;obtain⟨F,u,h⟩:=Z0 h;obtain⟨hl,h⟩:=Z3 h;have z:=Zed hX (Z3o hX ht c) hls n;obtain⟨ex,s2,h1,h2,w⟩:=YX hX (Z3o hX ht c) hls z.1 z.2 u F.body [] 0 _ _ o h rfl hw;have q:(∃vs,Z4w X.E (dvr X.T s2.base.get) (dvh X.T s2.objs.get) F.nres=some (dvl X.T vs)/\Zfx s.next (Z5b vs) s2.objs (fun v o n=>Zdv e.outs .ret ⟨Z4H 0 [v] .leaf,o,n⟩)=some o)/\(∀i,ex≠.exit i)/\ex≠.busy:=by
  cases ex<;>simp only[reduceCtorEq]at w<;>exact⟨Z8U hX w,by simp,by simp⟩
 obtain⟨⟨vs,h4,l⟩,h6,h7⟩:=q;obtain⟨v',o',n',h8,h9,l⟩:=Zhq hX.t (n:=s2.next) l;have a:WfO X.E o':=fun i=>by
  cases hi:o'.get i with
  | none=>trivial
  | some y =>
   obtain⟨j,x,k,rfl⟩:=h9 i y hi;have:=h2 j;rw[k]at this;exact Zfk this
 refine⟨v',o',n',fun R' k'=>Zc3 (s:=⟨_,_,_⟩) a l k',a,h1.mono fun m hm=>?_⟩;have b:ZhT X.E m e.g (dvl X.T as) (s.objs.mapv (dvO X.T)) s.next=some (dv X.T (Z5b vs),s2.objs.mapv (dvO X.T),s2.next):=by
  unfold ZhT Za1;rw[u];have p:Nat.ble (dvl X.T as).length F.nt=true:=by rw[Z5s,List.length_map];exact hl
  simp only[jm,p,jB];have e1:(⟨Z2a F.vmask 0 (dvl X.T as) .leaf,s.objs.mapv (dvO X.T),s.next⟩:St)=ZI X.T ⟨Z1k F.vmask 0 as .leaf,s.objs,s.next⟩:=by
   simp only[ZI];rw[<-Z4c];rfl
  rw[e1];have d:evC X.E none e.g F (fun g as=>(evX X.E m false g as .leaf 0).bind fun x=>frz x.2.1.get x.1) (evX X.E m false) (evX X.E m true) m 0 F.body (ZI X.T ⟨Z1k F.vmask 0 as .leaf,s.objs,s.next⟩)=some (ex,ZI X.T s2):=hm;rw[d];simp only[jm];have f:Z4w X.E (ZI X.T s2).base.get (ZI X.T s2).objs.get F.nres=some (dvl X.T vs):=by
   show Z4w X.E (s2.base.mapv (dv X.T)).get (s2.objs.mapv (dvO X.T)).get F.nres=_;rw[ZfK,Z5T];exact h4
  cases ex with
  | exit i=>exact absurd rfl (h6 i)
  | busy=>exact absurd rfl h7
  | _=>simp only[f,jm,Zc7];rfl
 rw[b];exact h8
end
theorem Zkb {X:Ye S} {e:PE S} {F F':Tup S e.ts->Option (Z32 S (e.outs.map (·.ts)))} (h:ZcA X e F) (q:∀x o,F' x=some o->F x=some o):ZcA X e F':=fun x o a=>h x o (q x o a)
theorem Zk4 {X:Ye S} {e:PE S} {t:(Tup S e.ts->Option (Z32 S (e.outs.map (·.ts))))->Tup S e.ts->Option (Z32 S (e.outs.map (·.ts)))} (h:∀ih,ZcA X e ih->ZcA X e (t ih)):ZcA X e (Zb7 t):=fun x o hr=>by
 obtain⟨n,a⟩:=Z9S hr;have:∀n,ZcA X e (Z9y t n):=fun n=>by
  induction n with
  | zero=>intro x o h;cases h
  | succ n ih=>exact h _ ih
 exact this n x o a
theorem ZjX {α β:Type} (f:α->β) (c:Bool) (x y:Option α):Option.map f (bif c then x else y)=bif c then Option.map f x else Option.map f y:=by cases c<;>rfl
theorem ZjO {α β γ:Type} (f:β->γ) (x:Option α) (g:α->Option β):Option.map f (x.bind g)=x.bind fun a=>Option.map f (g a):=by cases x<;>rfl
theorem ZjY {α β γ δ:Type} (f:γ->δ) (l:α->Option γ) (r:β->Option γ) (x:α⊕β):Option.map f (Sum.elim l r x)=Sum.elim (fun a=>Option.map f (l a)) (fun b=>Option.map f (r b)) x:=by cases x<;>rfl
theorem Zk6 {B Ω σ ω:Type} {big:B->Option (B⊕Ω)} {st:B->σ->Option (σ⊕ω)} {prj:B->σ} {emb:B->σ->B} {embO:B->ω→Ω}
  (b:∀x,big x=(st x (prj x)).map (Sum.map (emb x) (embO x))) (a:∀x v,st (emb x v)=st x) (c:∀x v,prj (emb x v)=v) (e:∀x v w,emb (emb x v) w=emb x w) (f:∀x v w,embO (emb x v) w=embO x w) (d:∀x,emb x (prj x)=x)
  {x:B} {o:ω} (h:Z66 (st x) (prj x) o):Z66 big x (embO x o):=by
 have main:∀(v:σ) (o:ω),Z66 (st x) v o->Z66 big (emb x v) (embO x o):=fun v o hr=>by
  induction hr with
  | @done v o hs=>exact .done (by rw[b,a,c,hs,jq,Sum.map_inr,f])
  | @next v w o hs _ ih=>exact .next (by rw[b,a,c,hs,jq,Sum.map_inl,e]) ih
 have:=main _ o h
 rwa [d]at this
def ZiW:Z2G S R:=fun _ _ _=>none
theorem Zjx (X:Ye S):Z4b X (ZiW (R:=R)):=fun _ _ _ _ h=>by cases h
end Go.Ab
namespace Go.Ab
open Go.RowKit
variable {S:Nat->Type}
def Z1K (T:TS S):(ts:List Ty)->Z4P S ts->List DV
 | [],_=>[]
 | t::ts,x=>dcl T t x.1++Z1K T ts x.2
def vok (lim:Ty->Nat) (ok:∀i,S i->Prop):(t:Ty)->Val S t->Prop
 | .bool,_=>True
 | .int k,n=>(Lit.int k n).wf=true
 | .str,s=>s.size<=maxLen
 | .sl t,xs=>List.length (α:=Val S t) xs<=lim t/\∀x:Val S t,List.Mem x xs->vok lim ok t x
 | .arr n t,a=>∀j,j<n->vok lim ok t (a j)
 | .st i,x=>ok i x
def aok (lim:Ty->Nat) (ok:∀i,S i->Prop):(ts:List Ty)->Z4P S ts->Prop
 | [],_=>True
 | t::ts,x=>vok lim ok t x.1/\aok lim ok ts x.2
structure SF (T:TS S) where
 flds:Nat->List Ty
 make:∀i,Z4P S (flds i)->S i
 ok:(Ty->Nat)->∀i,S i->Prop
 mk_dl:∀i xs,T.dcells i (make i xs)=Z1K T (flds i) xs
 mk_ok:∀lim i xs,aok lim (ok lim) (flds i) xs->ok lim i (make i xs)
structure Zee {H:Type} (P:Program) (code:Nat->Option Ty) (lim:Ty->Nat) (B:Nat->DataW H->Prop):Prop where
 slice:∀t e elems spare c,code e=some c->P.underlying t=some (.slice e)->0<P.bytesOf e->B t (.slice elems spare)->elems.length<=lim c/\∀d,d∈elems->B e d
 struct:∀t fs parts,P.underlying t=some (.struct fs)->B t (.agg parts)->∀(j:Nat) f d,fs[j]? = some f->parts[j]? = some d->B f.type d
 array:∀t n e parts,P.underlying t=some (.array n e)->B t (.agg parts)->∀d,d∈parts->B e d
def Z4h (code:Nat->Option Ty) (sz:Ty->Nat):Nat->List (Nat×Nat)->List Ty->Option Nat
 | off,[],[]=>some off
 | off,(t,o)::fs,c::cs=>bif Nat.beq o off&&decide (code t=some c)then Z4h code sz (off+sz c) fs cs else none
 | _,_,_=>none
def Z9R (code:Nat->Option Ty) (ty:Nat->Option TI) (sz:Ty->Nat) (flds:Nat->List Ty) (o:Option TI) (c:Ty):Bool:=match o with
 | none=>false
 | some ti=>Nat.beq ti.size (sz c)&&(match c,ti.k with
  | .bool,.bool=>true
  | .int k,.int k'=>decide (k=k')
  | .str,.string=>true
  | .sl c',.slice e=>decide (code e=some c')&&(Nat.blt 0 (sz c')&&(match ty e with|some te=>Nat.blt 0 te.bytes|none=>false))
  | .arr n c',.array n' e=>Nat.beq n n'&&decide (code e=some c')
  | .st i,.struct fs=>match Z4h code sz 0 fs (flds i)with|some z=>Nat.beq z ti.size|none=>false
  | _,_=>false)
theorem Z9W {β:Bi} {G:Gh}:∀{a b:List DV} {x y:List Value},Ze β G a x->Ze β G b y->Ze β G (a++b) (x++y)
 | [],b,x,y,h1,h2=>by unfold Ze at h1;subst h1;exact h2
 | d::a,b,x,y,h1,h2=>by
  unfold Ze at h1;obtain⟨v,vs,rfl,e,c⟩:=h1;show Ze β G (d::(a++b)) (v::(vs++y));unfold Ze;exact⟨v,vs++y,rfl,e,Z9W c h2⟩
theorem Z3Y {β:Bi} {G:Gh} {d:DV} {v:Value} (h:Rep β G d v):Ze β G [d] [v]:=by
 unfold Ze;exact⟨v,[],rfl,h,by unfold Ze;rfl⟩
theorem Z4W {α ξ:Type} {Q:α→ξ→Prop}:∀{l:List α},(∀a,a∈l->∃x,Q a x)->∃xs:List ξ,xs.length=l.length/\∀j (d:j<l.length) (c:j<xs.length),Q l[j] xs[j]
 | [],_=>⟨[],rfl,fun j h=>by simp at h⟩
 | a::l,h=>by
  obtain⟨x,i⟩:=h a (by simp)
  obtain⟨xs,d,c⟩:=Z4W (l:=l) (fun b g=>h b (List.mem_cons_of_mem _ g));refine⟨x::xs,by simp[d],fun j f e=>?_⟩
  cases j with
  | zero=>exact i
  | succ j=>exact c j (by simpa using f) (by simpa using e)
section
variable {H:Type} {enc:TypeId×Value->H} {P:Program} {w:World} {sp:Nat->Bool} {held:Bool} {β:Bi} {G:Gh}
theorem ZaH {a:Addr} {n:Nat} {cs:List Value} (h:w.cells? 0 a n=some cs):cs.length=n/\∀i,(hi:i<cs.length)->w.cell? (a.add i)=some cs[i]:=by
 unfold World.cells? at h;rw[if_pos (Nat.zero_le _)]at h;have gen:∀(l:List Nat) (r:List Value),l.mapM (fun i=>w.cell? (a.add i))=some r->r.length=l.length/\∀j,(c:j<l.length)->(d:j<r.length)->w.cell? (a.add l[j])=some r[j]:=by
  intro l
  induction l with
  | nil=>intro r h;simp at h;subst h;exact⟨rfl,fun j h=>by simp at h⟩
  | cons b l ih =>
   intro r h;rw[List.mapM_cons]at h;simp only[Option.bind_eq_bind,Option.bind_eq_some_iff]at h;obtain⟨y,hy,ys,f,hr⟩:=h;have e:y::ys=r:=by simpa using hr
   subst e;obtain⟨c,d⟩:=ih ys f;refine⟨by simp[c],fun j g k=>?_⟩
   cases j with
   | zero=>exact hy
   | succ j=>exact d j (by simpa using g) (by simpa using k)
 obtain⟨c,d⟩:=gen _ _ h;rw[List.length_range]at c;refine⟨c,fun i hi=>?_⟩;have:=d i (by rw[List.length_range];omega) hi
 rwa [List.getElem_range]at this
theorem ZhR (a:∀b o v,w.cell? ⟨b,o,none⟩=some v->G b o=some v) {b:Nat}:∀{ds:List DV} {cs:List Value} {o:Nat},Ze β G ds cs->(∀i,(hi:i<cs.length)->w.cell? ⟨b,o+i,none⟩=some cs[i])->Pub β G b o ds
 | [],_,_,_,_=>by unfold Pub;trivial
 | d::ds,cs,o,h,hc=>by
  unfold Ze at h;obtain⟨v,vs,rfl,e,c⟩:=h;unfold Pub;refine⟨⟨v,a _ _ _ (hc 0 (by simp)),e⟩,ZhR a c (fun i hi=>?_)⟩
  have:=hc (i+1) (by simpa using hi)
  rw[show o+1+i=o+(i+1) by omega]
  simpa using this
variable {lim:Ty->Nat} {B:Nat->DataW H->Prop} {X:Ye S} (hX:XOk X) (F:SF X.T) (hE:∀ t ti,X.E.ty t=some ti->ZL P t ti)
 (hR:∀t c,X.code t=some c->Z9R X.code X.E.ty (tsz X.T) F.flds (X.E.ty t) c=true)
include hX hE hR
theorem Z4f {t:TypeId} {c:Ty} (hc:X.code t=some c):P.cellsOf t=tsz X.T c:=by
 have h:=hR t c hc;unfold Z9R at h;cases ht:X.E.ty t with
 | none=>rw[ht]at h;cases h
 | some ti =>
  rw[ht]at h;simp only[jn]at h;obtain⟨i,z,b,a,_⟩:=(hE t ti ht).info;unfold Program.cellsOf;rw[b];show i.size=_;rw[a];exact je h.1
theorem Z8n {fuel:Nat} (ih:∀t c cs x,X.code t=some c->B t x.1->DataW.trod enc P w 0 sp held fuel t cs=some x->∃v:Val S c,Ze β G (dcl X.T c v) cs/\vok lim (F.ok lim) c v) (cs:List Value) :
  ∀(fields:List Field) (cts:List Ty) (off en:Nat),Z4h X.code (tsz X.T) off (fields.map fun f=>(f.type,f.offset)) cts=some en →
   (∀f,f∈fields->∃x,B f.type x.1/\DataW.trod enc P w 0 sp held fuel f.type ((cs.drop f.offset).take (P.cellsOf f.type))=some x)->off<=en/\∃v:Z4P S cts,Ze β G (Z1K X.T cts v) ((cs.drop off).take (en-off))/\aok lim (F.ok lim) cts v
 | [],[],off,en,h,_=>by
  simp only[List.map_nil,Z4h,jh]at h;subst h;refine⟨Nat.le_refl _,(),?_,trivial⟩;rw[Nat.sub_self,List.take_zero];show Ze β G [] [];unfold Ze;rfl
 | [],_::_,off,en,h,_=>by simp[Z4h]at h
 | _::_,[],off,en,h,_=>by simp[Z4h]at h
 | f::fields,c::cts,off,en,h,hm=>by
  simp only[jr,Z4h]at h;cases hb:(Nat.beq f.offset off&&decide (X.code f.type=some c))with
  | false=>rw[hb]at h;cases h
  | true =>
   rw[hb,jB]at h;simp only[jn,jk]at hb;have j:=je hb.1;obtain⟨y,d,hy⟩:=hm f (by simp)
   obtain⟨v,hv,b⟩:=ih _ _ _ _ hb.2 d hy;obtain⟨l,vs,i,a⟩:=Z8n ih cs fields cts (off+tsz X.T c) en h (fun g k=>hm g (List.mem_cons_of_mem _ k));rw[Z4f hX F hE hR hb.2,j]at hv;refine⟨by omega,(v,vs),?_,b,a⟩
   have e:(cs.drop off).take (en-off)=(cs.drop off).take (tsz X.T c)++(cs.drop (off+tsz X.T c)).take (en-(off+tsz X.T c)):=by
    rw[show en-off=tsz X.T c+(en-(off+tsz X.T c)) by omega,List.take_add,List.drop_drop]
   rw[e];exact Z9W hv i
theorem Zj0 (hB:Zee P X.code lim B) (hG:∀b o v,w.cell? ⟨b,o,none⟩=some v->G b o=some v):∀(fuel:Nat) (t:TypeId) (c:Ty) (cs:List Value) (x:DataW H×List MemPlace),X.code t=some c->B t x.1 →
  DataW.trod enc P w 0 sp held fuel t cs=some x->∃v:Val S c,Ze β G (dcl X.T c v) cs/\vok lim (F.ok lim) c v:=by
 intro fuel
 induction fuel with
 | zero=>intro t c cs x _ _ h;simp[DataW.trod]at h
 | succ fuel ih =>
  intro t c cs x hc y h;have hr:=hR t c hc;unfold Z9R at hr;cases ht:X.E.ty t with
  | none=>rw[ht]at hr;cases hr
  | some ti =>
   rw[ht]at hr;have hT:=hE t ti ht;have u:=hT.desc;simp only[jn]at hr;obtain⟨hsz,q⟩:=hr;have a6:=Z4f hX F hE hR hc;cases c with
   | bool =>
    split at q<;>try (cases q;done)
    all_goals (rename_i p d;try cases p)
    rw[d]at u;obtain⟨b,rfl,_⟩:=DataW.trod_bool u h;exact⟨b,Z3Y (by unfold Rep;rfl),trivial⟩
   | int k =>
    split at q<;>try (cases q;done)
    all_goals (rename_i p d;try cases p)
    rename_i k';have:=of_decide_eq_true q;subst this;rw[d]at u;obtain⟨n,rfl,_,hw⟩:=DataW.trod_int u h;exact⟨n,Z3Y (by unfold Rep;rfl),hw⟩
   | str =>
    split at q<;>try (cases q;done)
    all_goals (rename_i p d;try cases p)
    rw[d]at u;obtain⟨s,rfl,_,hw⟩:=DataW.trod_string u h;exact⟨s,Z3Y (by unfold Rep;rfl),hw⟩
   | sl c' =>
    split at q<;>try (cases q;done)
    all_goals (rename_i p d;try cases p)
    rename_i e;simp only[jn,jk]at q;obtain⟨a0,hpos,hby⟩:=q;have hbytes:0<P.bytesOf e:=by
     cases hte:X.E.ty e with
     | none=>rw[hte]at hby;cases hby
     | some te =>
      rw[hte]at hby;simp only[Nat.blt,Nat.ble_eq]at hby;obtain⟨i,z,q1,_,q2,_⟩:=(hE e te hte).info;unfold Program.bytesOf;rw[q1];show 0<i.bytes;omega
    have hpos:0<tsz X.T c':=by simp only[Nat.blt,Nat.ble_eq]at hpos;omega
    have a3:=Z4f hX F hE hR a0;rw[d]at u;rcases DataW.trod_slice u h with⟨rfl,_⟩|⟨a,len,cap,elems,rest,n,hn,rfl,a5,_,hlc,hmx,hel,g,_⟩
    ·refine⟨([]:List (Val S c')),Z3Y ?_,⟨Nat.zero_le _,fun x hx=>by cases hx⟩⟩
     show Rep β G (.sl []) _;unfold Rep;exact⟨none,0,⟨rfl,Nat.le_refl _⟩,.inl rfl⟩
    ·cases hn;rw[a5]at y;obtain⟨hlim,hBe⟩:=hB.slice _ _ _ _ _ a0 u hbytes y;rw[List.length_map,hel]at hlim;have hall:∀i,i∈List.range len->∃(xv:Val S c') (ecs:List Value),w.cells? 0 (a.add (i*P.cellsOf e)) (P.cellsOf e)=some ecs/\Ze β G (dcl X.T c' xv) ecs/\vok lim (F.ok lim) c' xv:=fun i hi=>by
      have hi':i<len:=by simpa using hi
      have hy:=g i hi';rw[List.getElem?_eq_getElem (by omega)]at hy
      simp only[Option.bind_eq_some_iff]at hy;obtain⟨ecs,h1,h2⟩:=hy;obtain⟨v,h3,h4⟩:=ih e c' ecs _ a0 (hBe _ (List.mem_map.2 ⟨_,jl (by omega),rfl⟩)) h2
      exact⟨v,ecs,h1,h3,h4⟩
     ·obtain⟨xs,a4,hxs⟩:=Z4W (l:=List.range len) (Q:=fun i (xv:Val S c')=>∃(ecs:List Value),w.cells? 0 (a.add (i*P.cellsOf e)) (P.cellsOf e)=some ecs/\Ze β G (dcl X.T c' xv) ecs/\vok lim (F.ok lim) c' xv) hall;rw[List.length_range]at a4;have r:∀j,(hj:j<xs.length)->∃(ecs:List Value),w.cells? 0 (a.add (j*tsz X.T c')) (tsz X.T c')=some ecs/\Ze β G (dcl X.T c' xs[j]) ecs/\vok lim (F.ok lim) c' xs[j]:=fun j hj=>by
       have:=hxs j (by rw[List.length_range];omega) hj
       rw[List.getElem_range,a3]at this;exact this
      refine⟨(xs:List (Val S c')),Z3Y ?_,⟨by omega,fun x hx=>?_⟩⟩
      ·show Rep β G (.sl (xs.map (dcl X.T c'))) _;unfold Rep;refine⟨some a,cap,⟨by rw[List.length_map,a4],by rw[List.length_map];omega⟩,?_⟩
       by_cases hnil:xs=[]
       ·left;rw[hnil];rfl
       ·right;have hl0:0<xs.length:=List.length_pos_iff.2 hnil;have a2:a.spot=none:=by
         obtain⟨ecs,h1,_,_⟩:=r 0 hl0;obtain⟨h3,h4⟩:=ZaH h1;have:=h4 0 (by omega)
         rw[Nat.zero_mul]at this;simp only[Addr.add,if_true]at this;unfold World.cell? at this;split at this
         ·split at this
          ·cases this
          ·rename_i hs;cases hsp:a.spot with
           | none=>rfl
           | some z=>rw[hsp]at hs;exact absurd rfl hs
         ·cases this
        obtain⟨ab,ao,asp⟩:=a;simp only at a2;subst a2;refine⟨ab,ao,tsz X.T c',rfl,?_⟩;have gen:∀(n k:Nat),k+n=xs.length->Ym β G ab (tsz X.T c') (ao+k*tsz X.T c') ((xs.drop k).map (dcl X.T c')):=by
         intro n
         induction n with
         | zero =>
          intro k q;rw[jd (by omega)]
          simp only[List.map_nil];unfold Ym;trivial
         | succ n ihn =>
          intro k q;have hk':k<xs.length:=by omega
          rw[jb hk'];simp only[jr];unfold Ym;obtain⟨ecs,h1,h2,_⟩:=r k hk';obtain⟨h3,h4⟩:=ZaH h1;refine⟨Yd hX.t c' _,⟨Z1G (Z2X hX.t c' _),Z2u (Z2X hX.t c' _)⟩,ZhR hG h2 (fun i hi=>?_),?_⟩
          ·have:=h4 i hi;have e:(Addr.add (Addr.add ⟨ab,ao,none⟩ (k*tsz X.T c')) i)=⟨ab,ao+k*tsz X.T c'+i,none⟩:=by
            simp only[Addr.add]
            by_cases hz:k*tsz X.T c'=0
            ·by_cases hi0:i=0
             ·simp[hz,hi0]
             ·simp[hz,hi0]
            ·by_cases hi0:i=0
             ·simp[hz,hi0]
             ·simp[hz,hi0]
           rwa [e]at this
          ·have:=ihn (k+1) (by omega)
           rw[show ao+k*tsz X.T c'+tsz X.T c'=ao+(k+1)*tsz X.T c' by rw[Nat.succ_mul];omega]
           exact this
        have:=gen xs.length 0 (by omega)
        rw[Nat.zero_mul,Nat.add_zero,List.drop_zero]at this;exact this
      ·obtain⟨j,hj,rfl⟩:=List.getElem_of_mem hx;obtain⟨_,_,_,h3⟩:=r j hj;exact h3
   | arr n c' =>
    split at q<;>try (cases q;done)
    all_goals (rename_i p d;try cases p)
    rename_i n' e;simp only[jn,jk]at q;obtain⟨hn,a0⟩:=q;have hn:=je hn;subst hn;have a3:=Z4f hX F hE hR a0;rw[d]at u
    ·obtain⟨xs0,m,hm,a5,a1,hxl0,g⟩:=DataW.trod_array u h;cases hm;rw[a5]at y;have hBe:=hB.array _ _ _ _ u y;obtain⟨xs,a4,hxs⟩:=Z4W (l:=List.range n) (Q:=fun i (xv:Val S c')=>Ze β G (dcl X.T c' xv) ((cs.drop (i*P.cellsOf e)).take (P.cellsOf e))/\vok lim (F.ok lim) c' xv) (fun i hi=>by
      have hi':i<n:=by simpa using hi
      have hy:=g i hi';rw[List.getElem?_eq_getElem (by omega)]at hy
      exact ih e c' _ _ a0 (hBe _ (List.mem_map.2 ⟨_,jl (by omega),rfl⟩)) hy)
     rw[List.length_range]at a4;have r:∀j,(hj:j<n)->Ze β G (dcl X.T c' (xs.getD j (tdf X.T c'))) ((cs.drop (j*tsz X.T c')).take (tsz X.T c'))/\vok lim (F.ok lim) c' (xs.getD j (tdf X.T c')):=fun j hj=>by
      have a7:j<xs.length:=by omega
      have:=hxs j (by rw[List.length_range];omega) a7
      rw[List.getElem_range,a3]at this;have e2:xs.getD j (tdf X.T c')=xs[j]:=by simp[List.getD,a7]
      rw[e2];exact this
     refine⟨(fun j=>xs.getD j (tdf X.T c')),?_,fun j hj=>(r j hj).2⟩;show Ze β G ((List.range n).flatMap fun j=>dcl X.T c' (xs.getD j (tdf X.T c'))) cs;have gen:∀k,k<=n->Ze β G ((List.range k).flatMap fun j=>dcl X.T c' (xs.getD j (tdf X.T c'))) (cs.take (k*tsz X.T c')):=by
      intro k
      induction k with
      | zero =>
       intro _;rw[Nat.zero_mul,List.take_zero];show Ze β G [] [];unfold Ze;rfl
      | succ k ihk =>
       intro q;rw[List.range_succ,List.flatMap_append,Nat.succ_mul,List.take_add];refine Z9W (ihk (by omega)) ?_
       simp only[List.flatMap_cons,List.flatMap_nil,jo];exact(r k (by omega)).1
     have:=gen n (Nat.le_refl _);rw[List.take_of_length_le (by rw[a1,a6];exact Nat.le_refl _)]at this
     exact this
   | st i =>
    split at q<;>try (cases q;done)
    all_goals (rename_i p d;try cases p)
    rename_i fs;rw[d]at u;obtain⟨fields,hu,hfs,_⟩:=u;split at q
    ·rename_i z hz;have hz2:=je q;obtain⟨xs,m,hm,a5,a1,a4,g⟩:=DataW.trod_struct hu h;cases hm;rw[a5]at y;have hBf:=hB.struct _ _ _ hu y;rw[<-hfs]at hz
     ·obtain⟨_,v,hv,hvk⟩:=Z8n hX F hE hR ih cs _ _ 0 z hz (fun f hf=>by
       obtain⟨j,hj,hfj⟩:=List.getElem_of_mem hf;have a7:j<fields.size:=by simpa using hj
       have:=g j f (by rw[Array.getElem?_eq_getElem a7];simpa using hfj)
       rw[List.getElem?_eq_getElem (by omega)]at this
       exact⟨_,hBf j f _ (by rw[Array.getElem?_eq_getElem a7];simpa using hfj) (by rw[List.getElem?_map,List.getElem?_eq_getElem (by omega)];rfl),this⟩)
      refine⟨F.make i v,?_,F.mk_ok lim i v hvk⟩;show Ze β G (X.T.dcells i (F.make i v)) cs;rw[F.mk_dl];rw[Nat.sub_zero,List.drop_zero,List.take_of_length_le (by rw[a1,a6,hz2,je hsz];exact Nat.le_refl _)]at hv
      exact hv
    ·cases q
theorem Zjo (hB:Zee P X.code lim B) (hG:∀b o v,w.cell? ⟨b,o,none⟩=some v->G b o=some v) {t:TypeId} {c:Ty} {v:Value} {d:DataW H} {ps:List MemPlace} {r:Reach} {base:Nat} (hc:X.code t=some c) (g:Value.okWide P w r base t v) (q:B t d)
  (h:DataW.Trod enc P w 0 sp held t v d ps):∃x:Val S c,Rep β G (Yr X.T c x) v/\vok lim (F.ok lim) c x:=by
 obtain⟨fuel,h⟩:=h;obtain⟨x,p,y⟩:=Zj0 (β:=β) hX F hE hR hB hG fuel t c _ _ hc q h;refine⟨x,?_,y⟩;have hr:=hR t c hc;unfold Z9R at hr;cases ht:X.E.ty t with
 | none=>rw[ht]at hr;cases hr
 | some ti =>
  rw[ht]at hr;have j:=(hE t ti ht).desc;simp only[jn]at hr;obtain⟨_,m⟩:=hr;have one:∀{d:DV},(∀cs,v≠.agg cs)->Ze β G [d] v.cells.toList->Rep β G d v:=fun {d} hne h=>by
   have hcs:v.cells = #[v]:=by cases v<;>simp[Value.cells]at hne⊢
   rw[hcs]at h;unfold Ze at h;obtain⟨u,us,h3,z,_⟩:=h;cases h3;exact z
  cases c with
  | bool =>
   split at m<;>try (cases m;done)
   all_goals (rename_i f e;try cases f)
   rw[e]at j;obtain⟨b,rfl⟩:=WideShapes.okWide_bool j g;exact one (fun cs h=>by cases h) p
  | int k =>
   split at m<;>try (cases m;done)
   all_goals (rename_i f e;try cases f)
   rw[e]at j;obtain⟨n,rfl⟩:=WideShapes.okWide_int j g;exact one (fun cs h=>by cases h) p
  | str =>
   split at m<;>try (cases m;done)
   all_goals (rename_i f e;try cases f)
   rw[e]at j;obtain⟨s,rfl⟩:=WideShapes.okWide_string j g;exact one (fun cs h=>by cases h) p
  | sl c' =>
   split at m<;>try (cases m;done)
   all_goals (rename_i f e;try cases f)
   rw[e]at j;obtain⟨a,l,cp,rfl⟩:=WideShapes.okWide_slice j g;exact one (fun cs h=>by cases h) p
  | arr n c' =>
   split at m<;>try (cases m;done)
   all_goals (rename_i f e;try cases f)
   rw[e]at j;simp only[Value.okWide,j]at g;obtain⟨cs,rfl,_,_⟩:=g;show Rep β G (.agg (acl X.T c' n x)) _;unfold Rep;exact⟨cs.toList,by simp,p⟩
  | st i =>
   split at m<;>try (cases m;done)
   all_goals (rename_i f e;try cases f)
   rw[e]at j;obtain⟨fields,hu,_⟩:=j;obtain⟨cs,rfl,_⟩:=WideShapes.okWide_struct hu g;show Rep β G (.agg (X.T.dcells i x)) _;unfold Rep;exact⟨cs.toList,by simp,p⟩
theorem Zin (k:Zee P X.code lim B) (i:∀b o v,w.cell? ⟨b,o,none⟩=some v->G b o=some v) {r:Reach} {base:Nat}:∀(ts:List TypeId) (cs:List Ty) (vs:List Value) (ds:List (DataW H)) (ps:List MemPlace),ts.map X.code=cs.map some →
  (∀(j:Nat) t v,ts[j]? = some t->vs[j]? = some v->Value.okWide P w r base t v)->(∀(j:Nat) t d,ts[j]? = some t->ds[j]? = some d->B t d)->DataW.TrodAll enc P w 0 sp held ts vs ds ps->∃x:Z4P S cs,Ze β G (Z3E X.T cs x) vs/\aok lim (F.ok lim) cs x
 | [],[],[],_,_,_,_,_,_=>⟨(),by show Ze β G [] [];unfold Ze;rfl,trivial⟩
 | [],[],_::_,[],_,_,_,_,h=>by cases h
 | [],[],_::_,_::_,_,_,_,_,h=>by cases h
 | [],_::_,_,_,_,h,_,_,_=>by simp at h
 | _::_,[],_,_,_,h,_,_,_=>by simp at h
 | _::_,_::_,[],_,_,_,_,_,h=>by cases h
 | _::_,_::_,_::_,[],_,_,_,_,h=>by cases h
 | t::ts,c::cs,v::vs,d::ds,ps,hm,hok,hBd,h=>by
  obtain⟨p,q,n,l,_⟩:=h;simp only[jr,List.cons.injEq]at hm;obtain⟨x,m,f⟩:=Zjo hX F hE hR k i hm.1 (hok 0 t v rfl rfl) (hBd 0 t d rfl rfl) n;obtain⟨xs,g,e⟩:=Zin k i ts cs vs ds q hm.2 (fun j t v a b=>hok (j+1) t v a b) (fun j t d a b=>hBd (j+1) t d a b) l;refine⟨(x,xs),?_,f,e⟩;show Ze β G (Yr X.T c x::Z3E X.T cs xs) (v::vs);unfold Ze;exact⟨v,vs,rfl,m,g⟩
end
end Go.Ab
namespace Go.Ab
def LeC (c c':Nat->List DV->Option DV):Prop:=∀g as r,c g as=some r->c' g as=some r
def LeH (c c':Yb):Prop:=∀g as o n r,c g as o n=some r->c' g as o n=some r
section
variable {E:Env} {c c':Nat->List DV->Option DV} {h h' y y':Yb} (hc:LeC c c') (hh:LeH h h') (hy:LeH y y')
include hc
theorem Ze0 {nid:Nat} {ρ:Nat->Option DV} {ob:Nat->Option Zb} {op:Op} {r:Option Out} (a:Z46 E c nid ρ ob op=some r):Z46 E c' nid ρ ob op=some r:=by
 unfold Z46 at a⊢;split at a
 ·exact a
 ·rename_i cl hi;obtain⟨tgt,e,a⟩:=Z0 a;simp only[e,jm];cases hp:ZeS E tgt with
  | false=>rw[hp]at a;exact a
  | true =>
   rw[hp]at a;simp only[jB]at a⊢;obtain⟨q,b,a⟩:=Z0 a;unfold Z4Z at b⊢;obtain⟨tg,g,b⟩:=Z0 b;simp only[g,jm];split at b
   ·obtain⟨fs,d,b⟩:=Z0 b;obtain⟨x,f,b⟩:=Z0 b;simp only[d,jm,hc _ _ _ f,b];exact a
   ·cases b
include hh hy
omit hc in
theorem Zhh {ob:Nat->Option Zb} {nx:Nat} {tgt:DV×List DV} {r:Out×List Nat×Nat} (a:YU h y ob nx tgt=some r):YU h' y' ob nx tgt=some r:=by
 unfold YU at a⊢;split at a
 ·unfold Z3D at a⊢;obtain⟨x,b,a⟩:=Z0 a;simp only[hh _ _ _ _ _ b,jm];exact a
 ·unfold Z3D at a⊢;obtain⟨x,b,a⟩:=Z0 a;simp only[hy _ _ _ _ _ b,jm];exact a
 ·cases a
theorem Za9 {df:Bool} {V nt:Nat} {ops:Array Oper} {b:Nat}:∀(os:List Oper) (k:Nat) (m mf:Mid),Z2I E df c h y V nt ops b k os m=some mf->Z2I E df c' h' y' V nt ops b k os m=some mf
 | [],_,_,_,a=>a
 | o::os,k,m,mf,a=>by
  simp only[Z2I]at a⊢;obtain⟨want,g,a⟩:=Z0 a;simp only[g,jm];cases want with
  | false=>exact Za9 os _ _ _ a
  | true =>
   simp only[jB]at a⊢;cases hdd:Z5z E df (ZS V m.base m.loc) o.op with
   | true=>rw[hdd]at a;exact Za9 os _ _ _ a
   | false =>
   rw[hdd]at a;simp only[jA]at a⊢;obtain⟨so,d,a⟩:=Z0 a;simp only[Ze0 hc d,jm];cases so with
   | some r=>exact Za9 os _ _ _ a
   | none =>
    simp only at a⊢;obtain⟨cl,e,a⟩:=Z0 a;obtain⟨tgt,f,a⟩:=Z0 a;obtain⟨m1,i,a⟩:=Z0 a;simp only[e,f,jm,Zhh hh hy i];exact Za9 os _ _ _ a
theorem Z8L {V nt:Nat} {ops:Array Oper} {b:Nat}:∀(os:List Oper) (k:Nat) (m mf:Mid) (ds:List (Nat×YH)),Z15 E c h y V nt ops b k os m ds=some mf->Z15 E c' h' y' V nt ops b k os m ds=some mf
 | [],_,_,_,_,a=>a
 | o::os,k,m,mf,ds,a=>by
  simp only[Z15]at a⊢;obtain⟨f,a⟩:=Z3 a;refine(Z3P f).trans ?_;obtain⟨want,j,a⟩:=Z0 a;simp only[j,jm];cases want with
  | false=>exact Z8L os _ _ _ _ a
  | true =>
   simp only[jB]at a⊢;obtain⟨so,e,a⟩:=Z0 a;simp only[Ze0 hc e,jm];cases so with
   | some r =>
    simp only at a⊢;obtain⟨d,a⟩:=Z3 a;rw[d];exact Z8L os _ _ _ _ a
   | none =>
    simp only at a⊢;obtain⟨cl,d,a⟩:=Z0 a;obtain⟨tgt,i,a⟩:=Z0 a;obtain⟨m1,l,a⟩:=Z0 a;simp only[d,i,jm,Zhh hh hy l];obtain⟨g,a⟩:=Z3 a;refine(Z3P g).trans ?_;exact Z8L os _ _ _ _ a
theorem ZgI {df:Bool} {V nt:Nat} {ops:Array Oper} {draw:Bool} {s s':St} (b:Z2o E df c h y V nt ops draw s=some s'):Z2o E df c' h' y' V nt ops draw s=some s':=by
 unfold Z2o at b⊢;obtain⟨m,a,d⟩:=Z0 b;clear b;cases draw with
 | true =>
  simp only[jB]at a⊢;rw[Z8L hc hh hy _ _ _ _ _ a];exact d
 | false =>
  simp only[jA]at a⊢;rw[Za9 hc hh hy _ _ _ _ a];exact d
omit hc hh hy in
theorem ZfF {nrm:St->Option St} {st st':St->Option (Ex×St)} (a:∀s r,st s=some r->st' s=some r):∀(n n':Nat) (s:St) (r:Ex×St),n<=n'->iter nrm st n s=some r->iter nrm st' n' s=some r
 | 0,_,_,_,_,h=>by cases h
 | n+1,0,_,_,hle,_=>by omega
 | n+1,n'+1,s,r,hle,h=>by
  simp only[iter]at h⊢;obtain⟨s1,c,h⟩:=Z0 h;obtain⟨q,b,h⟩:=Z0 h;simp only[c,jm,a _ _ b];obtain⟨ex,s2⟩:=q;cases ex with
  | normal=>exact ZfF a n n' s2 r (by omega) h
  | _=>exact h
theorem Z2b {rnd:Option Nat} {fid:Nat} {F:FI} {f f':Nat} (i:f<=f'):∀(cd:Code) (bid:Nat) (s:St) (r:Ex×St),evC E rnd fid F c h y f bid cd s=some r->evC E rnd fid F c' h' y' f' bid cd s=some r
 | .skip,_,_,_,e=>e
 | .label _,_,_,_,e=>e
 | .ret,_,_,_,e=>e
 | .exit _,_,_,_,e=>e
 | .goto _,_,_,_,e=>e
 | .refuse _,_,_,_,e=>e
 | .region _ ops dr,bid,s,r,e=>by
  simp only[evC]at e⊢;obtain⟨s1,g,e⟩:=Z0 e;rw[ZgI hc hh hy g];exact e
 | .seq a b,bid,s,r,e=>by
  simp only[evC]at e⊢;obtain⟨q,g,e⟩:=Z0 e;simp only[Z2b i a _ _ _ g,jm];obtain⟨ex,s2⟩:=q;cases ex with
  | normal=>exact Z2b i b _ _ _ e
  | _=>exact e
 | .cond x a b,bid,s,r,e=>by
  simp only[evC]at e⊢;cases ho:ZU s.base.get x with
  | none=>rw[ho]at e;cases e
  | some d =>
   rw[ho]at e;cases d<;>simp only[reduceCtorEq]at e;rename_i t;simp only;cases t with
   | true=>exact Z2b i a _ _ _ e
   | false=>exact Z2b i b _ _ _ e
 | .block id a,bid,s,r,e=>by
  simp only[evC]at e⊢;obtain⟨q,g,e⟩:=Z0 e;simp only[Z2b i a _ _ _ g,jm];exact e
 | .loop a,bid,s,r,e=>by
  simp only[evC]at e⊢;split at e
  ·rename_i p j
   try rw[j]
   exact e
  rename_i j
  try rw[j]
  obtain⟨k,g,e⟩:=Z0 e;simp only[g,jm];exact ZfF (fun s r h=>Z2b i a _ s r h) _ _ _ _ i e
 | .scope a,bid,s,r,e=>by
  simp only[evC]at e⊢;exact Z2b i a _ _ _ e
 | .rangeFunc fo ps as bo,bid,s,r,e=>by
  simp only[evC]at e⊢;obtain⟨m,e⟩:=Z3 e;rw[m];simp only[jB];obtain⟨s1,g,e⟩:=Z0 e;refine(congrArg (fun z=>Option.bind z _) g).trans ?_;simp only[jm];obtain⟨fv,l,e⟩:=Z0 e;rw[l];simp only[jm];split at e
  ·obtain⟨x,n,e⟩:=Z0 e;simp only[hh _ _ _ _ _ n,jm];exact e
  ·cases e
end
theorem ZcL {E:Env} {h h':Yb} (hh:LeH h h'):LeH (Z4e E h) (Z4e E h'):=fun g as o nx r a=>by
 unfold Z4e at a⊢;obtain⟨F,c,a⟩:=Z0 a;simp only[c,jm];cases hc:F.can with
 | false=>rw[hc]at a;exact hh _ _ _ _ _ a
 | true =>
  rw[hc]at a;simp only[jB]at a⊢;obtain⟨d,a⟩:=Z3 a;obtain⟨x,b,a⟩:=Z0 a;rw[d];simp only[jB];rw[hh _ _ _ _ _ b];exact a
theorem Zg1 {E:Env} {c c':Nat->List DV->Option DV} {h h' y y':Yb} (hc:LeC c c') (hh:LeH h h') (hy:LeH y y') {n n':Nat} (e:n<=n'):LeH (Za1 E c h y n) (Za1 E c' h' y' n'):=fun g as o nx r a=>by
 unfold Za1 at a⊢;obtain⟨F,f,a⟩:=Z0 a;obtain⟨b,a⟩:=Z3 a;obtain⟨q,d,a⟩:=Z0 a;simp only[f,jm,b,jB,Z2b hc hh hy e _ _ _ _ d];exact a
theorem Zg2 {E:Env} {c c':Nat->List DV->Option DV} {h h' y y':Yb} (hc:LeC c c') (hh:LeH h h') (hy:LeH y y') {n n':Nat} (d:n<=n'):LeH (ZgL E c h y n) (ZgL E c' h' y' n'):=fun l as o nx r a=>by
 unfold ZgL at a⊢;split at a
 ·rename_i fid base ps assign body bid e
  try rw[e]
  try simp only
  obtain⟨F,j,a⟩:=Z0 a;obtain⟨b,f,a⟩:=Z0 a;obtain⟨q,g,a⟩:=Z0 a;simp only[j,f,jm,Z2b hc hh hy d _ _ _ _ g];split at a
  ·obtain⟨q2,i,a⟩:=Z0 a;simp only[Z2b hc hh hy d _ _ _ _ i,jm];exact a
  ·cases a
 ·cases a
theorem Zg7 (E:Env) {r r':Yb} (h:LeH r r'):LeH (fun g as o nx=>Z47 E g r g as o nx) (fun g as o nx=>Z47 E g r' g as o nx):=fun g as o nx x a=>by
 simp only[Z47]at a⊢;cases hL:E.leaf g with
 | some L=>rw[hL]at a;exact a
 | none =>
  rw[hL]at a;cases hc:E.cc g with
  | some t=>rw[hc]at a;exact a
  | none =>
   rw[hc]at a;cases hcl:E.cln g with
   | some e=>rw[hcl]at a;exact a
   | none =>
    rw[hcl]at a;cases hs:E.srt g with
    | some e=>rw[hs]at a;exact a
    | none=>rw[hs]at a;exact h g as o nx x a
theorem Zja (E:Env):∀n,LeH (evX E n false) (evX E (n+1) false)/\LeH (evX E n true) (evX E (n+1) true)
 | 0=>⟨fun _ _ _ _ _ h=>by simp[evX]at h,fun _ _ _ _ _ h=>by simp[evX]at h⟩
 | n+1=>by
  obtain⟨i1,i2⟩:=Zja E n;have ic:LeC (fun g as=>(evX E n false g as .leaf 0).bind fun x=>frz x.2.1.get x.1) (fun g as=>(evX E (n+1) false g as .leaf 0).bind fun x=>frz x.2.1.get x.1):=fun g as r h=>by
   obtain⟨x,b,a⟩:=Z0 h;simp only[i1 _ _ _ _ _ b,jm];exact a
  constructor
  ·exact Zg7 E (ZcL (Zg1 ic i1 i2 (Nat.le_succ n)))
  ·exact Zg2 (E:=E) ic i1 i2 (Nat.le_succ n)
theorem Zao (E:Env) (n:Nat):∀M,LeH (evX E n false) (evX E (n+M) false)/\LeH (evX E n true) (evX E (n+M) true)
 | 0=>⟨fun _ _ _ _ _ h=>h,fun _ _ _ _ _ h=>h⟩
 | M+1=>⟨fun g as o nx r h=>(Zja E (n+M)).1 _ _ _ _ _ ((Zao E n M).1 _ _ _ _ _ h),fun g as o nx r h=>(Zja E (n+M)).2 _ _ _ _ _ ((Zao E n M).2 _ _ _ _ _ h)⟩
theorem Z9h (E:Env) {n m:Nat} (h:n<=m):LeC (evF E n) (evF E m):=fun g as r a=>by
 obtain⟨M,rfl⟩:=Nat.exists_eq_add_of_le h;unfold evF at a⊢;obtain⟨x,c,b⟩:=Z0 a;rw[(Zao E n M).1 _ _ _ _ _ c];exact b
theorem Zjl {E:Env} {c:Nat->List DV->Option DV} {M:Nat} (hc:LeC c (evF E M)):∀n,LeH (ZbF E c n false) (evX E (n+M) false)/\LeH (ZbF E c n true) (evX E (n+M) true)
 | 0=>⟨fun _ _ _ _ _ h=>by simp[ZbF]at h,fun _ _ _ _ _ h=>by simp[ZbF]at h⟩
 | n+1=>by
  obtain⟨i1,i2⟩:=Zjl hc n;have ic:LeC c (fun g as=>(evX E (n+M) false g as .leaf 0).bind fun x=>frz x.2.1.get x.1):=fun g as r h=>Z9h E (Nat.le_add_left M n) g as r (hc g as r h);rw[show n+1+M=(n+M)+1 by omega]
  exact⟨Zg7 E (ZcL (Zg1 ic i1 i2 (Nat.le_add_right n M))),Zg2 (E:=E) ic i1 i2 (Nat.le_add_right n M)⟩
def ZG (E:Env) (e:Nat×List DV×DV):Prop:=∃N,evF E N e.1 e.2.1=some e.2.2
theorem Z9H {E:Env}:∀{l:List (Nat×List DV×DV)},(∀e∈l,ZG E e)->∃N,LeC (ZhC l) (evF E N)
 | [],_=>⟨0,fun _ _ _ h=>by cases h⟩
 | (f,xs,d)::l,hl=>by
  obtain⟨N,j⟩:=Z9H (l:=l) fun e a=>hl e (by simp[a])
  obtain⟨M,i⟩:=hl (f,xs,d) (by simp)
  refine⟨N+M,fun g as r h=>?_⟩;simp only[ZhC]at h;cases hq:Nat.beq f g&&Z8j xs as with
  | true =>
   rw[hq]at h;cases h;simp only[jn]at hq;have c:=je hq.1;have b:=Z6H _ _ hq.2;subst c b;exact Z9h E (Nat.le_add_left M N) _ _ _ i
  | false =>
   rw[hq]at h;exact Z9h E (Nat.le_add_right N M) _ _ _ (j _ _ _ h)
theorem Zfi {E:Env} {l:List (Nat×List DV×DV)} (c:∀e∈l,ZG E e) {n f:Nat} {as:List DV} {d:DV} (h:ZjK E l n f as=some d):ZG E (f,as,d):=by
 obtain⟨N,j⟩:=Z9H c;have hc:LeC (Zi7 E l n) (evF E (N+n)):=fun g as r a=>by
  unfold Zi7 at a;cases hq:l.any fun e=>Nat.beq e.1 g with
  | true=>rw[hq]at a;exact Z9h E (Nat.le_add_right N n) _ _ _ (j _ _ _ a)
  | false=>rw[hq]at a;exact Z9h E (Nat.le_add_left n N) _ _ _ a
 refine⟨n+(N+n),?_⟩;unfold ZjK ZfR at h;obtain⟨x,i,b⟩:=Z0 h;unfold evF;rw[(Zjl hc n).1 _ _ _ _ _ i];exact b
theorem ZiC {E:Env} {n f:Nat} {as:List DV} {d:DV} (h:evF E n f as=some d):Evt fun m=>evF E m f as=some d:=by
 have step:∀m,evF E m f as=some d->evF E (m+1) f as=some d:=fun m a=>by
  unfold evF at a⊢;obtain⟨x,c,b⟩:=Z0 a;rw[(Zja E m).1 _ _ _ _ _ c];exact b
 refine⟨n,fun m a=>?_⟩
 induction m with
 | zero =>
  have:n=0:=by omega
  subst this;exact h
 | succ m ih =>
  by_cases e:n=m+1
  ·subst e;exact h
  ·exact step m (ih (by omega))
theorem Zhd {S:Nat->Type} {X:Ye S} {g:Nat} {F:Option Bool} (c:F=some true) (h:ZG X.E (g,[],.bool true)):Zaq X g ⟨[],[.bool],fun _=>F⟩:=fun xs r hr=>by
 have a:(some true:Option Bool)=some r:=by rw[<-c];exact hr
 cases a;obtain⟨N,b⟩:=h;exact ZiC b
end Go.Ab
