/- The same on typed values. -/
import Derived.Test.YtaaalkppbbpacaaGreatDoorT1
import Derived.WalkKit
import Derived.ProofKit
import Derived.OpenShut
import Derived.Below
import Derived.ChangeSame
import Derived.ReadAgain
import Derived.WideShapes
import Derived.Test.YtaaalkppbbpacaaGreatDoorA3
set_option linter.unusedSectionVars false
set_option linter.unusedVariables false
set_option linter.unusedSimpArgs false
namespace Go.Ab
variable {S:Nat->Type} {R:Type}
def Zgs (nrm:St->Option St) (step:St->Option (Ex×St)) (m:Nat) (s:St):Option (Ex×St):=(step s).bind fun r=>match r.1 with
 | .normal=>iter nrm step m r.2
 | _=>some r
def LTo (E:Env) (key:Key) (F:FI) (c:Code) (hint:Z3G) (s:St) (ex:Ex) (s':St):Prop :=
 ∃N,∀n m,N<=n->N<=m->Zgs (ZcG E hint key.n0) (evC E key.rnd key.fid F (evF E n) (evX E n false) (evX E n true) n key.bid c) m s=some (ex,s')
def Z45 (X:Yk S) (ls:Z2L S R):Prop:=∀key s k r,ls key s k=some r->WfO X.E s.objs->∀F c hint,X.E.fn key.fid=some F->Code.sub F.body key.pos=some c->(F.hints.find? fun h=>Nat.beq h.bid key.bid)=some hint →
 ∃ex s',LTo X.E key F c hint (Y3 X.T s) ex (Y3 X.T s')/\WfO X.E s'.objs/\k ex s'=some r
theorem Zbs (T:TS S) (vs:List (TV S)):Z6G (dvl T vs)=dv T (Z4Y vs):=by
 cases vs with
 | nil=>simp[Z6G,Z4Y,dvl,dv]
 | cons v vs =>
  cases vs with
  | nil=>simp[Z6G,Z4Y,dvl]
  | cons w vs=>simp[Z6G,Z4Y,dvl,dv]
theorem Z46 (T:TS S) (V:Nat):∀(vs:List (TV S)) (k:Nat) (b:Tr (TV S)),Z2d V k (dvl T vs) (b.mapv (dv T))=(Z1p V k vs b).mapv (dv T)
 | [],k,b=>by simp[Z2d,Z1p,dvl]
 | v::vs,k,b=>by
  simp only[dvl,Z2d,Z1p];cases Nat.testBit V k with
  | true=>simp only[jB];rw[<-Z46 T V vs,YE];rfl
  | false=>simp only[jA];exact Z46 T V vs _ _
theorem Z4t (T:TS S) (V nt:Nat):∀(ps:List Nat) (vs:List (TV S)) (b:Tr (TV S)),YW V nt ps (dvl T vs) (b.mapv (dv T))=(Z1B V nt ps vs b).map (Tr.mapv (dv T))
 | [],[],b=>by simp[YW,Z1B,dvl]
 | [],_::_,b=>by simp[YW,Z1B,dvl]
 | _::_,[],b=>by simp[YW,Z1B,dvl]
 | p::ps,v::vs,b=>by
  simp only[dvl,YW,Z1B];cases Nat.blt p nt with
  | false=>rfl
  | true =>
   simp only[jB];cases Nat.testBit V p with
   | true =>
    simp only[jB];rw[<-Z4t T V nt ps vs,YE];rfl
   | false=>simp only[jA];exact Z4t T V nt ps vs b
theorem Z6D (T:TS S) (o:Tr (Zp S)):(o.mapv (dvO T)).get=dvh T o.get:=funext fun i=>Yj _ _ _
theorem ZeP (T:TS S) (o:Tr (TV S)):(o.mapv (dv T)).get=dvr T o.get:=funext fun i=>Yj _ _ _
section
variable {X:Yk S} (hX:XOk X)
include hX
theorem Z8n {base:Nat->Option (TV S)} {h:Nat->Option (Zp S)}:∀{rs:List ResultVar} {k:List (TV S)->Option R} {r:R},Ze6 X base h rs k=some r->∃vs,Z4o X.E (dvr X.T base) (dvh X.T h) rs=some (dvl X.T vs)/\k vs=some r
 | [],k,r,hr=>⟨[],by simp[Z4o,dvl],hr⟩
 | .tmp t::rs,k,r,hr=>by
  simp only[Ze6]at hr;obtain⟨v,b,hr⟩:=Z0 hr;obtain⟨vs,c,e⟩:=Z8n hr;refine⟨v::vs,?_,e⟩;simp only[Z4o,dvr,b,jq,jm];rw[c];simp[dvl]
 | .cell a t::rs,k,r,hr=>by
  simp only[Ze6]at hr;obtain⟨ti,b,hr⟩:=Z0 hr;obtain⟨av,c,hr⟩:=Z0 hr;obtain⟨o,e,_,hr⟩:=Zcz hX hr;obtain⟨v,j,hr⟩:=Z0 hr;obtain⟨vs,i,l⟩:=Z8n hr;obtain⟨d,f,m⟩:=Z0 e;have g:d=dv X.T v:=by
   have:(ret d)=some (Yd X.T o):=m;simp only[ret,Yd,j,jq,jh,Out.mk.injEq]at this;exact this.1
  refine⟨v::vs,?_,l⟩;simp only[Z4o,b,jm,dvr,c,jq];rw[f];simp only[jm];rw[i,g];simp[dvl]
end
theorem ZeK (T:TS S) (m:Nat) (s:StT S):(Y3 T s).keep m=Y3 T (s.keep m):=by
 simp only[St.keep,StT.keep,Y3,Z7j]
theorem Zgu (T:TS S) (F:FI) (id:Nat) (s:StT S):(Y3 T s).keepX F id=Y3 T (s.keepX F id):=by
 unfold St.keepX StT.keepX;cases F.xm.find? fun p=>Nat.beq p.1 id with
 | none=>rfl
 | some p=>exact ZeK T p.2 s
section
variable {X:Yk S} (hX:XOk X) {cs:Z3H S R} (hcs:Z8c X cs) {ls:Z2L S R} (hls:Z45 X ls)
include hX hcs hls
omit hX hcs hls in
theorem ZaJ {E:Env} {f:Nat} (h:Zdh E f=false) (run:Yi):Z6X E f run=run:=by
 unfold Zdh at h;simp only[Bool.or_eq_false_iff,Option.isSome_eq_false_iff,Option.isNone_iff_eq_none]at h;funext g as o nx;unfold Z6X;rw[h.1,h.2]
theorem Z11 {callH callY:Z2C S R} (hH:Z2D X false callH) (hY:Z2D X true callY) {path:List Nat} {rnd:Option Nat} {fid:Nat} {F:FI} (hF:X.E.fn fid=some F) :
  ∀(c:Code) (pos:List Nat) (bid:Nat) (s:StT S) (k:Ex->StT S->Option R) (r:R),Z1q X cs ls rnd fid F callH callY path pos bid c s k=some r->Code.sub F.body pos=some c->WfO X.E s.objs →
   ∃ex s',Evt (fun n=>evC X.E rnd fid F (evF X.E n) (evX X.E n false) (evX X.E n true) n bid c (Y3 X.T s)=some (ex,Y3 X.T s'))/\WfO X.E s'.objs/\k ex s'=some r
 | .skip,pos,bid,s,k,r,h,_,hw=>⟨.normal,s,Evt.of fun _=>rfl,hw,h⟩
 | .region id ops draw,pos,bid,s,k,r,h,_,hw=>by
  simp only[Z1q]at h;obtain⟨s',a,j,b⟩:=Ze5 hX hcs (df:=rnd.isNone) hH hY h hw;refine⟨.normal,s',a.mono fun n d=>?_,j,b⟩;simp only[evC,d,jm]
 | .seq x y,pos,bid,s,k,r,h,hp,hw=>by
  simp only[Z1q]at h;have w:Code.sub F.body (0::pos)=some x:=by simp only[Code.sub,hp,jm,Code.kid]
  have hy:Code.sub F.body (1::pos)=some y:=by simp only[Code.sub,hp,jm,Code.kid]
  obtain⟨ex,s1,a,j,b⟩:=Z11 hH hY hF x _ bid s _ r h w hw;cases ex with
  | normal =>
   simp only at b;obtain⟨ex',s2,h4,h5,o⟩:=Z11 hH hY hF y _ bid s1 k r b hy j;refine⟨ex',s2,(a.and h4).mono fun n d=>?_,h5,o⟩;simp only[evC,d.1,jm];exact d.2
  | _ =>
   simp only at b;refine⟨_,s1,a.mono fun n d=>?_,j,b⟩;simp only[evC,d,jm]
 | .cond c x y,pos,bid,s,k,r,h,hp,hw=>by
  simp only[Z1q]at h;have w:Code.sub F.body (0::pos)=some x:=by simp only[Code.sub,hp,jm,Code.kid]
  have hy:Code.sub F.body (1::pos)=some y:=by simp only[Code.sub,hp,jm,Code.kid]
  cases ho:ZX s.base.get c with
  | none=>rw[ho]at h;cases h
  | some v =>
   rw[ho]at h;cases v<;>simp only[reduceCtorEq]at h;rename_i t;have u:Y0 (Y3 X.T s).base.get c=some (.bool t):=by
    show Y0 (s.base.mapv (dv X.T)).get c=_;rw[ZeP,ZQ,ho];rfl
   cases t with
   | true =>
    simp only[jB]at h;obtain⟨ex,s1,a,j,b⟩:=Z11 hH hY hF x _ bid s _ r h w hw;refine⟨ex,s1,a.mono fun n d=>?_,j,b⟩;simp only[evC,u,jB];exact d
   | false =>
    simp only[jA]at h;obtain⟨ex,s1,a,j,b⟩:=Z11 hH hY hF y _ bid s _ r h hy hw;refine⟨ex,s1,a.mono fun n d=>?_,j,b⟩;simp only[evC,u,jA];exact d
 | .block id c,pos,bid,s,k,r,h,hp,hw=>by
  simp only[Z1q]at h;have w:Code.sub F.body (0::pos)=some c:=by simp only[Code.sub,hp,jm,Code.kid]
  obtain⟨ex,s1,a,j,b⟩:=Z11 hH hY hF c _ id s _ r h w hw;cases ex with
  | exit i =>
   simp only at b;cases hi:Nat.beq i id with
   | true =>
    rw[hi]at b;refine⟨.normal,s1,a.mono fun n d=>?_,j,b⟩;simp only[evC,d,jm,hi,jB]
   | false =>
    rw[hi]at b;refine⟨_,s1,a.mono fun n d=>?_,j,b⟩;simp only[evC,d,jm,hi,jA]
  | _ =>
   simp only at b;refine⟨_,s1,a.mono fun n d=>?_,j,b⟩;simp only[evC,d,jm]
 | .loop c,pos,bid,s,k,r,h,hp,hw=>by
  simp only[Z1q]at h;have w:Code.sub F.body (0::pos)=some c:=by simp only[Code.sub,hp,jm,Code.kid]
  obtain⟨e,a,h⟩:=Z0 h;obtain⟨s1,j,h⟩:=Z0 h;obtain⟨b,h4⟩:=ZcJ hX j hw;obtain⟨ex,s',⟨N,h5⟩,o,h7⟩:=hls _ _ _ _ h h4 F c e hF w a;refine⟨ex,s',⟨N+1,fun n d=>?_⟩,o,h7⟩;simp only[evC,a,jm];cases n with
  | zero=>omega
  | succ m =>
   simp only[iter];have h3':ZcG X.E e (Y3 X.T s).next (Y3 X.T s)=some (Y3 X.T s1):=b;rw[h3'];simp only[jm];exact h5 (m+1) m (by omega) (by omega)
 | .exit id,pos,bid,s,k,r,h,_,hw=>⟨.exit id,s.keepX F id,Evt.of fun _=>by simp only[evC,Zgu],by
   have:(s.keepX F id).objs=s.objs:=by unfold StT.keepX;cases F.xm.find? fun p=>Nat.beq p.1 id<;>rfl
   rw[this];exact hw,h⟩
 | .scope c,pos,bid,s,k,r,h,hp,hw=>by
  simp only[Z1q]at h;have w:Code.sub F.body (0::pos)=some c:=by simp only[Code.sub,hp,jm,Code.kid]
  obtain⟨ex,s1,a,j,b⟩:=Z11 hH hY hF c _ bid s _ r h w hw;exact⟨ex,s1,a.mono fun n d=>by simp only[evC];exact d,j,b⟩
 | .label l,pos,bid,s,k,r,h,_,hw=>⟨.normal,s,Evt.of fun _=>rfl,hw,h⟩
 | .ret,pos,bid,s,k,r,h,_,hw=>⟨.ret,s.keep F.rm,Evt.of fun _=>by simp only[evC,ZeK],hw,h⟩
 | .goto _,pos,bid,s,k,r,h,_,hw=>by simp only[Z1q,reduceCtorEq]at h
 | .refuse _,pos,bid,s,k,r,h,_,hw=>by simp only[Z1q,reduceCtorEq]at h
 | .rangeFunc f ps assign body,pos,bid,s0,k,r,h,hp,hw=>by
  simp only[Z1q]at h;obtain⟨a,h⟩:=Z3 h;obtain⟨s,j,h⟩:=Z0 h;obtain⟨fv,b,h⟩:=Z0 h
  have hs:(match(F.hints.find? fun h=>Nat.beq h.bid bid:Option Z3G)with
   | some e=>(Ym X.E (Y3 X.T s0).next 0 e.accs ((Y3 X.T s0).base,(Y3 X.T s0).objs)).bind fun r=>some (St.mk r.1 r.2 ((Y3 X.T s0).next+e.accs.length))
   | none=>some (Y3 X.T s0))=some (Y3 X.T s)/\WfO X.E s.objs:=by
   cases hh:(F.hints.find? fun h=>Nat.beq h.bid bid)with
   | none=>rw[hh]at j;cases j;exact⟨rfl,hw⟩
   | some e =>
    rw[hh]at j;obtain⟨q,h4,h5⟩:=Z0 j;cases h5;obtain⟨o,h7⟩:=Yl hX h4 hw;refine⟨?_,h7⟩;simp only;have h6':Ym X.E (Y3 X.T s0).next 0 e.accs ((Y3 X.T s0).base,(Y3 X.T s0).objs)=_:=o;rw[h6'];rfl
  obtain⟨hs1,hs2⟩:=hs;cases fv with
  | fn g first caps =>
   cases g with
   | func g =>
    simp only at h;obtain⟨v,objs',next',h4,h5,o⟩:=hH _ _ _ _ _ _ _ h (hs2.set (x:=some (.loop fid s.base ps.toList assign body bid .normal (bid::path) pos)) ⟨F,f,hF,by simpa using hp⟩)
    cases ho:objs'.get s.next with
    | none=>rw[ho]at o;cases o
    | some ob =>
     rw[ho]at o;cases ob<;>simp only[reduceCtorEq]at o;rename_i fid' bs' ps' as' bo' bid' ex pa' po';have a0:k ex { s with objs:=objs'.set s.next none,next:=next' }=some r/\ex≠.busy:=by
      cases ex<;>simp only[reduceCtorEq]at o<;>exact⟨o,by simp⟩
     refine⟨ex,_,h4.mono fun n d=>?_,h5.set (x:=none) trivial,a0.1⟩;simp only[evC];have hir:Z6z rnd (Y3 X.T s0).objs.get=true:=by
      show Z6z rnd (s0.objs.mapv (dvO X.T)).get=true;rw[Z6D];unfold Zct at a;unfold Z6z;cases rnd with
      | none=>rfl
      | some l =>
       simp only at a⊢;unfold dvh;cases hl:s0.objs.get l with
       | none=>rw[hl]at a;cases a
       | some ob=>rw[hl]at a;cases ob<;>simp only[jg]at a;rfl
     rw[hir];simp only[jB];have hs1':=hs1;refine(congrArg (fun z=>Option.bind z _) hs1').trans ?_;simp only[jm];have u:Y0 (Y3 X.T s).base.get f=some (.fn (.func g) (dvl X.T first) (dvl X.T caps)):=by
      show Y0 (s.base.mapv (dv X.T)).get f=_;rw[ZeP,ZQ,b];rfl
     rw[u];simp only[jm];have e1:evX X.E n false g (dvl X.T first++[.yld (Y3 X.T s).next]++dvl X.T caps) ((Y3 X.T s).objs.set (Y3 X.T s).next (some (.loop fid (Y3 X.T s).base ps.toList assign body bid .normal))) ((Y3 X.T s).next+1)=some (dv X.T v,objs'.mapv (dvO X.T),next'):=by
      rw[YE]at d;simp only[Z5U,dvl,dv]at d;exact d
     rw[e1];simp only[jm,Yj];have ho2:objs'.get (Y3 X.T s).next=some (.loop fid' bs' ps' as' bo' bid' ex pa' po'):=ho;rw[ho2];simp only[jq,dvO];have e2:(Y3 X.T { s with objs:=objs'.set s.next none,next:=next' })={ Y3 X.T s with objs:=(objs'.mapv (dvO X.T)).set (Y3 X.T s).next none,next:=next' }:=by
      simp only[Y3,YE];rfl
     rw[e2];cases ex<;>first|rfl|exact absurd rfl a0.2
   | _=>cases h
  | _=>cases h
omit hls in
theorem Zfk {g:Nat} {as:List (TV S)} {objs:Tr (Zp S)} {next:Nat} {k:TV S->Tr (Zp S)->Nat->Option R} {r:R} {F:FI} (f:Zdh X.E g=false) (j:X.E.fn g=some F) (a:F.can=true)
  (h:ZdA cs g as objs next k=some r) (m:WfO X.E objs) :
  ∃v objs' next',Evt (fun n=>evX X.E n false g (dvl X.T as) (objs.mapv (dvO X.T)) next=some (dv X.T v,objs'.mapv (dvO X.T),next'))/\WfO X.E objs'/\k v objs' next'=some r:=by
 unfold ZdA at h;rw[Z3n,Z3m (fun v k=>Z9y v k),Z9x,Z3l]at h;generalize hfs:(as.map fun d=>(YH objs.get d).getD d)=fs at h;generalize ho1:Z4B objs (Z5M objs.get (Yq as))=o1 at h;generalize hRs:Z28 o1.get 4096 (Z2P fs) []=Rs at h;obtain⟨c,h⟩:=Z3 h;rw[Z3n,Z3m (fun v k=>Z9y v k)]at h;have b:WfO X.E o1:=by rw[<-ho1];exact m.upd (Z2v _ _)
 obtain⟨v,os,n',i,p,h⟩:=hcs.pr _ _ _ _ _ _ h (Zdm b _);rw[Zay,Z3m (fun v k=>Z9y v k),Z3l]at h;refine⟨_,_,_,Evt.succ (i.mono fun n o=>?_),b.updW (Zdn p _),h⟩;simp only[jn]at c;have e1:((dvl X.T as).map fun d=>(frz (objs.mapv (dvO X.T)).get d).getD d)=dvl X.T fs:=by
  rw[<-hfs,Z5e,Z5e,List.map_map,List.map_map];congr 1;funext d;simp only[Function.comp,Z6D,Z5Z hX.t];cases YH objs.get d<;>rfl
 have e2:Ya (objs.mapv (dvO X.T)) (Zu (objs.mapv (dvO X.T)).get (Zk (dvl X.T as)))=o1.mapv (dvO X.T):=by
  rw[<-ho1,Z6D,Z3Z hX.t,Z6T,Z9M]
 have e3:Z1h (o1.mapv (dvO X.T)).get 4096 (Z1u (dvl X.T fs)) []=Rs:=by
  rw[Z6D,Z4p hX.t,Z3i hX.t,hRs]
 obtain⟨⟨r1,o2,n2⟩,hr,l⟩:=Z0 o;have e:Z9s X.E (fun g as=>(evX X.E n false g as .leaf 0).bind fun x=>frz x.2.1.get x.1) (evX X.E n false) (evX X.E n true) n g (dvl X.T (Z6N (Z4z Rs) fs)) ((Z5I (Z4z Rs) o1.get Rs).mapv (dvO X.T)) (Z2t Rs)=some (r1,o2,n2):=hr;rw[evX,ZaJ f];unfold Z48;rw[j];simp only[jm,a,jB,e1,e2,e3];rw[Z6D,ZdW hX.t c.2.2,Z4X hX.t _ _ c.2.1,c.1,Z6O hX.t,ZbD hX.t];simp only[ju,jB,e,jm,l,Z6D,Zaw hX.t,ZcX hX.t,Z9M]
theorem Zdo:∀n,Z2D X false (xK X cs ls n false)/\Z2D X true (xK X cs ls n true)
 | 0=>⟨fun _ _ _ _ _ _ _ h=>by simp[xK]at h,fun _ _ _ _ _ _ _ h=>by simp[xK]at h⟩
 | N+1=>by
  obtain⟨ih1,ih2⟩:=Zdo N;constructor
  ·intro path g as objs next k r h q
   simp only[xK]at h;cases hnt:Zdh X.E g with
   | true=>rw[hnt]at h;cases h
   | false =>
   rw[hnt]at h;simp only[jA]at h;obtain⟨F,e,h⟩:=Z0 h;cases hcan:F.can with
   | true=>rw[hcan]at h;exact Zfk hX hcs hnt e hcan h q
   | false =>
   rw[hcan]at h;simp only[jA]at h;obtain⟨hl,h⟩:=Z3 h;obtain⟨ex,s',h1,u,m⟩:=Z11 hX hcs hls ih1 ih2 e F.body [] 0 _ _ r h rfl q;have hex:(∃vs,Z4o X.E (dvr X.T s'.base.get) (dvh X.T s'.objs.get) F.nres=some (dvl X.T vs)/\k (Z4Y vs) s'.objs s'.next=some r)/\(∀i,ex≠.exit i)/\ex≠.busy:=by
    cases ex<;>simp only[reduceCtorEq]at m<;>exact⟨Z8n hX m,by simp,by simp⟩
   obtain⟨⟨vs,h4,v⟩,a,h7⟩:=hex;refine⟨Z4Y vs,s'.objs,s'.next,Evt.succ (h1.mono fun n t=>?_),u,v⟩;simp only[evX,ZaJ hnt,Z48,e,jm,hcan,jA,Z9s];have hl':Nat.ble (dvl X.T as).length F.nt=true:=by rw[Z5e,List.length_map];exact hl
   rw[hl'];simp only[jB];have e1:(⟨Z2d F.vmask 0 (dvl X.T as) .leaf,objs.mapv (dvO X.T),next⟩:St)=Y3 X.T ⟨Z1p F.vmask 0 as .leaf,objs,next⟩:=by
    simp only[Y3];rw[<-Z46];rfl
   rw[e1];have z:evC X.E none g F (fun g as=>(evX X.E n false g as .leaf 0).bind fun x=>frz x.2.1.get x.1) (evX X.E n false) (evX X.E n true) n 0 F.body (Y3 X.T ⟨Z1p F.vmask 0 as .leaf,objs,next⟩)=some (ex,Y3 X.T s'):=t
   rw[z];simp only[jm];have h4':Z4o X.E (Y3 X.T s').base.get (Y3 X.T s').objs.get F.nres=some (dvl X.T vs):=by
    show Z4o X.E (s'.base.mapv (dv X.T)).get (s'.objs.mapv (dvO X.T)).get F.nres=_;rw[ZeP,Z6D];exact h4
   cases ex with
   | exit i=>exact absurd rfl (a i)
   | busy=>exact absurd rfl h7
   | _=>simp only[h4',jm,Zbs];rfl
  ·intro path l as objs next k r h q
   simp only[xK]at h;split at h
   ·rename_i fid base ps assign body bid pa po o;obtain⟨F,e,h⟩:=Z0 h;obtain⟨b,hb,h⟩:=Z0 h;have s:=q l;rw[o]at s;obtain⟨F',f,p,j⟩:=s;rw[e]at p;cases p;have hs0:Code.sub F.body (0::po)=some assign:=by simp only[Code.sub,j,jm,Code.kid]
    have hs1:Code.sub F.body (1::po)=some body:=by simp only[Code.sub,j,jm,Code.kid]
    obtain⟨ex,s1,h1,u,m⟩:=Z11 hX hcs hls ih1 ih2 e assign _ bid _ _ r h hs0 q;split at m
    ·rename_i fid2 base2 ps2 as2 bo2 bid2 pa2 po2 c;have hw2:WfL X.E (some (.loop fid2 base2 ps2 as2 bo2 bid2 .busy pa2 po2)):=by have:=u l;rw[c]at this;exact this
     obtain⟨ex2,s2,h4,v,a⟩:=Z11 hX hcs hls ih1 ih2 e body _ bid _ _ r m hs1 (u.set hw2);split at a
     ·rename_i fid3 base3 ps3 as3 bo3 bid3 pa3 po3 d;cases hbz:Zgq ex2 with
      | true=>rw[hbz]at a;cases a
      | false =>
       rw[hbz]at a;simp only[jA]at a;have y:WfL X.E (some (.loop fid3 base3 ps3 as3 bo3 bid3 ex2 pa3 po3)):=by have:=v l;rw[d]at this;exact this
       refine⟨_,_,_,Evt.succ ((h1.and h4).mono fun n t=>?_),v.set y,a⟩;simp only[evX,Yj,o,jq,dvO,e,jm,Z4t,hb];have w:evC X.E (some l) fid F (fun g as=>(evX X.E n false g as .leaf 0).bind fun x=>frz x.2.1.get x.1) (evX X.E n false) (evX X.E n true) n bid assign ⟨b.mapv (dv X.T),objs.mapv (dvO X.T),next⟩=some (.normal,Y3 X.T s1):=t.1
       rw[w];simp only[jm,Y3,Yj,c,jq,dvO];have hn2:evC X.E (some l) fid F (fun g as=>(evX X.E n false g as .leaf 0).bind fun x=>frz x.2.1.get x.1) (evX X.E n false) (evX X.E n true) n bid body ⟨s1.base.mapv (dv X.T),(s1.objs.mapv (dvO X.T)).set l (some (.loop fid2 (base2.mapv (dv X.T)) ps2 as2 bo2 bid2 .busy)),s1.next⟩=some (ex2,Y3 X.T s2):=by
        have:=t.2;simp only[Y3,YE]at this;exact this
       rw[hn2];simp only[jm,Y3,Yj,d,jq,dvO,YE];cases ex2<;>first|(cases hbz;done)|rfl
     ·cases a
    ·cases m
   ·cases h
theorem Zie {n g:Nat} {as:List (TV S)} {k:TV S->Option R} {r:R} (h:xK X cs ls n false [] g as .leaf 0 (fun v o _=>(YH o.get v).bind k)=some r) :
  ∃d,Evt (fun n=>evF X.E n g (dvl X.T as)=some (dv X.T d))/\k d=some r:=by
 obtain⟨v,o,nx,b,_,e⟩:=(Zdo hX hcs hls n).1 _ _ _ _ _ _ _ h (fun i=>by trivial)
 obtain⟨d,f,j⟩:=Z0 e;refine⟨d,b.mono fun n c=>?_,j⟩;unfold evF;have a:evX X.E n false g (dvl X.T as) .leaf 0=some (dv X.T v,o.mapv (dvO X.T),nx):=c;rw[a];simp only[jm,Z6D,Z5Z hX.t,f,jq]
end
end Go.Ab
namespace Go.Ab
variable {S:Nat->Type}
inductive LT where
 | int|bool|str|nat
 | lst (t:Ty)
 | arr (t:Ty)
 | st (i:Nat)
 | mp (k e:Ty)
 | en
 deriving DecidableEq
def Zdr (S:Nat->Type):LT->Type
 | .int=>Int
 | .bool=>Bool
 | .str=>ByteArray
 | .nat=>Nat
 | .lst t=>List (Val S t)
 | .arr t=>Nat->Val S t
 | .st i=>S i
 | .mp k e=>List (Val S k×Val S e)
 | .en=>Nat->Nat
structure Yy (S:Nat->Type) where
 t:LT
 v:Zdr S t
def Tup (S:Nat->Type):List LT->Type
 | []=>Unit
 | [t]=>Zdr S t
 | t::t'::ts=>Zdr S t×Tup S (t'::ts)
def Z36 (S:Nat->Type):List (List LT)->Type
 | []=>Empty
 | [a]=>Tup S a
 | a::b::r=>Tup S a⊕Z36 S (b::r)
def eT:(ts:List LT)->Tup S ts->List (Yy S)
 | [],_=>[]
 | [t],x=>[⟨t,x⟩]
 | t::t'::ts,x=>⟨t,x.1⟩::eT (t'::ts) x.2
def dL (t:LT) (l:Yy S):Option (Zdr S t):=if h:l.t=t then some (h▸l.v)else none
def dTn {α:Type} (x:α) (l:List (Yy S)):Option α:=match l with
 | []=>some x
 | _=>none
def dT:(ts:List LT)->List (Yy S)->Option (Tup S ts)
 | [],l=>dTn () l
 | [t],l=>match l with
  | []=>none
  | x::r=>(dL t x).bind fun y=>dTn y r
 | t::t'::ts,l=>match l with
  | []=>none
  | x::r=>(dL t x).bind fun y=>(dT (t'::ts) r).bind fun z=>some (y,z)
theorem Ziz {t:LT} {l:Yy S} {x:Zdr S t} (h:dL t l=some x):l=⟨t,x⟩:=by
 unfold dL at h;split at h
 ·rename_i e;obtain⟨t',v⟩:=l;simp only at e;subst e;cases h;rfl
 ·cases h
theorem ZhZ {α:Type} {x y:α} {l:List (Yy S)} (h:dTn x l=some y):l=[]/\x=y:=by
 cases l with
 | nil=>cases h;exact⟨rfl,rfl⟩
 | cons=>cases h
theorem Zfm:∀{ts:List LT} {l:List (Yy S)} {x:Tup S ts},dT ts l=some x->eT ts x=l
 | [],l,x,h=>by
  simp only[dT]at h;rw[(ZhZ h).1];rfl
 | [t],l,x,h=>by
  simp only[dT]at h;cases l with
  | nil=>cases h
  | cons y r =>
   obtain⟨z,c,h⟩:=Z0 h;obtain⟨d,e⟩:=ZhZ h;subst d e;rw[Ziz c];rfl
 | t::t'::ts,l,x,h=>by
  simp only[dT]at h;cases l with
  | nil=>cases h
  | cons y r =>
   obtain⟨a,c,h⟩:=Z0 h;obtain⟨b,d,h⟩:=Z0 h;cases h;simp only[eT];rw[Ziz c,Zfm d]
def Z2H:List Nat->List Nat->Bool
 | [],[]=>true
 | a::as,b::bs=>Nat.beq a b&&Z2H as bs
 | _,_=>false
theorem Z1I:∀{a b:List Nat},Z2H a b=true->a=b
 | [],[],_=>rfl
 | [],_::_,h=>by simp[Z2H]at h
 | _::_,[],h=>by simp[Z2H]at h
 | a::as,b::bs,h=>by
  simp only[Z2H,jn]at h;rw[jf h.1,Z1I h.2]
mutual
def lvV:TV S->List (Yy S)
 | .bool b=>[⟨.bool,b⟩]
 | .int _ n=>[⟨.int,n⟩]
 | .str s=>[⟨.str,s⟩]
 | .ap _ _ i _ _=>[⟨.nat,i⟩]
 | .rptr _ _ i _ _=>[⟨.nat,i⟩]
 | .sl t xs=>[⟨.lst t,xs⟩]
 | .arr t _ a=>[⟨.arr t,a⟩]
 | .stc i x=>[⟨.st i,x⟩]
 | .earr _ _ _ a=>[⟨.en,a⟩]
 | .pub cs=>Z9X cs
 | .agg cs=>Z9X cs
 | .tup vs=>Z9X vs
 | .fn _ a c=>Z9X a++Z9X c
 | .iface _ v=>lvV v
 | _=>[]
def Z9X:List (TV S)->List (Yy S)
 | []=>[]
 | c::cs=>lvV c++Z9X cs
end
def Zid:Fn->Fn->Bool
 | .func a,.func b=>Nat.beq a b
 | _,_=>false
theorem Zhr {a b:Fn} (h:Zid a b=true):a=b:=by
 unfold Zid at h;split at h
 ·rw[jf h]
 ·cases h
mutual
def shV:TV S->TV S->Bool
 | .bool _,.bool _=>true
 | .int k _,.int k' _=>decide (k=k')
 | .str _,.str _=>true
 | .nilp,.nilp=>true
 | .ptr i o,.ptr i' o'=>Nat.beq i i'&&Nat.beq o o'
 | .ap i b _ e o,.ap i' b' _ e' o'=>Nat.beq i i'&&Nat.beq b b'&&Nat.beq e e'&&Nat.beq o o'
 | .rptr i v _ e o,.rptr i' v' _ e' o'=>Nat.beq i i'&&Nat.beq v v'&&Nat.beq e e'&&Nat.beq o o'
 | .pub cs,.pub cs'=>Z9C cs cs'
 | .nils,.nils=>true
 | .sl0,.sl0=>true
 | .sl t _,.sl t' _=>decide (t=t')
 | .rs i v,.rs i' v'=>Nat.beq i i'&&Nat.beq v v'
 | .arr t n _,.arr t' n' _=>decide (t=t')&&Nat.beq n n'
 | .stc i _,.stc i' _=>Nat.beq i i'
 | .earr ts p n _,.earr ts' p' n' _=>Z2H ts ts'&&Nat.beq p p'&&Nat.beq n n'
 | .narr ts n,.narr ts' n'=>Z2H ts ts'&&Nat.beq n n'
 | .agg cs,.agg cs'=>Z9C cs cs'
 | .tup cs,.tup cs'=>Z9C cs cs'
 | .fn f a c,.fn f' a' c'=>Zid f f'&&Z9C a a'&&Z9C c c'
 | .nilfn,.nilfn=>true
 | .map i,.map i'=>Nat.beq i i'
 | .nilmap,.nilmap=>true
 | .iface t v,.iface t' v'=>Nat.beq t t'&&shV v v'
 | .nilif,.nilif=>true
 | .iter i,.iter i'=>Nat.beq i i'
 | .yld i,.yld i'=>Nat.beq i i'
 | _,_=>false
def Z9C:List (TV S)->List (TV S)->Bool
 | [],[]=>true
 | c::cs,c'::cs'=>shV c c'&&Z9C cs cs'
 | _,_=>false
end
def tk1 (t:LT) (l:List (Yy S)):Option (Zdr S t×List (Yy S)):=match l with
 | []=>none
 | x::r=>(dL t x).bind fun v=>some (v,r)
mutual
def fiV:TV S->List (Yy S)->Option (TV S×List (Yy S))
 | .bool _,l=>(tk1 .bool l).bind fun p=>some (.bool p.1,p.2)
 | .int k _,l=>(tk1 .int l).bind fun p=>some (.int k p.1,p.2)
 | .str _,l=>(tk1 .str l).bind fun p=>some (.str p.1,p.2)
 | .ap i b _ e o,l=>(tk1 .nat l).bind fun p=>some (.ap i b p.1 e o,p.2)
 | .rptr i v _ e o,l=>(tk1 .nat l).bind fun p=>some (.rptr i v p.1 e o,p.2)
 | .sl t _,l=>(tk1 (.lst t) l).bind fun p=>some (.sl t p.1,p.2)
 | .arr t n _,l=>(tk1 (.arr t) l).bind fun p=>some (.arr t n p.1,p.2)
 | .stc i _,l=>(tk1 (.st i) l).bind fun p=>some (.stc i p.1,p.2)
 | .earr ts q n _,l=>(tk1 .en l).bind fun p=>some (.earr ts q n p.1,p.2)
 | .pub cs,l=>(Z9U cs l).bind fun p=>some (.pub p.1,p.2)
 | .agg cs,l=>(Z9U cs l).bind fun p=>some (.agg p.1,p.2)
 | .tup cs,l=>(Z9U cs l).bind fun p=>some (.tup p.1,p.2)
 | .fn f a c,l=>(Z9U a l).bind fun p=>(Z9U c p.2).bind fun q=>some (.fn f p.1 q.1,q.2)
 | .iface t v,l=>(fiV v l).bind fun p=>some (.iface t p.1,p.2)
 | v,l=>some (v,l)
def Z9U:List (TV S)->List (Yy S)->Option (List (TV S)×List (Yy S))
 | [],l=>some ([],l)
 | c::cs,l=>(fiV c l).bind fun p=>(Z9U cs p.2).bind fun q=>some (p.1::q.1,q.2)
end
theorem Z1W (t:LT) (x:Zdr S t) (r:List (Yy S)):tk1 t (⟨t,x⟩::r)=some (x,r):=by
 simp[tk1,dL]
theorem Z3q (b:Bool) (r:List (Yy S)):tk1 .bool (⟨.bool,b⟩::r)=some (b,r):=Z1W .bool b r
theorem Z4w (b:Int) (r:List (Yy S)):tk1 .int (⟨.int,b⟩::r)=some (b,r):=Z1W .int b r
theorem Z2l (b:ByteArray) (r:List (Yy S)):tk1 .str (⟨.str,b⟩::r)=some (b,r):=Z1W .str b r
theorem Z2k (b:Nat) (r:List (Yy S)):tk1 .nat (⟨.nat,b⟩::r)=some (b,r):=Z1W .nat b r
theorem Z2j (t:Ty) (b:List (Val S t)) (r:List (Yy S)):tk1 (.lst t) (⟨.lst t,b⟩::r)=some (b,r):=Z1W (.lst t) b r
theorem Z4v (t:Ty) (b:Nat->Val S t) (r:List (Yy S)):tk1 (.arr t) (⟨.arr t,b⟩::r)=some (b,r):=Z1W (.arr t) b r
theorem Zit (i:Nat) (b:S i) (r:List (Yy S)):tk1 (.st i) (⟨.st i,b⟩::r)=some (b,r):=Z1W (.st i) b r
theorem Zis (b:Nat->Nat) (r:List (Yy S)):tk1 .en (⟨.en,b⟩::r)=some (b,r):=Z1W .en b r
theorem Zem (k e:Ty) (b:List (Val S k×Val S e)) (r:List (Yy S)):tk1 (.mp k e) (⟨.mp k e,b⟩::r)=some (b,r):=Z1W (.mp k e) b r
mutual
theorem ZeC:∀{p v:TV S} (r:List (Yy S)),shV p v=true->fiV p (lvV v++r)=some (v,r)
 | .bool _,v,r,h=>by cases v<;>simp only[shV,jg]at h;(simp[lvV,fiV,Z3q,Z4w,Z2l,Z2k,Z2j,Z4v];first|done|rfl)
 | .int k _,v,r,h=>by cases v<;>simp only[shV,jg,jl]at h;subst h;(simp[lvV,fiV,Z3q,Z4w,Z2l,Z2k,Z2j,Z4v];first|done|rfl)
 | .str _,v,r,h=>by cases v<;>simp only[shV,jg]at h;(simp[lvV,fiV,Z3q,Z4w,Z2l,Z2k,Z2j,Z4v];first|done|rfl)
 | .nilp,v,r,h=>by cases v<;>simp only[shV,jg]at h;simp[lvV,fiV]
 | .ptr i o,v,r,h=>by
  cases v<;>simp only[shV,jg,jn]at h;rw[jf h.1,jf h.2];simp[lvV,fiV]
 | .ap i b _ e o,v,r,h=>by
  cases v<;>simp only[shV,jg,jn]at h;rw[jf h.1.1.1,jf h.1.1.2,jf h.1.2,jf h.2];(simp[lvV,fiV,Z3q,Z4w,Z2l,Z2k,Z2j,Z4v];first|done|rfl)
 | .rptr i w _ e o,v,r,h=>by
  cases v<;>simp only[shV,jg,jn]at h;rw[jf h.1.1.1,jf h.1.1.2,jf h.1.2,jf h.2];(simp[lvV,fiV,Z3q,Z4w,Z2l,Z2k,Z2j,Z4v];first|done|rfl)
 | .pub cs,v,r,h=>by
  cases v<;>simp only[shV,jg]at h;simp only[lvV,fiV,Z5X r h,jm]
 | .nils,v,r,h=>by cases v<;>simp only[shV,jg]at h;simp[lvV,fiV]
 | .sl0,v,r,h=>by cases v<;>simp only[shV,jg]at h;simp[lvV,fiV]
 | .sl t _,v,r,h=>by cases v<;>simp only[shV,jg,jl]at h;subst h;(simp[lvV,fiV,Z3q,Z4w,Z2l,Z2k,Z2j,Z4v];first|done|rfl)
 | .rs i w,v,r,h=>by
  cases v<;>simp only[shV,jg,jn]at h;rw[jf h.1,jf h.2];simp[lvV,fiV]
 | .arr t n _,v,r,h=>by
  cases v<;>simp only[shV,jg,jn,jl]at h;obtain⟨d,g⟩:=h;subst d;rw[jf g];(simp[lvV,fiV,Z3q,Z4w,Z2l,Z2k,Z2j,Z4v];first|done|rfl)
 | .stc i _,v,r,h=>by
  cases v<;>simp only[shV,jg]at h;have:=jf h;subst this;simp only[lvV,fiV,List.cons_append,List.nil_append,Zit];rfl
 | .earr ts p n _,v,r,h=>by
  cases v<;>simp only[shV,jg,jn]at h;rw[Z1I h.1.1,jf h.1.2,jf h.2];simp only[lvV,fiV,List.cons_append,List.nil_append,Zis];rfl
 | .narr ts n,v,r,h=>by
  cases v<;>simp only[shV,jg,jn]at h;rw[Z1I h.1,jf h.2];simp[lvV,fiV]
 | .agg cs,v,r,h=>by
  cases v<;>simp only[shV,jg]at h;simp only[lvV,fiV,Z5X r h,jm]
 | .tup cs,v,r,h=>by
  cases v<;>simp only[shV,jg]at h;simp only[lvV,fiV,Z5X r h,jm]
 | .fn f a c,v,r,h=>by
  cases v<;>simp only[shV,jg,jn]at h;obtain⟨⟨d,g⟩,j⟩:=h;simp only[lvV,fiV,jj,Z5X _ g,jm,Z5X r j,Zhr d]
 | .nilfn,v,r,h=>by cases v<;>simp only[shV,jg]at h;simp[lvV,fiV]
 | .map i,v,r,h=>by
  cases v<;>simp only[shV,jg]at h;rw[jf h];simp[lvV,fiV]
 | .nilmap,v,r,h=>by cases v<;>simp only[shV,jg]at h;simp[lvV,fiV]
 | .iface t w,v,r,h=>by
  cases v<;>simp only[shV,jg,jn]at h;simp only[lvV,fiV,ZeC r h.2,jm,jf h.1]
 | .nilif,v,r,h=>by cases v<;>simp only[shV,jg]at h;simp[lvV,fiV]
 | .iter i,v,r,h=>by
  cases v<;>simp only[shV,jg]at h;rw[jf h];simp[lvV,fiV]
 | .yld i,v,r,h=>by
  cases v<;>simp only[shV,jg]at h;rw[jf h];simp[lvV,fiV]
theorem Z5X:∀{p v:List (TV S)} (r:List (Yy S)),Z9C p v=true->Z9U p (Z9X v++r)=some (v,r)
 | [],[],r,_=>by simp[Z9X,Z9U]
 | [],_::_,_,h=>by simp[Z9C]at h
 | _::_,[],_,h=>by simp[Z9C]at h
 | p::ps,v::vs,r,h=>by
  simp only[Z9C,jn]at h;simp only[Z9X,Z9U,jj,ZeC _ h.1,jm,Z5X r h.2]
end
def Zbh {α:Type} (f:α->List (Yy S)):Tr α->List (Yy S)
 | .leaf=>[]
 | .node l v r=>Zbh f l++((match v with|some x=>f x|none=>[])++Zbh f r)
def Z7y {α:Type} (f:α->α->Bool):Tr α->Tr α->Bool
 | .leaf,.leaf=>true
 | .node l v r,.node l' v' r'=>Z7y f l l'&&(match v,v' with|some x,some x'=>f x x'|none,none=>true|_,_=>false)&&Z7y f r r'
 | _,_=>false
def Zb5 {α:Type} (f:α->List (Yy S)->Option (α×List (Yy S))):Tr α->List (Yy S)->Option (Tr α×List (Yy S))
 | .leaf,l=>some (.leaf,l)
 | .node a v b,l=>(Zb5 f a l).bind fun p=>((match v with|some x=>(f x p.2).bind fun q=>some (some q.1,q.2)|none=>some (none,p.2)):Option (Option α×List (Yy S))).bind fun q=>(Zb5 f b q.2).bind fun r=>some (.node p.1 q.1 r.1,r.2)
theorem Z6s {α:Type} {lv:α->List (Yy S)} {sh:α->α->Bool} {fi:α->List (Yy S)->Option (α×List (Yy S))} (c:∀p v r,sh p v=true->fi p (lv v++r)=some (v,r)) :
  ∀{p v:Tr α} (r:List (Yy S)),Z7y sh p v=true->Zb5 fi p (Zbh lv v++r)=some (v,r)
 | .leaf,.leaf,r,_=>rfl
 | .leaf,.node ..,_,h=>by simp[Z7y]at h
 | .node ..,.leaf,_,h=>by simp[Z7y]at h
 | .node a x b,.node a' x' b',r,h=>by
  simp only[Z7y,jn]at h;obtain⟨⟨f,d⟩,e⟩:=h;simp only[Zbh,Zb5,jj,Z6s c _ f,jm];cases x<;>cases x'<;>simp only[jg]at d
  ·simp only[List.nil_append,jm,Z6s c r e]
  ·simp only[c _ _ _ d,jm,Z6s c r e]
def Zft:Ex->Ex->Bool
 | .normal,.normal=>true
 | .exit i,.exit j=>Nat.beq i j
 | .ret,.ret=>true
 | .busy,.busy=>true
 | _,_=>false
theorem Zb2 {a b:Ex} (h:Zft a b=true):a=b:=by
 cases a<;>cases b<;>simp only[Zft,jg]at h<;>first|rfl|rw[jf h]
def lvO:Zp S->List (Yy S)
 | .cells _ cs=>Z9X cs
 | .row _ t xs _ _=>[⟨.lst t,xs⟩]
 | .map k e m=>[⟨.mp k e,m⟩]
 | .siter s p=>[⟨.str,s⟩,⟨.nat,p⟩]
 | .loop _ b _ _ _ _ _ _ _=>Zbh lvV b
def shO:Zp S->Zp S->Bool
 | .cells t cs,.cells t' cs'=>Nat.beq t t'&&Z9C cs cs'
 | .row e t _ p v,.row e' t' _ p' v'=>Nat.beq e e'&&decide (t=t')&&Nat.beq v v'&&Nat.beq p p'
 | .map k e _,.map k' e' _=>decide (k=k')&&decide (e=e')
 | .siter _ _,.siter _ _=>true
 | .loop f b ps _ _ bid ex pa po,.loop f' b' ps' _ _ bid' ex' pa' po'=>Nat.beq f f'&&Z7y shV b b'&&Z2H ps ps'&&Nat.beq bid bid'&&Zft ex ex'&&Z2H pa pa'&&Z2H po po'
 | _,_=>false
def ZiD (E:Env) (f:Nat) (po:List Nat):Option (Code×Code):=(E.fn f).bind fun F=>match Code.sub F.body po with
 | some (.rangeFunc _ _ a b)=>some (a,b)
 | _=>none
def fiO (E:Env):Zp S->List (Yy S)->Option (Zp S×List (Yy S))
 | .cells t cs,l=>(Z9U cs l).bind fun p=>some (.cells t p.1,p.2)
 | .row e t _ n v,l=>(tk1 (.lst t) l).bind fun p=>some (.row e t p.1 n v,p.2)
 | .map k e _,l=>(tk1 (.mp k e) l).bind fun p=>some (.map k e p.1,p.2)
 | .siter _ _,l=>(tk1 .str l).bind fun p=>(tk1 .nat p.2).bind fun q=>some (.siter p.1 q.1,q.2)
 | .loop f b ps _ _ bid ex pa po,l=>(Zb5 fiV b l).bind fun p=>(ZiD E f po).bind fun c=>some (.loop f p.1 ps c.1 c.2 bid ex pa po,p.2)
theorem Zic (E:Env) {p v:Zp S} (c:WfL E (some v)) (r:List (Yy S)) (h:shO p v=true):fiO E p (lvO v++r)=some (v,r):=by
 cases p<;>cases v<;>simp only[shO,jg,jn]at h
 ·rw[jf h.1];simp only[lvO,fiO,Z5X r h.2,jm]
 ·have a:=of_decide_eq_true h.1.1.2;subst a;rw[jf h.1.1.1,jf h.1.2,jf h.2]
  (simp[lvO,fiO,Z2l,Z2k,Z2j,Zem];first|done|rfl)
 ·have a:=of_decide_eq_true h.1;have b:=of_decide_eq_true h.2;subst a b
  (simp[lvO,fiO,Z2l,Z2k,Z2j,Zem];first|done|rfl)
 ·(simp[lvO,fiO,Z2l,Z2k,Z2j,Zem];first|done|rfl)
 ·obtain⟨⟨⟨⟨⟨⟨a,b⟩,g⟩,j⟩,d⟩,k⟩,e⟩:=h;obtain⟨F,f,i,l⟩:=c;rw[jf a,Z1I g,jf j,Zb2 d,Z1I k,Z1I e];simp only[lvO,fiO,Z6s (fun p v r h=>ZeC r h) r b,jm,ZiD,i,l]
def ZdO (s:StT S):List (Yy S):=Zbh lvV s.base++Zbh lvO s.objs
def ZbJ (p s:StT S):Bool:=Z7y shV p.base s.base&&Z7y shO p.objs s.objs&&Nat.beq p.next s.next
def Z8O (E:Env) (p:StT S) (l:List (Yy S)):Option (StT S):=(Zb5 fiV p.base l).bind fun b=>(Zb5 (fiO E) p.objs b.2).bind fun o=>match o.2 with
 | []=>some ⟨b.1,o.1,p.next⟩
 | _=>none
def Zep {α:Type} (q:α->Prop):Tr α->Prop
 | .leaf=>True
 | .node l v r=>Zep q l/\(∀x,v=some x->q x)/\Zep q r
theorem Z8u {α:Type} {q:α->Prop}:∀{t:Tr α},(∀i x,t.get i=some x->q x)->Zep q t
 | .leaf,_=>trivial
 | .node l v r,h=>by
  refine⟨Z8u fun i x a=>h (2*i+1) x ?_,fun x a=>h 0 x ?_,Z8u fun i x a=>h (2*i+2) x ?_⟩
  ·rw[Tr.get_node,if_neg (by omega),if_pos (by omega),show(2*i+1) / 2=i by omega];exact a
  ·rw[Tr.get_node,if_pos rfl];exact a
  ·rw[Tr.get_node,if_neg (by omega),if_neg (by omega),show(2*i+2) / 2-1=i by omega];exact a
theorem Z6t {α:Type} {q:α->Prop} {lv:α->List (Yy S)} {sh:α->α->Bool} {fi:α->List (Yy S)->Option (α×List (Yy S))} (c:∀p v r,q v->sh p v=true->fi p (lv v++r)=some (v,r)) :
  ∀{p v:Tr α} (r:List (Yy S)),Zep q v->Z7y sh p v=true->Zb5 fi p (Zbh lv v++r)=some (v,r)
 | .leaf,.leaf,r,_,_=>rfl
 | .leaf,.node ..,_,_,h=>by simp[Z7y]at h
 | .node ..,.leaf,_,_,h=>by simp[Z7y]at h
 | .node a x b,.node a' x' b',r,hq,h=>by
  simp only[Z7y,jn]at h;obtain⟨⟨f,d⟩,e⟩:=h;obtain⟨q1,q2,q3⟩:=hq;simp only[Zbh,Zb5,jj,Z6t c _ q1 f,jm];cases x<;>cases x'<;>simp only[jg]at d
  ·simp only[List.nil_append,jm,Z6t c r q3 e]
  ·simp only[c _ _ _ (q2 _ rfl) d,jm,Z6t c r q3 e]
theorem Z6r (E:Env) {p s:StT S} (b:WfO E s.objs) (h:ZbJ p s=true):Z8O E p (ZdO s)=some s:=by
 unfold ZbJ at h;simp only[jn]at h;obtain⟨⟨a,c⟩,e⟩:=h;unfold Z8O ZdO;rw[Z6s (fun p v r h=>ZeC r h) _ a];simp only[jm];have:=Z6t (q:=fun x=>WfL E (some x)) (fun p v r d h=>Zic E d r h) [] (Z8u fun i x f=>by have:=b i;rw[f]at this;exact this) c
 rw[jp]at this;rw[this];simp only[jm,jf e]
end Go.Ab
namespace Go.Ab
variable {S:Nat->Type} {R:Type}
def Z4D (S:Nat->Type):List Ty->Type
 | []=>Unit
 | t::ts=>Val S t×Z4D S ts
def Z5u (S:Nat->Type):List Ty->Type
 | []=>Unit
 | [t]=>Val S t
 | t::t'::ts=>Val S t×Z5u S (t'::ts)
def ZbX (T:TS S):(ts:List Ty)->Z4D S ts->List (TV S)
 | [],_=>[]
 | t::ts,x=>Z7E T t x.1::ZbX T ts x.2
def Z3A (T:TS S):(ts:List Ty)->Z4D S ts->List DV
 | [],_=>[]
 | t::ts,x=>YS T t x.1::Z3A T ts x.2
def ZbU (T:TS S):(ts:List Ty)->List (TV S)->Option (Z4D S ts)
 | [],l=>dTn' () l
 | t::ts,l=>match l with
  | []=>none
  | v::r=>(Z5O T t v).bind fun x=>(ZbU T ts r).bind fun y=>some (x,y)
 where
 dTn' {α:Type} (x:α) (l:List (TV S)):Option α:=match l with
  | []=>some x
  | _=>none
def Zax (T:TS S):(ts:List Ty)->Z5u S ts->List (TV S)
 | [],_=>[]
 | [t],x=>[Z7E T t x]
 | t::t'::ts,x=>Z7E T t x.1::Zax T (t'::ts) x.2
def Z3B (T:TS S):(ts:List Ty)->Z5u S ts->List DV
 | [],_=>[]
 | [t],x=>[YS T t x]
 | t::t'::ts,x=>YS T t x.1::Z3B T (t'::ts) x.2
def Z9Y (T:TS S):(ts:List Ty)->List (TV S)->Option (Z5u S ts)
 | [],l=>ZbU.dTn' () l
 | [t],l=>match l with
  | []=>none
  | v::r=>(Z5O T t v).bind fun x=>ZbU.dTn' x r
 | t::t'::ts,l=>match l with
  | []=>none
  | v::r=>(Z5O T t v).bind fun x=>(Z9Y T (t'::ts) r).bind fun y=>some (x,y)
def ZbP (n:Nat) (v:TV S):Option (List (TV S)):=bif Nat.beq n 1 then some [v]else match v with
 | .tup vs=>some vs
 | _=>none
section
variable {T:TS S} (hT:TOk T)
include hT
theorem ZbY:∀(ts:List Ty) (x:Z4D S ts),dvl T (ZbX T ts x)=Z3A T ts x
 | [],_=>by simp[ZbX,Z3A,dvl]
 | t::ts,x=>by simp only[ZbX,Z3A,dvl,Z1M hT,ZbY ts]
theorem Zd2:∀(ts:List Ty) (x:Z5u S ts),dvl T (Zax T ts x)=Z3B T ts x
 | [],_=>by simp[Zax,Z3B,dvl]
 | [t],x=>by simp only[Zax,Z3B,dvl];exact congrArg (fun z=>[z]) (Z1M hT t x)
 | t::t'::ts,x=>by simp only[Zax,Z3B,dvl,Z1M hT,Zd2 (t'::ts)]
omit hT in
theorem Z8F {α:Type} {x y:α} {l:List (TV S)} (h:ZbU.dTn' x l=some y):l=[]/\x=y:=by
 cases l with
 | nil=>cases h;exact⟨rfl,rfl⟩
 | cons=>cases h
theorem Zes:∀{ts:List Ty} {l:List (TV S)} {x:Z4D S ts},ZbU T ts l=some x->dvl T l=Z3A T ts x
 | [],l,x,h=>by
  simp only[ZbU]at h;rw[(Z8F h).1];simp[Z3A,dvl]
 | t::ts,l,x,h=>by
  simp only[ZbU]at h;cases l with
  | nil=>cases h
  | cons v r =>
   obtain⟨y,a,h⟩:=Z0 h;obtain⟨z,b,h⟩:=Z0 h;cases h;simp only[dvl,Z3A,Z3p hT a,Zes b]
theorem ZeY:∀{ts:List Ty} {l:List (TV S)} {x:Z5u S ts},Z9Y T ts l=some x->dvl T l=Z3B T ts x
 | [],l,x,h=>by
  simp only[Z9Y]at h;rw[(Z8F h).1];simp[Z3B,dvl]
 | [t],l,x,h=>by
  simp only[Z9Y]at h;cases l with
  | nil=>cases h
  | cons v r =>
   obtain⟨y,a,h⟩:=Z0 h;obtain⟨b,c⟩:=Z8F h;subst b c;simp only[dvl,Z3B,Z3p hT a]
 | t::t'::ts,l,x,h=>by
  simp only[Z9Y]at h;cases l with
  | nil=>cases h
  | cons v r =>
   obtain⟨y,a,h⟩:=Z0 h;obtain⟨z,b,h⟩:=Z0 h;cases h;simp only[dvl,Z3B,Z3p hT a,ZeY b]
end
structure F7 (S:Nat->Type) where
 pts:List Ty
 rts:List Ty
 F:Z4D S pts->Option (Z5u S rts)
def Z9R (X:Yk S) (g:Nat) (fs:F7 S):Prop:=∀xs r,fs.F xs=some r->Evt fun n=>evF X.E n g (Z3A X.T fs.pts xs)=some (Z6G (Z3B X.T fs.rts r))
def Zb6:List (Nat×F7 S)->Nat->Option (F7 S)
 | [],_=>none
 | (n,f)::l,g=>bif Nat.beq n g then some f else Zb6 l g
abbrev Prs (S:Nat->Type) (R:Type):=Nat->List (TV S)->Tr (Zp S)->Nat->(TV S->Tr (Zp S)->Nat->Option R)->Option R
def Z8r (X:Yk S) (ps:Prs S R):Prop:=∀g as s n0 k r,ps g as s n0 k=some r->WfO X.E s->∃v os n',
  Evt (fun n=>(ZgM X.E n g (dvl X.T as) (s.mapv (dvO X.T)) n0).bind (Z7P n0)=some (dv X.T v,os.mapv (dvO X.T),n'))/\WfO X.E os/\k v os n'=some r
def ZiI:Prs S R:=fun _ _ _ _ _=>none
theorem ZiJ (X:Yk S):Z8r X (ZiI (R:=R)):=fun _ _ _ _ _ _ h=>by cases h
def Z6U (T:TS S) (tab:List (Nat×F7 S)) (ps:Prs S R):Z3H S R:=⟨fun g as k=>(Zb6 tab g).bind fun fs=>(ZbU T fs.pts as).bind fun xs=>(fs.F xs).bind fun r=>k (Z4Y (Zax T fs.rts r)),ps⟩
def Za2 (X:Yk S):List (Nat×F7 S)->Prop
 | []=>True
 | (n,f)::l=>Z9R X n f/\Za2 X l
theorem Z9H {X:Yk S}:∀{l:List (Nat×F7 S)} {g:Nat} {f:F7 S},Za2 X l->Zb6 l g=some f->Z9R X g f
 | [],_,_,_,h=>by cases h
 | (n,f')::l,g,f,ht,h=>by
  simp only[Zb6]at h;cases hb:Nat.beq n g with
  | true=>rw[hb]at h;cases h;rw[<-jf hb];exact ht.1
  | false=>rw[hb]at h;exact Z9H ht.2 h
section
variable {X:Yk S} (hX:XOk X)
include hX
theorem Z3o {tab:List (Nat×F7 S)} (ht:Za2 X tab) {ps:Prs S R} (d:Z8r X ps):Z8c (R:=R) X (Z6U X.T tab ps):=⟨fun g as k r h=>by
 simp only[Z6U]at h;obtain⟨fs,a,h⟩:=Z0 h;obtain⟨xs,c,h⟩:=Z0 h;obtain⟨q,e,h⟩:=Z0 h;refine⟨_,(Z9H ht a xs q e).mono fun n b=>?_,h⟩;rw[Zes hX.t c,b,<-Zd2 hX.t,Zbs],d⟩
end
def ZiV (X:Yk S) (tab:List (Nat×F7 S)) (pts rts:List Ty) (ps:Prs S (Z5u S rts)) (ls:Z2L S (Z5u S rts)) (n g:Nat) (xs:Z4D S pts):Option (Z5u S rts) :=
 xK X (Z6U X.T tab ps) ls n false [] g (ZbX X.T pts xs) .leaf 0 fun v o _=>(YH o.get v).bind fun v=>(ZbP rts.length v).bind fun l=>Z9Y X.T rts l
theorem ZfV {T:TS S} {n:Nat} {v:TV S} {l:List (TV S)} (h:ZbP n v=some l) (c:l.length=n):dv T v=Z6G (dvl T l):=by
 unfold ZbP at h;cases hb:Nat.beq n 1 with
 | true=>rw[hb]at h;cases h;simp[dvl,Z6G]
 | false =>
  rw[hb]at h;simp only[jA]at h;split at h
  ·cases h;have:¬l.length=1:=fun e=>by rw[<-c,e]at hb;cases hb
   cases l with
   | nil=>simp[dv,dvl,Z6G]
   | cons a vs =>
    cases vs with
    | nil=>simp at this
    | cons b vs=>simp[dv,dvl,Z6G]
  ·cases h
theorem ZcN {T:TS S}:∀{ts:List Ty} {l:List (TV S)} {x:Z5u S ts},Z9Y T ts l=some x->l.length=ts.length
 | [],l,x,h=>by simp only[Z9Y]at h;rw[(Z8F h).1];rfl
 | [t],l,x,h=>by
  simp only[Z9Y]at h;cases l with
  | nil=>cases h
  | cons v r =>
   obtain⟨y,a,h⟩:=Z0 h;rw[(Z8F h).1];rfl
 | t::t'::ts,l,x,h=>by
  simp only[Z9Y]at h;cases l with
  | nil=>cases h
  | cons v r =>
   obtain⟨y,a,h⟩:=Z0 h;obtain⟨z,b,h⟩:=Z0 h;simp[ZcN b]
theorem ZiR {X:Yk S} (hX:XOk X) {tab:List (Nat×F7 S)} (ht:Za2 X tab) {pts rts:List Ty} {ps:Prs S (Z5u S rts)} (a:Z8r X ps) {ls:Z2L S (Z5u S rts)} (hls:Z45 X ls) (n g:Nat):Z9R X g ⟨pts,rts,ZiV X tab pts rts ps ls n g⟩:=fun xs r h=>by
 obtain⟨d,e,f⟩:=Zie hX (Z3o hX ht a) hls h;obtain⟨l,i,c⟩:=Z0 f;refine e.mono fun m b=>?_;rw[ZbY hX.t]at b;rw[b,ZfV i (ZcN c),ZeY hX.t c]
theorem ZiS {X:Yk S} {g:Nat} {pts rts:List Ty} {F F':Z4D S pts->Option (Z5u S rts)} (h:Z9R X g ⟨pts,rts,F⟩) (e:∀xs r,F' xs=some r->F xs=some r):Z9R X g ⟨pts,rts,F'⟩:=fun xs r hr=>h xs r (e xs r hr)
def Z90 {α β:Type} (t:(α->Option β)->α->Option β):Nat->α->Option β
 | 0,_=>none
 | n+1,x=>t (Z90 t n) x
open Classical in
noncomputable def Zas {α β:Type} (t:(α->Option β)->α->Option β) (x:α):Option β:=if h:∃n r,Z90 t n x=some r then some h.choose_spec.choose else none
theorem Z9k {α β:Type} {t:(α->Option β)->α->Option β} {x:α} {r:β} (h:Zas t x=some r):∃n,Z90 t n x=some r:=by
 unfold Zas at h;split at h
 ·rename_i a;cases h;exact⟨_,a.choose_spec.choose_spec⟩
 ·cases h
theorem ZiN {α β:Type} {t:(α->Option β)->α->Option β} {x:α} {y:β} (b:∀n r,Z90 t n x=some r->r=y) (a:∃n r,Z90 t n x=some r):Zas t x=some y:=by
 unfold Zas;rw[dif_pos a,b _ _ a.choose_spec.choose_spec]
theorem ZjW {X:Yk S} {g:Nat} {pts rts:List Ty} {t:(Z4D S pts->Option (Z5u S rts))->Z4D S pts->Option (Z5u S rts)} (h:∀ih,Z9R X g ⟨pts,rts,ih⟩->Z9R X g ⟨pts,rts,t ih⟩):Z9R X g ⟨pts,rts,Zas t⟩:=fun xs r hr=>by
 obtain⟨n,a⟩:=Z9k hr;have:∀n,Z9R X g ⟨pts,rts,Z90 t n⟩:=fun n=>by
  induction n with
  | zero=>intro xs r h;cases h
  | succ n ih=>exact h _ ih
 exact this n xs r a
def Zex (T:TS S) (ti:Option TI) (c:Ty):Bool:=match ti with
 | some ti=>Nat.beq ti.size (tsz T c)&&(ti.isAgg==YZ c)
 | none=>true
theorem Zgc {T:TS S} {o:Option TI} {ti:TI} {c:Ty} (h:Zex T o c=true) (a:o=some ti):ti.size=tsz T c/\ti.isAgg=YZ c:=by
 subst a;simp only[Zex,jn]at h;exact⟨jf h.1,eq_of_beq h.2⟩
def zEq:DV->DV->Bool
 | .bool a,.bool b=>a==b
 | .int k a,.int k' b=>k==k'&&a==b
 | .str a,.str b=>a.toList==b.toList
 | .nilp,.nilp | .nils,.nils | .nilfn,.nilfn | .nilmap,.nilmap | .nilif,.nilif=>true
 | _,_=>false
def ZfX:List DV->List DV->Bool
 | [],[]=>true
 | a::as,b::bs=>zEq a b&&ZfX as bs
 | _,_=>false
theorem Ziw {a b:DV} (h:zEq a b=true):a=b:=by
 unfold zEq at h;split at h<;>first|rfl|(cases h;done)|skip
 ·rw[eq_of_beq h]
 ·simp only[jn]at h;rw[eq_of_beq h.1,eq_of_beq h.2]
 ·have c:=eq_of_beq h;rename_i x y;have e:∀z:ByteArray,z=⟨z.toList.toArray⟩:=fun z=>by
   cases z;simp[ByteArray.toList_eq]
  rw[e x,c,<-e y]
theorem Zff:∀{a b:List DV},ZfX a b=true->a=b
 | [],[],_=>rfl
 | [],_::_,h=>by simp[ZfX]at h
 | _::_,[],h=>by simp[ZfX]at h
 | a::as,b::bs,h=>by
  simp only[ZfX,jn]at h;rw[Ziw h.1,Zff h.2]
def Zh6 (T:TS S) (ti:Option TI) (z:List (TV S)):Bool:=match ti with
 | some ti=>ZfX (dvs T z) ti.zero
 | none=>true
theorem Zh7 {T:TS S} {o:Option TI} {ti:TI} {z:List (TV S)} (h:Zh6 T o z=true) (a:o=some ti):dvs T z=ti.zero:=by
 subst a;exact Zff h
inductive Z5Q {σ ω:Type} (step:σ->Option (σ⊕ω)):σ->ω->Prop
 | done {x:σ} {o:ω}:step x=some (.inr o)->Z5Q step x o
 | next {x y:σ} {o:ω}:step x=some (.inl y)->Z5Q step y o->Z5Q step x o
theorem Z5Q.det {σ ω:Type} {step:σ->Option (σ⊕ω)} {x:σ} {o o':ω} (h:Z5Q step x o):Z5Q step x o'->o=o':=by
 induction h with
 | done h=>intro h';cases h' with
  | done h'=>rw[h]at h';cases h';rfl
  | next h' _=>rw[h]at h';cases h'
 | next h _ ih=>intro h';cases h' with
  | done h'=>rw[h]at h';cases h'
  | next h' h''=>rw[h]at h';cases h';exact ih h''
open Classical in
noncomputable def Z9t {σ ω:Type} (step:σ->Option (σ⊕ω)) (x:σ):Option ω:=if h:∃o,Z5Q step x o then some h.choose else none
theorem Z29 {σ ω:Type} {step:σ->Option (σ⊕ω)} {x:σ} {o:ω}:Z9t step x=some o↔Z5Q step x o:=by
 unfold Z9t;constructor
 ·intro h;split at h
  ·rename_i a;cases h;exact a.choose_spec
  ·cases h
 ·intro h;have a:∃o,Z5Q step x o:=⟨o,h⟩;rw[dif_pos a,a.choose_spec.det h]
theorem Zio {σ ω:Type} (step:σ->Option (σ⊕ω)) (x:σ):Z9t step x=(step x).bind fun | .inl y=>Z9t step y | .inr o=>some o:=by
 cases hs:step x with
 | none =>
  simp only[Option.bind_none];cases hr:Z9t step x with
  | none=>rfl
  | some o =>
   cases Z29.1 hr with
   | done h=>rw[hs]at h;cases h
   | next h _=>rw[hs]at h;cases h
 | some z =>
  cases z with
  | inr o=>simp only[jm];exact Z29.2 (.done hs)
  | inl y =>
   simp only[jm];cases hr:Z9t step y with
   | some o=>exact Z29.2 (.next hs (Z29.1 hr))
   | none =>
    cases hr':Z9t step x with
    | none=>rfl
    | some o =>
     cases Z29.1 hr' with
     | done h=>rw[hs]at h;cases h
     | next h h' =>
      rw[hs]at h;cases h;rw[Z29.2 h']at hr;cases hr
structure Way (S:Nat->Type) where
 ex:Ex
 st:StT S
 ts:List LT
structure LE (S:Nat->Type) where
 key:Key
 head:StT S
 ts:List LT
 outs:List (Way S)
def Zhy (a b:Key):Bool:=Z2H a.path b.path&&Nat.beq a.fid b.fid&&(match a.rnd,b.rnd with|none,none=>true|some x,some y=>Nat.beq x y|_,_=>false)&&Z2H a.pos b.pos&&Nat.beq a.bid b.bid&&Nat.beq a.n0 b.n0
theorem Zhz {a b:Key} (h:Zhy a b=true):a=b:=by
 obtain⟨a1,a2,a3,a4,a5,a6⟩:=a;obtain⟨b1,b2,b3,b4,b5,b6⟩:=b;simp only[Zhy,jn]at h;obtain⟨⟨⟨⟨⟨d,e⟩,c⟩,g⟩,f⟩,i⟩:=h;rw[Z1I d,jf e,Z1I g,jf f,jf i];cases a3<;>cases b3<;>simp only[jg]at c
 ·rfl
 ·rw[jf c]
def Zbp (E:Env):(ws:List (Way S))->Z36 S (ws.map (·.ts))->(Ex->StT S->Option R)->Option R
 | [],_,_=>none
 | [w],o,k=>(Z8O E w.st (eT w.ts o)).bind fun s=>k w.ex s
 | w::w'::ws,o,k=>match o with
  | .inl y=>(Z8O E w.st (eT w.ts y)).bind fun s=>k w.ex s
  | .inr o=>Zbp E (w'::ws) o k
def ZcK:(ws:List (Way S))->Ex->StT S->Option (Z36 S (ws.map (·.ts)))
 | [],_,_=>none
 | [w],ex,s=>bif Zft ex w.ex&&ZbJ w.st s then dT w.ts (ZdO s)else none
 | w::w'::ws,ex,s=>bif Zft ex w.ex&&ZbJ w.st s then(dT w.ts (ZdO s)).bind fun y=>some (.inl y)else(ZcK (w'::ws) ex s).bind fun o=>some (.inr o)
def LE.ls (X:Yk S) (e:LE S) (run:Tup S e.ts->(Z36 S (e.outs.map (·.ts))->Option R)->Option R) (ls:Z2L S R):Z2L S R:=fun key s k =>
 bif Zhy e.key key then(bif ZbJ e.head s then(dT e.ts (ZdO s)).bind fun x=>run x fun o=>Zbp X.E e.outs o k else none)else ls key s k
def Zg7 (X:Yk S) (key:Key) (head:StT S) (ts:List LT) (tab:List (Nat×F7 S)) (ps:Prs S R) (ls:Z2L S R) (n:Nat) (x:Tup S ts) (kx:Z3G->Ex->StT S->Option R):Option R :=
 (Z8O X.E head (eT ts x)).bind fun s=>(X.E.fn key.fid).bind fun F=>(Code.sub F.body key.pos).bind fun c=>(F.hints.find? fun h=>Nat.beq h.bid key.bid).bind fun hint =>
  Z1q X (Z6U X.T tab ps) ls key.rnd key.fid F (xK X (Z6U X.T tab ps) ls n false) (xK X (Z6U X.T tab ps) ls n true) key.path key.pos key.bid c s (kx hint)
def LE.step (X:Yk S) (e:LE S) (tab:List (Nat×F7 S)) (ps:Prs S (Tup S e.ts⊕Z36 S (e.outs.map (·.ts)))) (ls:Z2L S (Tup S e.ts⊕Z36 S (e.outs.map (·.ts)))) (n:Nat) (x:Tup S e.ts):Option (Tup S e.ts⊕Z36 S (e.outs.map (·.ts))) :=
 Zg7 X e.key e.head e.ts tab ps ls n x fun hint ex s=>match ex with
   | .normal=>(ZeR X hint e.key.n0 s).bind fun s=>bif ZbJ e.head s then(dT e.ts (ZdO s)).bind fun y=>some (.inl y)else none
   | ex=>(ZcK e.outs ex s).bind fun o=>some (.inr o)
theorem Zbo {E:Env} {s:StT S} {ex:Ex} (d:WfO E s.objs):∀{ws:List (Way S)} {o:Z36 S (ws.map (·.ts))},ZcK ws ex s=some o->∀k:Ex->StT S->Option R,Zbp E ws o k=k ex s
 | [],_,h,_=>by simp[ZcK]at h
 | [w],o,h,k=>by
  simp only[ZcK]at h;obtain⟨b,a⟩:=Z3 h;simp only[jn]at b;simp only[Zbp];rw[Zfm a,Z6r E d b.2,Zb2 b.1];rfl
 | w::w'::ws,o,h,k=>by
  simp only[ZcK]at h;cases hc:Zft ex w.ex&&ZbJ w.st s with
  | true =>
   rw[hc]at h;obtain⟨y,a,c⟩:=Z0 h;cases c;simp only[jn]at hc;simp only[Zbp];rw[Zfm a,Z6r E d hc.2,Zb2 hc.1];rfl
  | false =>
   rw[hc]at h;obtain⟨y,a,c⟩:=Z0 h;cases c;simp only[Zbp];exact Zbo d a k
section
variable {X:Yk S} (hX:XOk X) {tab:List (Nat×F7 S)} (ht:Za2 X tab)
include hX ht
theorem ZiT {e:LE S} {ps0:Prs S (Tup S e.ts⊕Z36 S (e.outs.map (·.ts)))} (a:Z8r X ps0) {ls0:Z2L S (Tup S e.ts⊕Z36 S (e.outs.map (·.ts)))} (b:Z45 X ls0) {n:Nat} {run:Tup S e.ts->(Z36 S (e.outs.map (·.ts))->Option R)->Option R} (q:∀x k r,run x k=some r->∃o,Z5Q (e.step X tab ps0 ls0 n) x o/\k o=some r)
  {ls:Z2L S R} (hls:Z45 X ls):Z45 X (e.ls X run ls):=fun key s k r h i F c g v hc hh=>by
 unfold LE.ls at h;cases hk:Zhy e.key key with
 | false=>rw[hk]at h;exact hls key s k r h i F c g v hc hh
 | true =>
  rw[hk]at h;have w:=Zhz hk;subst w;simp only[jB]at h;obtain⟨h1,h⟩:=Z3 h;obtain⟨x,h2,h⟩:=Z0 h;have u:Z8O X.E e.head (eT e.ts x)=some s:=by rw[Zfm h2];exact Z6r X.E i h1
  obtain⟨o,hR,h⟩:=q x _ r h
  have main:∀(x:Tup S e.ts) (o:Z36 S (e.outs.map (·.ts))),Z5Q (e.step X tab ps0 ls0 n) x o->∀s,Z8O X.E e.head (eT e.ts x)=some s->WfO X.E s.objs →
    ∃ex s',LTo X.E e.key F c g (Y3 X.T s) ex (Y3 X.T s')/\WfO X.E s'.objs/\(∀(R':Type) (k':Ex->StT S->Option R'),Zbp X.E e.outs o k'=k' ex s'):=by
   intro x o hr
   induction hr with
   | @done x o hst =>
    intro s u i;unfold LE.step Zg7 at hst;rw[u,jm,v,jm,hc,jm,hh,jm]at hst;have p:=Zdo hX (Z3o hX ht a) b n;obtain⟨ex,s',⟨N,t⟩,l,f⟩:=Z11 hX (Z3o hX ht a) b p.1 p.2 v c _ _ s _ _ hst hc i;cases ex with
    | normal =>
     simp only at f;obtain⟨_,_,d⟩:=Z0 f;obtain⟨_,d⟩:=Z3 d;obtain⟨_,_,d⟩:=Z0 d;cases d
    | _ =>
     simp only at f;obtain⟨o',d,j⟩:=Z0 f;cases j;refine⟨_,s',⟨N,fun m m' hm _=>?_⟩,l,fun R' k'=>Zbo l d k'⟩;unfold Zgs;rw[t m hm];rfl
   | @next x y o hst _ ih =>
    intro s u i;unfold LE.step Zg7 at hst;rw[u,jm,v,jm,hc,jm,hh,jm]at hst;have p:=Zdo hX (Z3o hX ht a) b n;obtain⟨ex,s',⟨N,t⟩,l,f⟩:=Z11 hX (Z3o hX ht a) b p.1 p.2 v c _ _ s _ _ hst hc i;cases ex with
    | normal =>
     simp only at f;obtain⟨s2,d,j⟩:=Z0 f;obtain⟨h9,j⟩:=Z3 j;obtain⟨y',a4,j⟩:=Z0 j;cases j;obtain⟨a1,z⟩:=ZcJ hX d l;have a0:Z8O X.E e.head (eT e.ts y)=some s2:=by rw[Zfm a4];exact Z6r X.E z h9
     obtain⟨ex3,s3,⟨N3,a3⟩,a2,a5⟩:=ih s2 a0 z;refine⟨ex3,s3,⟨max N N3+1,fun m m' hm hm'=>?_⟩,a2,a5⟩;unfold Zgs;rw[t m (by omega)]
     simp only[jm];cases m' with
     | zero=>omega
     | succ m' =>
      simp only[iter];rw[a1];simp only[jm];exact a3 m m' (by omega) (by omega)
    | _ =>
     simp only at f;obtain⟨_,_,d⟩:=Z0 f;cases d
  obtain⟨ex,s',t,l,f⟩:=main x o hR s u i;refine⟨ex,s',t,l,?_⟩;rw[f]at h;exact h
end
def Z4x:Nat->List (TV S)->Tr (TV S)->Tr (TV S)
 | _,[],b=>b
 | i,v::vs,b=>Z4x (i+1) vs (b.set i (some v))
def Zfg (b:Tr (TV S)):Nat->Nat->Option (List (TV S))
 | _,0=>some []
 | i,n+1=>(b.get i).bind fun v=>(Zfg b (i+1) n).bind fun vs=>some (v::vs)
theorem Z74:∀(vs:List (TV S)) (i:Nat) (b:Tr (TV S)) (j:Nat),(Z4x i vs b).get j=if i<=j/\j<i+vs.length then vs[j-i]? else b.get j
 | [],i,b,j=>by
  have:¬(i<=j/\j<i+([]:List (TV S)).length):=by simp
  rw[if_neg this];rfl
 | v::vs,i,b,j=>by
  simp only[Z4x];rw[Z74 vs (i+1) _ j,Tr.get_set]
  by_cases e:j=i
  ·subst e;rw[if_neg (by omega),if_pos rfl,if_pos ⟨Nat.le_refl _,by simp⟩,Nat.sub_self];rfl
  ·rw[if_neg e]
   by_cases h:i+1<=j/\j<i+1+vs.length
   ·rw[if_pos h,if_pos ⟨by omega,by simp only[List.length_cons];omega⟩,show j-i=(j-(i+1))+1 by omega];simp
   ·rw[if_neg h,if_neg];simp only[List.length_cons];omega
theorem Zeu {b:Tr (TV S)}:∀(vs:List (TV S)) (i:Nat),(∀j,j<vs.length->b.get (i+j)=vs[j]?)->Zfg b i vs.length=some vs
 | [],_,_=>rfl
 | v::vs,i,h=>by
  simp only[List.length_cons,Zfg];have a:=h 0 (by simp)
  simp only[Nat.add_zero,List.getElem?_cons_zero]at a;rw[a,jm,Zeu vs (i+1) fun j c=>by
   have:=h (j+1) (by simp;omega)
   rw[show i+1+j=i+(j+1) by omega,this];simp]
  rfl
theorem Zdw (vs:List (TV S)):Zfg (Z4x 0 vs .leaf) 0 vs.length=some vs:=Zeu vs 0 fun j a=>by
 rw[Z74,if_pos ⟨by omega,by omega⟩];simp
structure PE (S:Nat->Type) where
 g:Nat
 ar:Nat
 head:StT S
 ts:List LT
 outs:List (Way S)
def PE.ps (X:Yk S) (e:PE S) (run:Tup S e.ts->(Z36 S (e.outs.map (·.ts))->Option R)->Option R) (ps:Prs S R):Prs S R:=fun g as s n0 k =>
 bif Nat.beq e.g g&&(Nat.beq e.ar as.length&&ZbJ e.head ⟨Z4x 0 as .leaf,s,n0⟩)then
  (dT e.ts (ZdO ⟨Z4x 0 as .leaf,s,n0⟩)).bind fun x=>run x fun o=>Zbp X.E e.outs o fun _ st=>(st.base.get 0).bind fun v=>k v st.objs st.next
 else ps g as s n0 k
def PE.body (X:Yk S) (e:PE S) (tab:List (Nat×F7 S)) (ps:Prs S R) (ls:Z2L S R) (n:Nat) (x:Tup S e.ts) (k:StT S->Option R):Option R :=
 (Z8O X.E e.head (eT e.ts x)).bind fun s=>(Zfg s.base 0 e.ar).bind fun as=>(X.E.fn e.g).bind fun F=>bif Nat.ble as.length F.nt then
  Z1q X (Z6U X.T tab ps) ls none e.g F (xK X (Z6U X.T tab ps) ls n false) (xK X (Z6U X.T tab ps) ls n true) [e.g] [] 0 F.body ⟨Z1p F.vmask 0 as .leaf,s.objs,s.next⟩ fun ex s2=>match ex with
   | .exit _ | .busy=>none
   | _=>Ze6 X s2.base.get s2.objs.get F.nres fun vs=>ZeB s.next (Z4Y vs) s2.objs fun v o n=>k ⟨Z4x 0 [v] .leaf,o,n⟩
 else none
def PE.step (X:Yk S) (e:PE S) (tab:List (Nat×F7 S)) (ps:Prs S (Z36 S (e.outs.map (·.ts)))) (ls:Z2L S (Z36 S (e.outs.map (·.ts)))) (n:Nat) (x:Tup S e.ts):Option (Z36 S (e.outs.map (·.ts))) :=
 e.body X tab ps ls n x fun st=>ZcK e.outs .ret st
def ZbS (X:Yk S) (e:PE S) (F:Tup S e.ts->Option (Z36 S (e.outs.map (·.ts)))):Prop:=∀x o,F x=some o->∀s as,Z8O X.E e.head (eT e.ts x)=some s->Zfg s.base 0 e.ar=some as->WfO X.E s.objs →
 ∃v os n',(∀(R':Type) (k':Ex->StT S->Option R'),Zbp X.E e.outs o k'=k' .ret ⟨Z4x 0 [v] .leaf,os,n'⟩)/\WfO X.E os ∧
  Evt fun n=>(ZgM X.E n e.g (dvl X.T as) (s.objs.mapv (dvO X.T)) s.next).bind (Z7P s.next)=some (dv X.T v,os.mapv (dvO X.T),n')
section
variable {X:Yk S} (hX:XOk X)
include hX
omit hX in
theorem ZiL {e:PE S} {F:Tup S e.ts->Option (Z36 S (e.outs.map (·.ts)))} (i:ZbS X e F) {ps:Prs S R} (a:Z8r X ps):Z8r X (e.ps X (fun x k=>(F x).bind k) ps):=fun g as s n0 k r h b=>by
 unfold PE.ps at h;cases hb:Nat.beq e.g g&&(Nat.beq e.ar as.length&&ZbJ e.head ⟨Z4x 0 as .leaf,s,n0⟩)with
 | false=>rw[hb]at h;exact a g as s n0 k r h b
 | true =>
  rw[hb]at h;simp only[jB]at h;simp only[jn]at hb;obtain⟨d,f,c⟩:=hb;have d:=jf d;have f:=jf f;subst d;obtain⟨x,j,h⟩:=Z0 h;obtain⟨o,m,h⟩:=Z0 h;have q:Z8O X.E e.head (eT e.ts x)=some ⟨Z4x 0 as .leaf,s,n0⟩:=by rw[Zfm j];exact Z6r X.E b c
  obtain⟨v,os,n',n,l,p⟩:=i x o m _ as q (by rw[f];exact Zdw as) b
  rw[n]at h;have hv:(Z4x 0 [v] .leaf:Tr (TV S)).get 0=some v:=by rw[Z74];rfl
  rw[hv,jm]at h;exact⟨v,os,n',p,l,h⟩
theorem Zil {tab:List (Nat×F7 S)} (ht:Za2 X tab) {e:PE S} {ps:Prs S (Z36 S (e.outs.map (·.ts)))} (b:Z8r X ps) {ls:Z2L S (Z36 S (e.outs.map (·.ts)))} (hls:Z45 X ls) (n:Nat):ZbS X e (e.step X tab ps ls n):=fun x o h s as hs has hw=>by
 unfold PE.step PE.body at h;rw[hs,jm,has,jm]at h;obtain⟨F,r,h⟩:=Z0 h;obtain⟨hl,h⟩:=Z3 h;have w:=Zdo hX (Z3o hX ht b) hls n;obtain⟨ex,s2,h1,h2,u⟩:=Z11 hX (Z3o hX ht b) hls w.1 w.2 r F.body [] 0 _ _ o h rfl hw;have d:(∃vs,Z4o X.E (dvr X.T s2.base.get) (dvh X.T s2.objs.get) F.nres=some (dvl X.T vs)/\ZeB s.next (Z4Y vs) s2.objs (fun v o n=>ZcK e.outs .ret ⟨Z4x 0 [v] .leaf,o,n⟩)=some o)/\(∀i,ex≠.exit i)/\ex≠.busy:=by
  cases ex<;>simp only[reduceCtorEq]at u<;>exact⟨Z8n hX u,by simp,by simp⟩
 obtain⟨⟨vs,h4,f⟩,h6,z⟩:=d;obtain⟨v',o',n',h8,h9,f⟩:=Zgm hX.t (n:=s2.next) f;have c:WfO X.E o':=fun i=>by
  cases hi:o'.get i with
  | none=>trivial
  | some y =>
   obtain⟨j,x,p,rfl⟩:=h9 i y hi;have:=h2 j;rw[p]at this;exact Zeo this
 refine⟨v',o',n',fun R' k'=>Zbo (s:=⟨_,_,_⟩) c f k',c,h1.mono fun m hm=>?_⟩;have a:ZgM X.E m e.g (dvl X.T as) (s.objs.mapv (dvO X.T)) s.next=some (dv X.T (Z4Y vs),s2.objs.mapv (dvO X.T),s2.next):=by
  unfold ZgM Z9s;rw[r];have l:Nat.ble (dvl X.T as).length F.nt=true:=by rw[Z5e,List.length_map];exact hl
  simp only[jm,l,jB];have e1:(⟨Z2d F.vmask 0 (dvl X.T as) .leaf,s.objs.mapv (dvO X.T),s.next⟩:St)=Y3 X.T ⟨Z1p F.vmask 0 as .leaf,s.objs,s.next⟩:=by
   simp only[Y3];rw[<-Z46];rfl
  rw[e1];have k:evC X.E none e.g F (fun g as=>(evX X.E m false g as .leaf 0).bind fun x=>frz x.2.1.get x.1) (evX X.E m false) (evX X.E m true) m 0 F.body (Y3 X.T ⟨Z1p F.vmask 0 as .leaf,s.objs,s.next⟩)=some (ex,Y3 X.T s2):=hm;rw[k];simp only[jm];have q:Z4o X.E (Y3 X.T s2).base.get (Y3 X.T s2).objs.get F.nres=some (dvl X.T vs):=by
   show Z4o X.E (s2.base.mapv (dv X.T)).get (s2.objs.mapv (dvO X.T)).get F.nres=_;rw[ZeP,Z6D];exact h4
  cases ex with
  | exit i=>exact absurd rfl (h6 i)
  | busy=>exact absurd rfl z
  | _=>simp only[q,jm,Zbs];rfl
 rw[a];exact h8
end
theorem ZiU {X:Yk S} {e:PE S} {F F':Tup S e.ts->Option (Z36 S (e.outs.map (·.ts)))} (h:ZbS X e F) (q:∀x o,F' x=some o->F x=some o):ZbS X e F':=fun x o a=>h x o (q x o a)
theorem ZiM {X:Yk S} {e:PE S} {t:(Tup S e.ts->Option (Z36 S (e.outs.map (·.ts))))->Tup S e.ts->Option (Z36 S (e.outs.map (·.ts)))} (h:∀ih,ZbS X e ih->ZbS X e (t ih)):ZbS X e (Zas t):=fun x o hr=>by
 obtain⟨n,a⟩:=Z9k hr;have:∀n,ZbS X e (Z90 t n):=fun n=>by
  induction n with
  | zero=>intro x o h;cases h
  | succ n ih=>exact h _ ih
 exact this n x o a
theorem ZiG {α β:Type} (f:α->β) (c:Bool) (x y:Option α):Option.map f (bif c then x else y)=bif c then Option.map f x else Option.map f y:=by cases c<;>rfl
theorem Ziy {α β γ:Type} (f:β->γ) (x:Option α) (g:α->Option β):Option.map f (x.bind g)=x.bind fun a=>Option.map f (g a):=by cases x<;>rfl
theorem ZiH {α β γ δ:Type} (f:γ->δ) (l:α->Option γ) (r:β->Option γ) (x:α⊕β):Option.map f (Sum.elim l r x)=Sum.elim (fun a=>Option.map f (l a)) (fun b=>Option.map f (r b)) x:=by cases x<;>rfl
theorem ZiO {B Ω σ ω:Type} {big:B->Option (B⊕Ω)} {st:B->σ->Option (σ⊕ω)} {prj:B->σ} {emb:B->σ->B} {embO:B->ω→Ω}
  (a:∀x,big x=(st x (prj x)).map (Sum.map (emb x) (embO x))) (b:∀x v,st (emb x v)=st x) (c:∀x v,prj (emb x v)=v) (e:∀x v w,emb (emb x v) w=emb x w) (d:∀x v w,embO (emb x v) w=embO x w) (f:∀x,emb x (prj x)=x)
  {x:B} {o:ω} (h:Z5Q (st x) (prj x) o):Z5Q big x (embO x o):=by
 have main:∀(v:σ) (o:ω),Z5Q (st x) v o->Z5Q big (emb x v) (embO x o):=fun v o hr=>by
  induction hr with
  | @done v o hs=>exact .done (by rw[a,b,c,hs,jq,Sum.map_inr,d])
  | @next v w o hs _ ih=>exact .next (by rw[a,b,c,hs,jq,Sum.map_inl,e]) ih
 have:=main _ o h
 rwa [f]at this
def ZhI:Z2L S R:=fun _ _ _=>none
theorem Zih (X:Yk S):Z45 X (ZhI (R:=R)):=fun _ _ _ _ h=>by cases h
end Go.Ab
namespace Go.Ab
open Go.RowKit
variable {S:Nat->Type}
def Yr (T:TS S):(ts:List Ty)->Z4D S ts->List DV
 | [],_=>[]
 | t::ts,x=>dcl T t x.1++Yr T ts x.2
def vok (lim:Ty->Nat) (ok:∀i,S i->Prop):(t:Ty)->Val S t->Prop
 | .bool,_=>True
 | .int k,n=>(Lit.int k n).wf=true
 | .str,s=>s.size<=maxLen
 | .sl t,xs=>List.length (α:=Val S t) xs<=lim t/\∀x:Val S t,List.Mem x xs->vok lim ok t x
 | .arr n t,a=>∀j,j<n->vok lim ok t (a j)
 | .st i,x=>ok i x
def aok (lim:Ty->Nat) (ok:∀i,S i->Prop):(ts:List Ty)->Z4D S ts->Prop
 | [],_=>True
 | t::ts,x=>vok lim ok t x.1/\aok lim ok ts x.2
structure SF (T:TS S) where
 flds:Nat->List Ty
 make:∀i,Z4D S (flds i)->S i
 ok:(Ty->Nat)->∀i,S i->Prop
 mk_dl:∀i xs,T.dcells i (make i xs)=Yr T (flds i) xs
 mk_ok:∀lim i xs,aok lim (ok lim) (flds i) xs->ok lim i (make i xs)
structure Zdq {H:Type} (P:Program) (code:Nat->Option Ty) (lim:Ty->Nat) (B:Nat->DataW H->Prop):Prop where
 slice:∀t e elems spare c,code e=some c->P.underlying t=some (.slice e)->0<P.bytesOf e->B t (.slice elems spare)->elems.length<=lim c/\∀d,d∈elems->B e d
 struct:∀t fs parts,P.underlying t=some (.struct fs)->B t (.agg parts)->∀(j:Nat) f d,fs[j]? = some f->parts[j]? = some d->B f.type d
 array:∀t n e parts,P.underlying t=some (.array n e)->B t (.agg parts)->∀d,d∈parts->B e d
def Z4b (code:Nat->Option Ty) (sz:Ty->Nat):Nat->List (Nat×Nat)->List Ty->Option Nat
 | off,[],[]=>some off
 | off,(t,o)::fs,c::cs=>bif Nat.beq o off&&decide (code t=some c)then Z4b code sz (off+sz c) fs cs else none
 | _,_,_=>none
def Z9j (code:Nat->Option Ty) (ty:Nat->Option TI) (sz:Ty->Nat) (flds:Nat->List Ty) (o:Option TI) (c:Ty):Bool:=match o with
 | none=>false
 | some ti=>Nat.beq ti.size (sz c)&&(match c,ti.k with
  | .bool,.bool=>true
  | .int k,.int k'=>decide (k=k')
  | .str,.string=>true
  | .sl c',.slice e=>decide (code e=some c')&&(Nat.blt 0 (sz c')&&(match ty e with|some te=>Nat.blt 0 te.bytes|none=>false))
  | .arr n c',.array n' e=>Nat.beq n n'&&decide (code e=some c')
  | .st i,.struct fs=>match Z4b code sz 0 fs (flds i)with|some z=>Nat.beq z ti.size|none=>false
  | _,_=>false)
theorem Z9o {β:Bi} {G:Gh}:∀{a b:List DV} {x y:List Value},Zi β G a x->Zi β G b y->Zi β G (a++b) (x++y)
 | [],b,x,y,h1,h2=>by unfold Zi at h1;subst h1;exact h2
 | d::a,b,x,y,h1,h2=>by
  unfold Zi at h1;obtain⟨v,vs,rfl,c,e⟩:=h1;show Zi β G (d::(a++b)) (v::(vs++y));unfold Zi;exact⟨v,vs++y,rfl,c,Z9o e h2⟩
theorem Z3U {β:Bi} {G:Gh} {d:DV} {v:Value} (h:Rep β G d v):Zi β G [d] [v]:=by
 unfold Zi;exact⟨v,[],rfl,h,by unfold Zi;rfl⟩
theorem Z4K {α ξ:Type} {Q:α→ξ→Prop}:∀{l:List α},(∀a,a∈l->∃x,Q a x)->∃xs:List ξ,xs.length=l.length/\∀j (c:j<l.length) (d:j<xs.length),Q l[j] xs[j]
 | [],_=>⟨[],rfl,fun j h=>by simp at h⟩
 | a::l,h=>by
  obtain⟨x,i⟩:=h a (by simp)
  obtain⟨xs,c,d⟩:=Z4K (l:=l) (fun b e=>h b (List.mem_cons_of_mem _ e));refine⟨x::xs,by simp[c],fun j f g=>?_⟩
  cases j with
  | zero=>exact i
  | succ j=>exact d j (by simpa using f) (by simpa using g)
section
variable {H:Type} {enc:TypeId×Value->H} {P:Program} {w:World} {sp:Nat->Bool} {held:Bool} {β:Bi} {G:Gh}
theorem Za6 {a:Addr} {n:Nat} {cs:List Value} (h:w.cells? 0 a n=some cs):cs.length=n/\∀i,(hi:i<cs.length)->w.cell? (a.add i)=some cs[i]:=by
 unfold World.cells? at h;rw[if_pos (Nat.zero_le _)]at h;have gen:∀(l:List Nat) (r:List Value),l.mapM (fun i=>w.cell? (a.add i))=some r->r.length=l.length/\∀j,(c:j<l.length)->(d:j<r.length)->w.cell? (a.add l[j])=some r[j]:=by
  intro l
  induction l with
  | nil=>intro r h;simp at h;subst h;exact⟨rfl,fun j h=>by simp at h⟩
  | cons b l ih =>
   intro r h;rw[List.mapM_cons]at h;simp only[Option.bind_eq_bind,Option.bind_eq_some_iff]at h;obtain⟨y,hy,ys,f,hr⟩:=h;have e:y::ys=r:=by simpa using hr
   subst e;obtain⟨c,d⟩:=ih ys f;refine⟨by simp[c],fun j g k=>?_⟩
   cases j with
   | zero=>exact hy
   | succ j=>exact d j (by simpa using g) (by simpa using k)
 obtain⟨c,d⟩:=gen _ _ h;rw[List.length_range]at c;refine⟨c,fun i hi=>?_⟩;have:=d i (by rw[List.length_range];omega) hi
 rwa [List.getElem_range]at this
theorem ZgK (a:∀b o v,w.cell? ⟨b,o,none⟩=some v->G b o=some v) {b:Nat}:∀{ds:List DV} {cs:List Value} {o:Nat},Zi β G ds cs->(∀i,(hi:i<cs.length)->w.cell? ⟨b,o+i,none⟩=some cs[i])->Pub β G b o ds
 | [],_,_,_,_=>by unfold Pub;trivial
 | d::ds,cs,o,h,hc=>by
  unfold Zi at h;obtain⟨v,vs,rfl,c,e⟩:=h;unfold Pub;refine⟨⟨v,a _ _ _ (hc 0 (by simp)),c⟩,ZgK a e (fun i hi=>?_)⟩
  have:=hc (i+1) (by simpa using hi)
  rw[show o+1+i=o+(i+1) by omega]
  simpa using this
variable {lim:Ty->Nat} {B:Nat->DataW H->Prop} {X:Yk S} (hX:XOk X) (F:SF X.T) (hE:∀ t ti,X.E.ty t=some ti->ZW P t ti)
 (hR:∀t c,X.code t=some c->Z9j X.code X.E.ty (tsz X.T) F.flds (X.E.ty t) c=true)
include hX hE hR
theorem Z49 {t:TypeId} {c:Ty} (hc:X.code t=some c):P.cellsOf t=tsz X.T c:=by
 have h:=hR t c hc;unfold Z9j at h;cases ht:X.E.ty t with
 | none=>rw[ht]at h;cases h
 | some ti =>
  rw[ht]at h;simp only[jn]at h;obtain⟨i,z,a,b,_⟩:=(hE t ti ht).info;unfold Program.cellsOf;rw[a];show i.size=_;rw[b];exact jf h.1
theorem Z7Q {fuel:Nat} (ih:∀t c cs x,X.code t=some c->B t x.1->DataW.trod enc P w 0 sp held fuel t cs=some x->∃v:Val S c,Zi β G (dcl X.T c v) cs/\vok lim (F.ok lim) c v) (cs:List Value) :
  ∀(fields:List Field) (cts:List Ty) (off en:Nat),Z4b X.code (tsz X.T) off (fields.map fun f=>(f.type,f.offset)) cts=some en →
   (∀f,f∈fields->∃x,B f.type x.1/\DataW.trod enc P w 0 sp held fuel f.type ((cs.drop f.offset).take (P.cellsOf f.type))=some x)->off<=en/\∃v:Z4D S cts,Zi β G (Yr X.T cts v) ((cs.drop off).take (en-off))/\aok lim (F.ok lim) cts v
 | [],[],off,en,h,_=>by
  simp only[List.map_nil,Z4b,jh]at h;subst h;refine⟨Nat.le_refl _,(),?_,trivial⟩;rw[Nat.sub_self,List.take_zero];show Zi β G [] [];unfold Zi;rfl
 | [],_::_,off,en,h,_=>by simp[Z4b]at h
 | _::_,[],off,en,h,_=>by simp[Z4b]at h
 | f::fields,c::cts,off,en,h,hm=>by
  simp only[jv,Z4b]at h;cases hb:(Nat.beq f.offset off&&decide (X.code f.type=some c))with
  | false=>rw[hb]at h;cases h
  | true =>
   rw[hb,jB]at h;simp only[jn,jl]at hb;have j:=jf hb.1;obtain⟨y,i,hy⟩:=hm f (by simp)
   obtain⟨v,hv,d⟩:=ih _ _ _ _ hb.2 i hy;obtain⟨l,vs,b,a⟩:=Z7Q ih cs fields cts (off+tsz X.T c) en h (fun g k=>hm g (List.mem_cons_of_mem _ k));rw[Z49 hX F hE hR hb.2,j]at hv;refine⟨by omega,(v,vs),?_,d,a⟩
   have e:(cs.drop off).take (en-off)=(cs.drop off).take (tsz X.T c)++(cs.drop (off+tsz X.T c)).take (en-(off+tsz X.T c)):=by
    rw[show en-off=tsz X.T c+(en-(off+tsz X.T c)) by omega,List.take_add,List.drop_drop]
   rw[e];exact Z9o hv b
theorem ZhM (hB:Zdq P X.code lim B) (hG:∀b o v,w.cell? ⟨b,o,none⟩=some v->G b o=some v):∀(fuel:Nat) (t:TypeId) (c:Ty) (cs:List Value) (x:DataW H×List MemPlace),X.code t=some c->B t x.1 →
  DataW.trod enc P w 0 sp held fuel t cs=some x->∃v:Val S c,Zi β G (dcl X.T c v) cs/\vok lim (F.ok lim) c v:=by
 intro fuel
 induction fuel with
 | zero=>intro t c cs x _ _ h;simp[DataW.trod]at h
 | succ fuel ih =>
  intro t c cs x hc y h;have hr:=hR t c hc;unfold Z9j at hr;cases ht:X.E.ty t with
  | none=>rw[ht]at hr;cases hr
  | some ti =>
   rw[ht]at hr;have hT:=hE t ti ht;have u:=hT.desc;simp only[jn]at hr;obtain⟨hsz,g⟩:=hr;have a7:=Z49 hX F hE hR hc;cases c with
   | bool =>
    split at g<;>try (cases g;done)
    all_goals (rename_i q d;try cases q)
    rw[d]at u;obtain⟨b,rfl,_⟩:=DataW.trod_bool u h;exact⟨b,Z3U (by unfold Rep;rfl),trivial⟩
   | int k =>
    split at g<;>try (cases g;done)
    all_goals (rename_i q d;try cases q)
    rename_i k';have:=of_decide_eq_true g;subst this;rw[d]at u;obtain⟨n,rfl,_,hw⟩:=DataW.trod_int u h;exact⟨n,Z3U (by unfold Rep;rfl),hw⟩
   | str =>
    split at g<;>try (cases g;done)
    all_goals (rename_i q d;try cases q)
    rw[d]at u;obtain⟨s,rfl,_,hw⟩:=DataW.trod_string u h;exact⟨s,Z3U (by unfold Rep;rfl),hw⟩
   | sl c' =>
    split at g<;>try (cases g;done)
    all_goals (rename_i q d;try cases q)
    rename_i e;simp only[jn,jl]at g;obtain⟨a0,hpos,hby⟩:=g;have hbytes:0<P.bytesOf e:=by
     cases hte:X.E.ty e with
     | none=>rw[hte]at hby;cases hby
     | some te =>
      rw[hte]at hby;simp only[Nat.blt,Nat.ble_eq]at hby;obtain⟨i,z,q1,_,q2,_⟩:=(hE e te hte).info;unfold Program.bytesOf;rw[q1];show 0<i.bytes;omega
    have hpos:0<tsz X.T c':=by simp only[Nat.blt,Nat.ble_eq]at hpos;omega
    have a5:=Z49 hX F hE hR a0;rw[d]at u;rcases DataW.trod_slice u h with⟨rfl,_⟩|⟨a,len,cap,elems,rest,n,hn,rfl,a6,_,hlc,hmx,hel,p,_⟩
    ·refine⟨([]:List (Val S c')),Z3U ?_,⟨Nat.zero_le _,fun x hx=>by cases hx⟩⟩
     show Rep β G (.sl []) _;unfold Rep;exact⟨none,0,⟨rfl,Nat.le_refl _⟩,.inl rfl⟩
    ·cases hn;rw[a6]at y;obtain⟨hlim,hBe⟩:=hB.slice _ _ _ _ _ a0 u hbytes y;rw[List.length_map,hel]at hlim;have hall:∀i,i∈List.range len->∃(xv:Val S c') (ecs:List Value),w.cells? 0 (a.add (i*P.cellsOf e)) (P.cellsOf e)=some ecs/\Zi β G (dcl X.T c' xv) ecs/\vok lim (F.ok lim) c' xv:=fun i hi=>by
      have hi':i<len:=by simpa using hi
      have hy:=p i hi';rw[List.getElem?_eq_getElem (by omega)]at hy
      simp only[Option.bind_eq_some_iff]at hy;obtain⟨ecs,h1,h2⟩:=hy;obtain⟨v,h3,h4⟩:=ih e c' ecs _ a0 (hBe _ (List.mem_map.2 ⟨_,jo (by omega),rfl⟩)) h2
      exact⟨v,ecs,h1,h3,h4⟩
     ·obtain⟨xs,a3,hxs⟩:=Z4K (l:=List.range len) (Q:=fun i (xv:Val S c')=>∃(ecs:List Value),w.cells? 0 (a.add (i*P.cellsOf e)) (P.cellsOf e)=some ecs/\Zi β G (dcl X.T c' xv) ecs/\vok lim (F.ok lim) c' xv) hall;rw[List.length_range]at a3;have r:∀j,(hj:j<xs.length)->∃(ecs:List Value),w.cells? 0 (a.add (j*tsz X.T c')) (tsz X.T c')=some ecs/\Zi β G (dcl X.T c' xs[j]) ecs/\vok lim (F.ok lim) c' xs[j]:=fun j hj=>by
       have:=hxs j (by rw[List.length_range];omega) hj
       rw[List.getElem_range,a5]at this;exact this
      refine⟨(xs:List (Val S c')),Z3U ?_,⟨by omega,fun x hx=>?_⟩⟩
      ·show Rep β G (.sl (xs.map (dcl X.T c'))) _;unfold Rep;refine⟨some a,cap,⟨by rw[List.length_map,a3],by rw[List.length_map];omega⟩,?_⟩
       by_cases hnil:xs=[]
       ·left;rw[hnil];rfl
       ·right;have hl0:0<xs.length:=List.length_pos_iff.2 hnil;have a4:a.spot=none:=by
         obtain⟨ecs,h1,_,_⟩:=r 0 hl0;obtain⟨h3,h4⟩:=Za6 h1;have:=h4 0 (by omega)
         rw[Nat.zero_mul]at this;simp only[Addr.add,if_true]at this;unfold World.cell? at this;split at this
         ·split at this
          ·cases this
          ·rename_i hs;cases hsp:a.spot with
           | none=>rfl
           | some z=>rw[hsp]at hs;exact absurd rfl hs
         ·cases this
        obtain⟨ab,ao,asp⟩:=a;simp only at a4;subst a4;refine⟨ab,ao,tsz X.T c',rfl,?_⟩;have gen:∀(n k:Nat),k+n=xs.length->Yv β G ab (tsz X.T c') (ao+k*tsz X.T c') ((xs.drop k).map (dcl X.T c')):=by
         intro n
         induction n with
         | zero =>
          intro k g;rw[jd (by omega)]
          simp only[List.map_nil];unfold Yv;trivial
         | succ n ihn =>
          intro k g;have hk':k<xs.length:=by omega
          rw[jb hk'];simp only[jv];unfold Yv;obtain⟨ecs,h1,h2,_⟩:=r k hk';obtain⟨h3,h4⟩:=Za6 h1;refine⟨Yh hX.t c' _,⟨Z1J (Z33 hX.t c' _),Z2w (Z33 hX.t c' _)⟩,ZgK hG h2 (fun i hi=>?_),?_⟩
          ·have:=h4 i hi;have e:(Addr.add (Addr.add ⟨ab,ao,none⟩ (k*tsz X.T c')) i)=⟨ab,ao+k*tsz X.T c'+i,none⟩:=by
            simp only[Addr.add]
            by_cases hz:k*tsz X.T c'=0
            ·by_cases hi0:i=0
             ·simp[hz,hi0]
             ·simp[hz,hi0]
            ·by_cases hi0:i=0
             ·simp[hz,hi0]
             ·simp[hz,hi0]
           rwa [e]at this
          ·have:=ihn (k+1) (by omega)
           rw[show ao+k*tsz X.T c'+tsz X.T c'=ao+(k+1)*tsz X.T c' by rw[Nat.succ_mul];omega]
           exact this
        have:=gen xs.length 0 (by omega)
        rw[Nat.zero_mul,Nat.add_zero,List.drop_zero]at this;exact this
      ·obtain⟨j,hj,rfl⟩:=List.getElem_of_mem hx;obtain⟨_,_,_,h3⟩:=r j hj;exact h3
   | arr n c' =>
    split at g<;>try (cases g;done)
    all_goals (rename_i q d;try cases q)
    rename_i n' e;simp only[jn,jl]at g;obtain⟨hn,a0⟩:=g;have hn:=jf hn;subst hn;have a5:=Z49 hX F hE hR a0;rw[d]at u
    ·obtain⟨xs0,m,hm,a6,a2,hxl0,p⟩:=DataW.trod_array u h;cases hm;rw[a6]at y;have hBe:=hB.array _ _ _ _ u y;obtain⟨xs,a3,hxs⟩:=Z4K (l:=List.range n) (Q:=fun i (xv:Val S c')=>Zi β G (dcl X.T c' xv) ((cs.drop (i*P.cellsOf e)).take (P.cellsOf e))/\vok lim (F.ok lim) c' xv) (fun i hi=>by
      have hi':i<n:=by simpa using hi
      have hy:=p i hi';rw[List.getElem?_eq_getElem (by omega)]at hy
      exact ih e c' _ _ a0 (hBe _ (List.mem_map.2 ⟨_,jo (by omega),rfl⟩)) hy)
     rw[List.length_range]at a3;have r:∀j,(hj:j<n)->Zi β G (dcl X.T c' (xs.getD j (tdf X.T c'))) ((cs.drop (j*tsz X.T c')).take (tsz X.T c'))/\vok lim (F.ok lim) c' (xs.getD j (tdf X.T c')):=fun j hj=>by
      have a1:j<xs.length:=by omega
      have:=hxs j (by rw[List.length_range];omega) a1
      rw[List.getElem_range,a5]at this;have e2:xs.getD j (tdf X.T c')=xs[j]:=by simp[List.getD,a1]
      rw[e2];exact this
     refine⟨(fun j=>xs.getD j (tdf X.T c')),?_,fun j hj=>(r j hj).2⟩;show Zi β G ((List.range n).flatMap fun j=>dcl X.T c' (xs.getD j (tdf X.T c'))) cs;have gen:∀k,k<=n->Zi β G ((List.range k).flatMap fun j=>dcl X.T c' (xs.getD j (tdf X.T c'))) (cs.take (k*tsz X.T c')):=by
      intro k
      induction k with
      | zero =>
       intro _;rw[Nat.zero_mul,List.take_zero];show Zi β G [] [];unfold Zi;rfl
      | succ k ihk =>
       intro g;rw[List.range_succ,List.flatMap_append,Nat.succ_mul,List.take_add];refine Z9o (ihk (by omega)) ?_
       simp only[List.flatMap_cons,List.flatMap_nil,jp];exact(r k (by omega)).1
     have:=gen n (Nat.le_refl _);rw[List.take_of_length_le (by rw[a2,a7];exact Nat.le_refl _)]at this
     exact this
   | st i =>
    split at g<;>try (cases g;done)
    all_goals (rename_i q d;try cases q)
    rename_i fs;rw[d]at u;obtain⟨fields,hu,hfs,_⟩:=u;split at g
    ·rename_i z hz;have hz2:=jf g;obtain⟨xs,m,hm,a6,a2,a3,p⟩:=DataW.trod_struct hu h;cases hm;rw[a6]at y;have hBf:=hB.struct _ _ _ hu y;rw[<-hfs]at hz
     ·obtain⟨_,v,hv,hvk⟩:=Z7Q hX F hE hR ih cs _ _ 0 z hz (fun f hf=>by
       obtain⟨j,hj,hfj⟩:=List.getElem_of_mem hf;have a1:j<fields.size:=by simpa using hj
       have:=p j f (by rw[Array.getElem?_eq_getElem a1];simpa using hfj)
       rw[List.getElem?_eq_getElem (by omega)]at this
       exact⟨_,hBf j f _ (by rw[Array.getElem?_eq_getElem a1];simpa using hfj) (by rw[List.getElem?_map,List.getElem?_eq_getElem (by omega)];rfl),this⟩)
      refine⟨F.make i v,?_,F.mk_ok lim i v hvk⟩;show Zi β G (X.T.dcells i (F.make i v)) cs;rw[F.mk_dl];rw[Nat.sub_zero,List.drop_zero,List.take_of_length_le (by rw[a2,a7,hz2,jf hsz];exact Nat.le_refl _)]at hv
      exact hv
    ·cases g
theorem Zi9 (hB:Zdq P X.code lim B) (y:∀b o v,w.cell? ⟨b,o,none⟩=some v->G b o=some v) {t:TypeId} {c:Ty} {v:Value} {d:DataW H} {ps:List MemPlace} {r:Reach} {base:Nat} (hc:X.code t=some c) (g:Value.okWide P w r base t v) (q:B t d)
  (h:DataW.Trod enc P w 0 sp held t v d ps):∃x:Val S c,Rep β G (YS X.T c x) v/\vok lim (F.ok lim) c x:=by
 obtain⟨fuel,h⟩:=h;obtain⟨x,p,h2⟩:=ZhM (β:=β) hX F hE hR hB y fuel t c _ _ hc q h;refine⟨x,?_,h2⟩;have hr:=hR t c hc;unfold Z9j at hr;cases ht:X.E.ty t with
 | none=>rw[ht]at hr;cases hr
 | some ti =>
  rw[ht]at hr;have j:=(hE t ti ht).desc;simp only[jn]at hr;obtain⟨_,m⟩:=hr;have one:∀{d:DV},(∀cs,v≠.agg cs)->Zi β G [d] v.cells.toList->Rep β G d v:=fun {d} hne h=>by
   have hcs:v.cells = #[v]:=by cases v<;>simp[Value.cells]at hne⊢
   rw[hcs]at h;unfold Zi at h;obtain⟨u,us,h3,z,_⟩:=h;cases h3;exact z
  cases c with
  | bool =>
   split at m<;>try (cases m;done)
   all_goals (rename_i f e;try cases f)
   rw[e]at j;obtain⟨b,rfl⟩:=WideShapes.okWide_bool j g;exact one (fun cs h=>by cases h) p
  | int k =>
   split at m<;>try (cases m;done)
   all_goals (rename_i f e;try cases f)
   rw[e]at j;obtain⟨n,rfl⟩:=WideShapes.okWide_int j g;exact one (fun cs h=>by cases h) p
  | str =>
   split at m<;>try (cases m;done)
   all_goals (rename_i f e;try cases f)
   rw[e]at j;obtain⟨s,rfl⟩:=WideShapes.okWide_string j g;exact one (fun cs h=>by cases h) p
  | sl c' =>
   split at m<;>try (cases m;done)
   all_goals (rename_i f e;try cases f)
   rw[e]at j;obtain⟨a,l,cp,rfl⟩:=WideShapes.okWide_slice j g;exact one (fun cs h=>by cases h) p
  | arr n c' =>
   split at m<;>try (cases m;done)
   all_goals (rename_i f e;try cases f)
   rw[e]at j;simp only[Value.okWide,j]at g;obtain⟨cs,rfl,_,_⟩:=g;show Rep β G (.agg (acl X.T c' n x)) _;unfold Rep;exact⟨cs.toList,by simp,p⟩
  | st i =>
   split at m<;>try (cases m;done)
   all_goals (rename_i f e;try cases f)
   rw[e]at j;obtain⟨fields,hu,_⟩:=j;obtain⟨cs,rfl,_⟩:=WideShapes.okWide_struct hu g;show Rep β G (.agg (X.T.dcells i x)) _;unfold Rep;exact⟨cs.toList,by simp,p⟩
theorem Zhc (k:Zdq P X.code lim B) (i:∀b o v,w.cell? ⟨b,o,none⟩=some v->G b o=some v) {r:Reach} {base:Nat}:∀(ts:List TypeId) (cs:List Ty) (vs:List Value) (ds:List (DataW H)) (ps:List MemPlace),ts.map X.code=cs.map some →
  (∀(j:Nat) t v,ts[j]? = some t->vs[j]? = some v->Value.okWide P w r base t v)->(∀(j:Nat) t d,ts[j]? = some t->ds[j]? = some d->B t d)->DataW.TrodAll enc P w 0 sp held ts vs ds ps->∃x:Z4D S cs,Zi β G (Z3A X.T cs x) vs/\aok lim (F.ok lim) cs x
 | [],[],[],_,_,_,_,_,_=>⟨(),by show Zi β G [] [];unfold Zi;rfl,trivial⟩
 | [],[],_::_,[],_,_,_,_,h=>by cases h
 | [],[],_::_,_::_,_,_,_,_,h=>by cases h
 | [],_::_,_,_,_,h,_,_,_=>by simp at h
 | _::_,[],_,_,_,h,_,_,_=>by simp at h
 | _::_,_::_,[],_,_,_,_,_,h=>by cases h
 | _::_,_::_,_::_,[],_,_,_,_,h=>by cases h
 | t::ts,c::cs,v::vs,d::ds,ps,hm,hok,hBd,h=>by
  obtain⟨p,q,l,n,_⟩:=h;simp only[jv,List.cons.injEq]at hm;obtain⟨x,m,g⟩:=Zi9 hX F hE hR k i hm.1 (hok 0 t v rfl rfl) (hBd 0 t d rfl rfl) l;obtain⟨xs,f,e⟩:=Zhc k i ts cs vs ds q hm.2 (fun j t v a b=>hok (j+1) t v a b) (fun j t d a b=>hBd (j+1) t d a b) n;refine⟨(x,xs),?_,g,e⟩;show Zi β G (YS X.T c x::Z3A X.T cs xs) (v::vs);unfold Zi;exact⟨v,vs,rfl,m,f⟩
end
end Go.Ab
namespace Go.Ab
def LeC (c c':Nat->List DV->Option DV):Prop:=∀g as r,c g as=some r->c' g as=some r
def LeH (c c':Yi):Prop:=∀g as o n r,c g as o n=some r->c' g as o n=some r
section
variable {E:Env} {c c':Nat->List DV->Option DV} {h h' y y':Yi} (hc:LeC c c') (hh:LeH h h') (hy:LeH y y')
include hc
theorem Zdb {nid:Nat} {ρ:Nat->Option DV} {ob:Nat->Option Zd} {op:Op} {r:Option Out} (a:Z42 E c nid ρ ob op=some r):Z42 E c' nid ρ ob op=some r:=by
 unfold Z42 at a⊢;split at a
 ·exact a
 ·rename_i cl hi;obtain⟨tgt,d,a⟩:=Z0 a;simp only[d,jm];cases hp:Ze0 E tgt with
  | false=>rw[hp]at a;exact a
  | true =>
   rw[hp]at a;simp only[jB]at a⊢;obtain⟨q,b,a⟩:=Z0 a;unfold Z4M at b⊢;obtain⟨tg,f,b⟩:=Z0 b;simp only[f,jm];split at b
   ·obtain⟨fs,g,b⟩:=Z0 b;obtain⟨x,e,b⟩:=Z0 b;simp only[g,jm,hc _ _ _ e,b];exact a
   ·cases b
include hh hy
omit hc in
theorem Zge {ob:Nat->Option Zd} {nx:Nat} {tgt:DV×List DV} {r:Out×List Nat×Nat} (a:YY h y ob nx tgt=some r):YY h' y' ob nx tgt=some r:=by
 unfold YY at a⊢;split at a
 ·unfold Z3z at a⊢;obtain⟨x,b,a⟩:=Z0 a;simp only[hh _ _ _ _ _ b,jm];exact a
 ·unfold Z3z at a⊢;obtain⟨x,b,a⟩:=Z0 a;simp only[hy _ _ _ _ _ b,jm];exact a
 ·cases a
theorem Z9A {df:Bool} {V nt:Nat} {ops:Array Oper} {b:Nat}:∀(os:List Oper) (k:Nat) (m mf:Mid),Z2N E df c h y V nt ops b k os m=some mf->Z2N E df c' h' y' V nt ops b k os m=some mf
 | [],_,_,_,a=>a
 | o::os,k,m,mf,a=>by
  simp only[Z2N]at a⊢;obtain⟨want,d,a⟩:=Z0 a;simp only[d,jm];cases want with
  | false=>exact Z9A os _ _ _ a
  | true =>
   simp only[jB]at a⊢;cases hdd:Z5k E df (ZZ V m.base m.loc) o.op with
   | true=>rw[hdd]at a;exact Z9A os _ _ _ a
   | false =>
   rw[hdd]at a;simp only[jA]at a⊢;obtain⟨so,e,a⟩:=Z0 a;simp only[Zdb hc e,jm];cases so with
   | some r=>exact Z9A os _ _ _ a
   | none =>
    simp only at a⊢;obtain⟨cl,g,a⟩:=Z0 a;obtain⟨tgt,i,a⟩:=Z0 a;obtain⟨m1,f,a⟩:=Z0 a;simp only[g,i,jm,Zge hh hy f];exact Z9A os _ _ _ a
theorem Z8e {V nt:Nat} {ops:Array Oper} {b:Nat}:∀(os:List Oper) (k:Nat) (m mf:Mid) (ds:List (Nat×YJ)),Z19 E c h y V nt ops b k os m ds=some mf->Z19 E c' h' y' V nt ops b k os m ds=some mf
 | [],_,_,_,_,a=>a
 | o::os,k,m,mf,ds,a=>by
  simp only[Z19]at a⊢;obtain⟨e,a⟩:=Z3 a;refine(Z3K e).trans ?_;obtain⟨want,f,a⟩:=Z0 a;simp only[f,jm];cases want with
  | false=>exact Z8e os _ _ _ _ a
  | true =>
   simp only[jB]at a⊢;obtain⟨so,g,a⟩:=Z0 a;simp only[Zdb hc g,jm];cases so with
   | some r =>
    simp only at a⊢;obtain⟨d,a⟩:=Z3 a;rw[d];exact Z8e os _ _ _ _ a
   | none =>
    simp only at a⊢;obtain⟨cl,d,a⟩:=Z0 a;obtain⟨tgt,j,a⟩:=Z0 a;obtain⟨m1,i,a⟩:=Z0 a;simp only[d,j,jm,Zge hh hy i];obtain⟨l,a⟩:=Z3 a;refine(Z3K l).trans ?_;exact Z8e os _ _ _ _ a
theorem ZfI {df:Bool} {V nt:Nat} {ops:Array Oper} {draw:Bool} {s s':St} (b:Z2r E df c h y V nt ops draw s=some s'):Z2r E df c' h' y' V nt ops draw s=some s':=by
 unfold Z2r at b⊢;obtain⟨m,a,d⟩:=Z0 b;clear b;cases draw with
 | true =>
  simp only[jB]at a⊢;rw[Z8e hc hh hy _ _ _ _ _ a];exact d
 | false =>
  simp only[jA]at a⊢;rw[Z9A hc hh hy _ _ _ _ a];exact d
omit hc hh hy in
theorem ZeJ {nrm:St->Option St} {st st':St->Option (Ex×St)} (a:∀s r,st s=some r->st' s=some r):∀(n n':Nat) (s:St) (r:Ex×St),n<=n'->iter nrm st n s=some r->iter nrm st' n' s=some r
 | 0,_,_,_,_,h=>by cases h
 | n+1,0,_,_,hle,_=>by omega
 | n+1,n'+1,s,r,hle,h=>by
  simp only[iter]at h⊢;obtain⟨s1,b,h⟩:=Z0 h;obtain⟨q,c,h⟩:=Z0 h;simp only[b,jm,a _ _ c];obtain⟨ex,s2⟩:=q;cases ex with
  | normal=>exact ZeJ a n n' s2 r (by omega) h
  | _=>exact h
theorem Z2e {rnd:Option Nat} {fid:Nat} {F:FI} {f f':Nat} (i:f<=f'):∀(cd:Code) (bid:Nat) (s:St) (r:Ex×St),evC E rnd fid F c h y f bid cd s=some r->evC E rnd fid F c' h' y' f' bid cd s=some r
 | .skip,_,_,_,e=>e
 | .label _,_,_,_,e=>e
 | .ret,_,_,_,e=>e
 | .exit _,_,_,_,e=>e
 | .goto _,_,_,_,e=>e
 | .refuse _,_,_,_,e=>e
 | .region _ ops dr,bid,s,r,e=>by
  simp only[evC]at e⊢;obtain⟨s1,g,e⟩:=Z0 e;rw[ZfI hc hh hy g];exact e
 | .seq a b,bid,s,r,e=>by
  simp only[evC]at e⊢;obtain⟨q,g,e⟩:=Z0 e;simp only[Z2e i a _ _ _ g,jm];obtain⟨ex,s2⟩:=q;cases ex with
  | normal=>exact Z2e i b _ _ _ e
  | _=>exact e
 | .cond x a b,bid,s,r,e=>by
  simp only[evC]at e⊢;cases ho:Y0 s.base.get x with
  | none=>rw[ho]at e;cases e
  | some d =>
   rw[ho]at e;cases d<;>simp only[reduceCtorEq]at e;rename_i t;simp only;cases t with
   | true=>exact Z2e i a _ _ _ e
   | false=>exact Z2e i b _ _ _ e
 | .block id a,bid,s,r,e=>by
  simp only[evC]at e⊢;obtain⟨q,g,e⟩:=Z0 e;simp only[Z2e i a _ _ _ g,jm];exact e
 | .loop a,bid,s,r,e=>by
  simp only[evC]at e⊢;obtain⟨j,g,e⟩:=Z0 e;simp only[g,jm];exact ZeJ (fun s r h=>Z2e i a _ s r h) _ _ _ _ i e
 | .scope a,bid,s,r,e=>by
  simp only[evC]at e⊢;exact Z2e i a _ _ _ e
 | .rangeFunc fo ps as bo,bid,s,r,e=>by
  simp only[evC]at e⊢;obtain⟨k,e⟩:=Z3 e;rw[k];simp only[jB];obtain⟨s1,g,e⟩:=Z0 e;refine(congrArg (fun z=>Option.bind z _) g).trans ?_;simp only[jm];obtain⟨fv,l,e⟩:=Z0 e;rw[l];simp only[jm];split at e
  ·obtain⟨x,m,e⟩:=Z0 e;simp only[hh _ _ _ _ _ m,jm];exact e
  ·cases e
end
theorem Zc3 {E:Env} {h h':Yi} (hh:LeH h h'):LeH (Z48 E h) (Z48 E h'):=fun g as o nx r a=>by
 unfold Z48 at a⊢;obtain⟨F,b,a⟩:=Z0 a;simp only[b,jm];cases hc:F.can with
 | false=>rw[hc]at a;exact hh _ _ _ _ _ a
 | true =>
  rw[hc]at a;simp only[jB]at a⊢;obtain⟨d,a⟩:=Z3 a;obtain⟨x,c,a⟩:=Z0 a;rw[d];simp only[jB];rw[hh _ _ _ _ _ c];exact a
theorem Zf4 {E:Env} {c c':Nat->List DV->Option DV} {h h' y y':Yi} (hc:LeC c c') (hh:LeH h h') (hy:LeH y y') {n n':Nat} (d:n<=n'):LeH (Z9s E c h y n) (Z9s E c' h' y' n'):=fun g as o nx r a=>by
 unfold Z9s at a⊢;obtain⟨F,b,a⟩:=Z0 a;obtain⟨e,a⟩:=Z3 a;obtain⟨q,f,a⟩:=Z0 a;simp only[b,jm,e,jB,Z2e hc hh hy d _ _ _ _ f];exact a
theorem Zf5 {E:Env} {c c':Nat->List DV->Option DV} {h h' y y':Yi} (hc:LeC c c') (hh:LeH h h') (hy:LeH y y') {n n':Nat} (d:n<=n'):LeH (ZfL E c h y n) (ZfL E c' h' y' n'):=fun l as o nx r a=>by
 unfold ZfL at a⊢;split at a
 ·rename_i fid base ps assign body bid f
  try rw[f]
  try simp only
  obtain⟨F,e,a⟩:=Z0 a;obtain⟨b,g,a⟩:=Z0 a;obtain⟨q,i,a⟩:=Z0 a;simp only[e,g,jm,Z2e hc hh hy d _ _ _ _ i];split at a
  ·obtain⟨q2,j,a⟩:=Z0 a;simp only[Z2e hc hh hy d _ _ _ _ j,jm];exact a
  ·cases a
 ·cases a
theorem Zfa (E:Env) {r r':Yi} (h:LeH r r'):LeH (fun g as o nx=>Z6X E g r g as o nx) (fun g as o nx=>Z6X E g r' g as o nx):=fun g as o nx x a=>by
 simp only[Z6X]at a⊢;cases hL:E.leaf g with
 | some L=>rw[hL]at a;exact a
 | none =>
  rw[hL]at a;cases hc:E.cc g with
  | some t=>rw[hc]at a;exact a
  | none=>rw[hc]at a;exact h g as o nx x a
theorem ZhX (E:Env):∀n,LeH (evX E n false) (evX E (n+1) false)/\LeH (evX E n true) (evX E (n+1) true)
 | 0=>⟨fun _ _ _ _ _ h=>by simp[evX]at h,fun _ _ _ _ _ h=>by simp[evX]at h⟩
 | n+1=>by
  obtain⟨i1,i2⟩:=ZhX E n;have ic:LeC (fun g as=>(evX E n false g as .leaf 0).bind fun x=>frz x.2.1.get x.1) (fun g as=>(evX E (n+1) false g as .leaf 0).bind fun x=>frz x.2.1.get x.1):=fun g as r h=>by
   obtain⟨x,a,b⟩:=Z0 h;simp only[i1 _ _ _ _ _ a,jm];exact b
  constructor
  ·exact Zfa E (Zc3 (Zf4 ic i1 i2 (Nat.le_succ n)))
  ·exact Zf5 (E:=E) ic i1 i2 (Nat.le_succ n)
theorem Z9P (E:Env) (n:Nat):∀M,LeH (evX E n false) (evX E (n+M) false)/\LeH (evX E n true) (evX E (n+M) true)
 | 0=>⟨fun _ _ _ _ _ h=>h,fun _ _ _ _ _ h=>h⟩
 | M+1=>⟨fun g as o nx r h=>(ZhX E (n+M)).1 _ _ _ _ _ ((Z9P E n M).1 _ _ _ _ _ h),fun g as o nx r h=>(ZhX E (n+M)).2 _ _ _ _ _ ((Z9P E n M).2 _ _ _ _ _ h)⟩
theorem Z8M (E:Env) {n m:Nat} (h:n<=m):LeC (evF E n) (evF E m):=fun g as r a=>by
 obtain⟨M,rfl⟩:=Nat.exists_eq_add_of_le h;unfold evF at a⊢;obtain⟨x,b,c⟩:=Z0 a;rw[(Z9P E n M).1 _ _ _ _ _ b];exact c
theorem Zi6 {E:Env} {c:Nat->List DV->Option DV} {M:Nat} (hc:LeC c (evF E M)):∀n,LeH (Zb1 E c n false) (evX E (n+M) false)/\LeH (Zb1 E c n true) (evX E (n+M) true)
 | 0=>⟨fun _ _ _ _ _ h=>by simp[Zb1]at h,fun _ _ _ _ _ h=>by simp[Zb1]at h⟩
 | n+1=>by
  obtain⟨i1,i2⟩:=Zi6 hc n;have ic:LeC c (fun g as=>(evX E (n+M) false g as .leaf 0).bind fun x=>frz x.2.1.get x.1):=fun g as r h=>Z8M E (Nat.le_add_left M n) g as r (hc g as r h);rw[show n+1+M=(n+M)+1 by omega]
  exact⟨Zfa E (Zc3 (Zf4 ic i1 i2 (Nat.le_add_right n M))),Zf5 (E:=E) ic i1 i2 (Nat.le_add_right n M)⟩
def Zy (E:Env) (e:Nat×List DV×DV):Prop:=∃N,evF E N e.1 e.2.1=some e.2.2
theorem Z98 {E:Env}:∀{l:List (Nat×List DV×DV)},(∀e∈l,Zy E e)->∃N,LeC (Zgz l) (evF E N)
 | [],_=>⟨0,fun _ _ _ h=>by cases h⟩
 | (f,xs,d)::l,hl=>by
  obtain⟨N,j⟩:=Z98 (l:=l) fun e i=>hl e (by simp[i])
  obtain⟨M,b⟩:=hl (f,xs,d) (by simp)
  refine⟨N+M,fun g as r h=>?_⟩;simp only[Zgz]at h;cases hq:Nat.beq f g&&Z7L xs as with
  | true =>
   rw[hq]at h;cases h;simp only[jn]at hq;have a:=jf hq.1;have c:=Z6m _ _ hq.2;subst a c;exact Z8M E (Nat.le_add_left M N) _ _ _ b
  | false =>
   rw[hq]at h;exact Z8M E (Nat.le_add_right N M) _ _ _ (j _ _ _ h)
theorem Ziu {E:Env} {l:List (Nat×List DV×DV)} (c:∀e∈l,Zy E e) {n f:Nat} {as:List DV} {d:DV} (h:ZiQ E l n f as=some d):Zy E (f,as,d):=by
 obtain⟨N,j⟩:=Z98 c;have hc:LeC (Zh0 E l n) (evF E (N+n)):=fun g as r a=>by
  unfold Zh0 at a;cases hq:l.any fun e=>Nat.beq e.1 g with
  | true=>rw[hq]at a;exact Z8M E (Nat.le_add_right N n) _ _ _ (j _ _ _ a)
  | false=>rw[hq]at a;exact Z8M E (Nat.le_add_left n N) _ _ _ a
 refine⟨n+(N+n),?_⟩;unfold ZiQ ZeV at h;obtain⟨x,b,i⟩:=Z0 h;unfold evF;rw[(Zi6 hc n).1 _ _ _ _ _ b];exact i
theorem Zhp {E:Env} {n f:Nat} {as:List DV} {d:DV} (h:evF E n f as=some d):Evt fun m=>evF E m f as=some d:=by
 have step:∀m,evF E m f as=some d->evF E (m+1) f as=some d:=fun m a=>by
  unfold evF at a⊢;obtain⟨x,b,c⟩:=Z0 a;rw[(ZhX E m).1 _ _ _ _ _ b];exact c
 refine⟨n,fun m a=>?_⟩
 induction m with
 | zero =>
  have:n=0:=by omega
  subst this;exact h
 | succ m ih =>
  by_cases e:n=m+1
  ·subst e;exact h
  ·exact step m (ih (by omega))
theorem Zga {S:Nat->Type} {X:Yk S} {g:Nat} {F:Option Bool} (b:F=some true) (h:Zy X.E (g,[],.bool true)):Z9R X g ⟨[],[.bool],fun _=>F⟩:=fun xs r hr=>by
 have a:(some true:Option Bool)=some r:=by rw[<-b];exact hr
 cases a;obtain⟨N,c⟩:=h;exact Zhp c
end Go.Ab
