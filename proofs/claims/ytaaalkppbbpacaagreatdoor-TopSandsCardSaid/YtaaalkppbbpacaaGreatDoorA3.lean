/- What the code of the program comes to on plain values. -/
import Derived.Test.YtaaalkppbbpacaaGreatDoorA2
import Derived.Laws.StructEq
import Derived.ChangeKeysEq
import Derived.Lib.ItoaNum
import Derived.Lib.AtoiAll
import Derived.Lib.Split
import Derived.Lib.CutLaws
import Derived.Lib.ConvBytes
import Derived.Lib.LaidTab
import Derived.Deep.Draws
import Derived.Sort.Grow
set_option linter.unusedSectionVars false
set_option linter.unusedVariables false
set_option linter.unusedSimpArgs false
namespace Go.Ab
open Go.RowKit
structure Zs (P:Program) (f:FuncId) (F:FI):Prop where
 fn:∃fn,P.funcs[f]? = some fn/\fn.body=some F.body/\fn.ntmps=F.nt/\fn.results.toList=F.nres
 ent:Z1j P f
def ZaN {α γ:Type} (P:Program) (w:World) (f:α->Sem γ):List α->List γ->Prop
 | [],out=>out=[]
 | x::xs,out=>∃b out',out=b::out'/\(f x).run P w=.ok b w/\ZaN P w f xs out'
section
variable {P:Program} {E:Env} {w0:World} {G0:Gh} {outer:DD} {own:List Nat} {D:DD} {V nt:Nat} {a:Act} {w:World} {β:Bi} {G:Gh} {ro:Option Nat} {n:Nat} {h:Nat->Option Zd}
theorem ZfM {α γ δ:Type} (x:Sem α) (f:α->Sem γ) (g:γ->Sem δ):(x.bind f).bind g=x.bind fun a=>(f a).bind g:=by
 induction x<;>simp only[Sem.bind]<;>first|rfl|(congr 1;funext y;apply_assumption)|(congr 1)
theorem Zip {α:Type} (x:Sem α):x.bind Sem.pure=x:=by
 induction x<;>simp only[Sem.bind]<;>first|rfl|(congr 1;funext y;apply_assumption)|(congr 1)
instance:LawfulMonad Sem:=LawfulMonad.mk' Sem (fun x=>Zip x) (fun _ _=>rfl) (fun x f g=>ZfM x f g)
theorem Zd1 {α γ:Type} (f:α->Sem γ):∀(l:List α) (out:List γ),ZaN P w f l out->(l.mapM f).run P w=.ok out w
 | [],out,h=>by simp only[ZaN]at h;subst h;rfl
 | x::xs,out,h=>by
  obtain⟨b,out',rfl,a,c⟩:=h;rw[List.mapM_cons,jy,a];simp only[Result.andThen];rw[jy,Zd1 f xs out' c];rfl
theorem Zhb {ti:TI} {da d:DV} {u:Value} (hr:Rep β G da u) (a:Z3d ti h da=some d):∃A,u=.pointer (some A):=by
 unfold Z3d at a;split at a
 ·obtain⟨b,_,rfl⟩:=Z1x.1 hr;exact⟨_,rfl⟩
 ·obtain⟨b,_,_,_,rfl⟩:=Z1V.1 hr;exact⟨_,rfl⟩
 ·obtain⟨_,b,o,rfl,_⟩:=Z5s.1 hr;exact⟨_,rfl⟩
 ·cases a
def ZgS (tm:Array Value):ResultVar->Sem Value
 | .tmp t=>pure (tm.getD t undef)
 | .cell a t=>do loadVar t (<-asAddr (tm.getD a undef))
theorem Ze7 (fn:Func) (tm:Array Value):results fn tm=(do let vs <- fn.results.mapM (ZgS tm);pure (if h:vs.size=1 then vs[0]else .tuple vs)):=by
 have:(fun(x:ResultVar)=>(match x with | .tmp t=>pure (tm.getD t undef) | .cell a t=>do loadVar t (<-asAddr (tm.getD a undef)):Sem Value))=ZgS tm:=by
  funext x;cases x<;>rfl
 rw[<-this];rfl
theorem Z6c (hE:∀t ti,E.ty t=some ti->ZW P t ti) {base:Nat->Option DV} {tm:Array Value} (e:FrM β G base tm) (hh:HR E w0 G0 D w β G h):∀(rs:List ResultVar) (vs:List DV),Z4o E base h rs=some vs →
  ∃out,ZaN P w (ZgS tm) rs out/\Zi β G vs out
 | [],vs,a=>by simp only[Z4o,jh]at a;subst a;exact⟨[],rfl,Zm.2 rfl⟩
 | .tmp t::rs,vs,a=>by
  simp only[Z4o]at a;obtain⟨d,g,a⟩:=Z0 a;obtain⟨ds,j,a⟩:=Z0 a;cases a;obtain⟨out,l,m⟩:=Z6c hE e hh rs ds j;obtain⟨v,k,f⟩:=e t d g;refine⟨v::out,⟨v,out,rfl,?_,l⟩,Zb.2 ⟨v,out,rfl,f,m⟩⟩;simp[ZgS,k]
 | .cell b t::rs,vs,a=>by
  simp only[Z4o]at a;obtain⟨ti,c,a⟩:=Z0 a;obtain⟨da,g,a⟩:=Z0 a;obtain⟨d,n,a⟩:=Z0 a;obtain⟨ds,j,a⟩:=Z0 a;cases a;obtain⟨out,l,m⟩:=Z6c hE e hh rs ds j;obtain⟨u,k,f⟩:=e b da g;obtain⟨A,rfl⟩:=Zhb f n;obtain⟨v,p,o⟩:=Z97 hE hh (hE t ti c) (hE t ti c).ko f n;refine⟨v::out,⟨v,out,rfl,?_,l⟩,Zb.2 ⟨v,out,rfl,o,m⟩⟩;have i:(loadVar t A).run P w=.ok v w:=by simpa[Instr.loadAt,Instr.sureAddr]using p
  simp[ZgS,k,asAddr,i]
theorem Z9Z (hE:∀t ti,E.ty t=some ti->ZW P t ti) {base:Nat->Option DV} {tm:Array Value} (g:FrM β G base tm) (hh:HR E w0 G0 D w β G h) {fn:Func} {rs:List ResultVar} (b:fn.results.toList=rs) {vs:List DV} (i:Z4o E base h rs=some vs) :
  ∃v,(results fn tm).run P w=.ok v w/\Rep β G (Z6G vs) v:=by
 obtain⟨out,c,a⟩:=Z6c (P:=P) hE g hh rs vs i;rw[<-b]at c;have j:=Zd1 (P:=P) (w:=w) _ fn.results.toList out c;refine⟨if h:out.toArray.size=1 then out.toArray[0]else .tuple out.toArray,?_,?_⟩
 ·rw[Ze7,Array.mapM_eq_mapM_toList,jy];have k:∀(z:Sem (List Value)),z.run P w=.ok out w->(Functor.map List.toArray z).run P w=.ok out.toArray w:=fun z hz=>by
   rw[<-LawfulMonad.bind_pure_comp,jy,hz];rfl
  rw[k _ j];rfl
 ·have f:=ZP a
  match vs,out,a,f with
  | [],[],_,_=>exact YM.2 ⟨[],by simp,Zm.2 rfl⟩
  | [d],[v],a,_ =>
   obtain⟨v',vs',e,l,_⟩:=Zb.1 a;cases e;simpa[Z6G]using l
  | d::e::ds,u::v::out,a,_ =>
   refine YM.2 ⟨u::v::out,by simp,a⟩
theorem HR.unmark {d:Nat} (hh:HR E w0 G0 (YQ [d] D) w β G h) (m:D d=none):HR E w0 G0 D (w.putObj d (.deferred none)) β G h:=by
 obtain⟨k1,k2,_⟩:=hh.marks d mkD (by simp[YQ])
 have f:∀i o b,h i=some o->Yu β i o b->b≠d:=fun i o b hi l e=>(Z4k (hh.own i o b hi l).2.2).1 (by simp[e])
 refine⟨hh.below.trans ⟨rfl,rfl,rfl,by simp,fun k p=>World.putObj_heap_other (by omega)⟩,hh.g0,fun c off v n=>?_,fun i x hi=>?_,fun i x c hi hc=>?_,hh.inj,fun e x j=>?_,hh.inv0⟩
 ·have hc:=hh.agree c off v n
  by_cases e:c=d
  ·subst e;unfold World.cell? at hc;rw[k2]at hc;cases hc
  ·exact(World.cell?_of_block (w:=w) (w':=w.putObj d (.deferred none)) (a:=⟨c,off,none⟩) (World.putObj_heap_other e)).trans hc
 ·exact Z2p.keep (Ext.refl _ _) (fun _=>rfl) (fun c hc=>⟨World.putObj_heap_other (f i x c hi hc),fun _=>rfl⟩) (hh.obj i x hi)
 ·obtain⟨m1,m2,m3⟩:=hh.own i x c hi hc;exact⟨m1,by simpa using m2,(Z4k m3).2⟩
 ·have g:e≠d:=fun q=>by rw[q,m]at j;cases j
  obtain⟨m1,m2,m3⟩:=hh.marks e x (by unfold YQ;rw[if_neg (by simpa using g)];exact j)
  exact⟨m1,(World.putObj_heap_other g).trans m2,m3⟩
theorem HR.lessD {D':DD} (hh:HR E w0 G0 D w β G h) (e:∀d x,D' d=some x->D d=some x):HR E w0 G0 D' w β G h :=
 ⟨hh.below,hh.g0,hh.agree,hh.obj,fun i o b hi c=>⟨(hh.own i o b hi c).1,(hh.own i o b hi c).2.1,by
  cases a:D' b with
  | none=>rfl
  | some x=>have:=e b x a;rw[(hh.own i o b hi c).2.2]at this;cases this⟩,hh.inj,fun d x a=>hh.marks d x (e d x a),hh.inv0⟩
theorem Zbc (f:∀g,E.dfr g=true->ZfZ P g) {fn:Func} {tm:Array Value} {R:Ending->World->Prop} (j:∀w,HR E w0 G0 outer w β G h->∃v,(results fn tm).run P w=.ok v w/\R (.returned v) w) {own:List Nat} {ds:List Deferred} (i:Z87 E own ds) :
  ∀(w:World),ZaO own outer->HR E w0 G0 (YQ own outer) w β G h->LeavesInM Fence.wide n P fn tm R ds .returning w:=by
 induction i with
 | nil=>exact fun w _ hh=>j w (by rw[Z7q]at hh;exact hh)
 | @mark own ds d _ ih =>
  intro w a hh;have c:=List.nodup_cons.1 a.1;refine⟨by simp,.inl ⟨d,w.putObj d (.deferred none),rfl,run_takeDeferred (hh.marks d mkD Ze2).2.1,?_⟩⟩
  rw[Z5F]at hh;exact ih _ ⟨c.2,fun b k=>a.2 b (by simp[k])⟩ (hh.unmark (by unfold YQ;rw[if_neg c.1];exact a.2 d (by simp)))
 | @fn own ds g cap hg _ ih =>
  intro w a hh;obtain⟨k1,k2⟩:=f g hg (n-1) cap w;refine⟨by simp,.inr ⟨by simp[Fence.wide],.func g,cap,g,cap,rfl,k1,fun _ _=>trivial,CallsDIn.mono k2 fun e u' w' l=>?_⟩⟩
  obtain⟨⟨v,rfl⟩,rfl,rfl⟩:=l;exact ih w' a hh
theorem Z4I {V:Nat}:∀(vs:List DV) (k:Nat) (b:Tr DV) (t:Nat) (d:DV),(Z2d V k vs b).get t=some d->(k<=t/\vs[t-k]? = some d/\Nat.testBit V t=true)\/b.get t=some d
 | [],_,_,_,_,h=>.inr h
 | v::vs,k,b,t,d,h=>by
  simp only[Z2d]at h;rcases Z4I vs (k+1) _ t d h with⟨a,c,f⟩|a
  ·exact .inl ⟨by omega,by rw[show t-k=(t-(k+1))+1 by omega];simpa using c,f⟩
  ·cases hv:Nat.testBit V k with
   | false=>rw[hv]at a;exact .inr a
   | true =>
    rw[hv]at a;simp only[jB,Tr.get_set]at a
    by_cases e:t=k
    ·rw[if_pos e]at a;subst e;exact .inl ⟨Nat.le_refl _,by simpa using a,hv⟩
    ·rw[if_neg e]at a;exact .inr a
theorem Z4A {V nt:Nat}:∀(ps:List Nat) (vs:List DV) (b b':Tr DV) (us:List Value) (tm:Array Value),YW V nt ps vs b=some b'->Zi β G vs us->FrM β G b.get tm->tm.size=nt->(∀t d,b.get t=some d->Nat.testBit V t=true) →
  ps.length=us.length/\FrM β G b'.get ((ps.zip us).foldl (fun tmps (t,a)=>tmps.setIfInBounds t a) tm)/\((ps.zip us).foldl (fun tmps (t,a)=>tmps.setIfInBounds t a) tm).size=nt/\∀t d,b'.get t=some d->Nat.testBit V t=true
 | [],[],b,b',us,tm,h,hr,hf,hs,hd=>by
  simp only[YW,jh]at h;subst h;rw[Zm]at hr;subst hr;exact⟨rfl,hf,hs,hd⟩
 | p::ps,v::vs,b,b',us,tm,h,hr,hf,hs,hd=>by
  simp only[YW]at h;obtain⟨c,h⟩:=Z3 h;rw[Tr.blt_dec]at c;have c:p<nt:=by simpa using c
  obtain⟨u,us',rfl,k,l⟩:=Zb.1 hr;have f:FrM β G (bif Nat.testBit V p then b.set p (some v)else b).get (tm.setIfInBounds p u)/\∀t d,(bif Nat.testBit V p then b.set p (some v)else b).get t=some d->Nat.testBit V t=true:=by
   cases hv:Nat.testBit V p with
   | true =>
    simp only[jB];refine⟨fun t d ht=>?_,fun t d ht=>?_⟩
    ·rw[Tr.get_set]at ht
     by_cases e:t=p
     ·rw[if_pos e]at ht;cases ht;exact⟨u,by rw[e,Array.getElem?_setIfInBounds_self_of_lt (by omega)],k⟩
     ·rw[if_neg e]at ht;obtain⟨x,i,j⟩:=hf t d ht;exact⟨x,by rw[Array.getElem?_setIfInBounds_ne (fun q=>e q.symm)];exact i,j⟩
    ·rw[Tr.get_set]at ht
     by_cases e:t=p
     ·rw[e];exact hv
     ·rw[if_neg e]at ht;exact hd t d ht
   | false =>
    simp only[jA];refine⟨fun t d ht=>?_,hd⟩;have g:p≠t:=fun e=>by have:=hd t d ht;rw[<-e,hv]at this;cases this
    obtain⟨x,i,j⟩:=hf t d ht;exact⟨x,by rw[Array.getElem?_setIfInBounds_ne g];exact i,j⟩
  obtain⟨k1,k2,k3,k4⟩:=Z4A ps vs _ b' us' (tm.setIfInBounds p u) h l f.1 (by simpa using hs) f.2
  exact⟨by simp[k1],k2,k3,k4⟩
 | [],_::_,_,_,_,_,h,_,_,_,_=>by cases h
 | _::_,[],_,_,_,_,h,_,_,_,_=>by cases h
end
end Go.Ab
namespace Go.Ab
open Go.RowKit
section
variable {P:Program} {E:Env}
structure Z7H (P:Program) (E:Env):Prop where
 fn:∀f F,E.fn f=some F->Zs P f F
 leaf:∀g L as d,E.leaf g=some L->L as=some d->Z1j P g/\∀(w:World) (β:Bi) (G:Gh) (vs:Array Value),E.inv w->(∀b o v,G b o=some v->w.cell? ⟨b,o,none⟩=some v)->Zi β G as vs.toList->Zc as=true →
  Calls P g vs w fun e w'=>∃v G',e=.returned v/\Below w.heap.size w w'/\(∀b,b<w.heap.size->G' b=G b)/\(∀b o v,G' b o=some v->w'.cell? ⟨b,o,none⟩=some v)/\Rep β G' d v
 dfr:∀g,E.dfr g=true->ZfZ P g
 cc:∀g t,E.cc g=some t->Z1j P g/\∀(w:World) (b:Nat) (p v:Value),w.heap[b]? = some (.cells #[p,v] t (0,0))->(p=.pointer none\/p=.pointer (some ⟨b,0,none⟩)) →
  Calls P g #[.pointer (some ⟨b,0,none⟩)] w fun e w'=>e=.returned (.tuple #[])/\Below 0 w w'/\w'.heap.size=w.heap.size/\(∀k,k≠b->w'.heap[k]? = w.heap[k]?)/\w'.heap[b]? = some (.cells #[.pointer (some ⟨b,0,none⟩),v] t (0,0))
def Zim (E:Env) (n:Nat) (g:Nat) (as:List DV):Option DV:=(evX E n false g as .leaf 0).bind fun x=>frz x.2.1.get x.1
def ZeV (callH:Yi) (g:Nat) (as:List DV):Option DV:=(callH g as .leaf 0).bind fun x=>frz x.2.1.get x.1
theorem ZgL {callH:Yi} (l:YX P E callH):Z37 P E (ZeV callH):=fun g as d j=>by
 unfold ZeV at j;obtain⟨⟨r,objs',nx'⟩,k,n⟩:=Z0 j;obtain⟨b,hcs⟩:=l _ _ _ _ _ _ _ k;refine⟨b,fun w β G vs hiv hag hrep hid=>?_⟩;have hh:HR E w G (fun _=>none) w ⟨fun _=>none,fun _ _=>none⟩ G (Tr.leaf:Tr Zd).get :=
  ⟨Below.refl _ _,fun _ _=>rfl,hag,fun _ _ h=>(by cases h),fun _ _ _ h=>(by cases h),fun _ _ _ _ _ h=>(by cases h),fun _ _ h=>(by cases h),hiv⟩
 refine Calls.mono (hcs w G (fun _=>none) w _ G vs hh (fun _ _=>⟨rfl,fun _=>rfl,rfl⟩) (Zi.free as _ hid hrep)) fun e w' m=>?_;obtain⟨v,β',G',rfl,_,_,i,_,hr⟩:=m;obtain⟨G2,c,a,f⟩:=Z1L i (Zj r);obtain⟨k1,k2⟩:=Z5g c (Z2a _ _) n f hr;exact⟨v,G2,rfl,a.below,a.g0,a.agree,k2,Rep.free d v k2 k1⟩
theorem Z4j {n:Nat} (a:YX P E (evX E n false)):Z37 P E (Zim E n):=ZgL a
theorem ZfK (hE:∀t ti,E.ty t=some ti->ZW P t ti) (k:Z7H P E) (j:P.follows .mixedOrders=true) {n:Nat} {call:Nat->List DV->Option DV} {callH callY:Yi} (hp:Z37 P E call) (hH:YX P E callH) (hY:Z1f P E callY):YX P E (Z9s E call callH callY n) :=
 fun g as objs nx r objs' nx' a=>by
  unfold Z9s at a;obtain⟨F,hF,a⟩:=Z0 a;obtain⟨z,a⟩:=Z3 a;obtain⟨⟨ex,s'⟩,hc,a⟩:=Z0 a;obtain⟨⟨fn,u,x,m,a0⟩,h⟩:=k.fn g F hF;refine⟨h,fun w0 G0 D w β G vs hh hfr hrep=>?_⟩;have hlen:as.length<=F.nt:=je z;have o:=ZP hrep;have hvs:vs.size=as.length:=by simpa using o
  have f:∃rs,Z4o E s'.base.get s'.objs.get F.nres=some rs/\r=Z6G rs/\objs'=s'.objs/\nx'=s'.next/\(ex=.normal\/ex=.ret):=by
   cases ex with
   | normal=>obtain⟨rs,e,c⟩:=Z0 a;cases c;exact⟨rs,e,rfl,rfl,rfl,.inl rfl⟩
   | ret=>obtain⟨rs,e,c⟩:=Z0 a;cases c;exact⟨rs,e,rfl,rfl,rfl,.inr rfl⟩
   | exit i=>cases a
   | busy=>cases a
  obtain⟨rs,p,rfl,rfl,rfl,q⟩:=f;refine(callsIn_wide (n:=0)).1 (callsIn_of_wp_marks u x trivial ?_);rw[m];have hm:SS E w0 G0 D F.vmask F.nt [] ⟨Z2d F.vmask 0 as .leaf,objs,nx⟩ { tmps:=vs++Array.replicate (F.nt-vs.size) undef,defers:=[] } w β G:=by
   refine⟨fun t d ht=>?_,fun t d ht=>?_,?_,by rw[Z7q];exact hh,hfr,Z87.nil,List.nodup_nil,by simp⟩
   ·rcases Z4I as 0 .leaf t d ht with⟨_,c,_⟩|e
    ·obtain⟨v,l,s⟩:=Z3T hrep (i:=t) (d:=d) (by simpa using c)
     refine⟨v,?_,s⟩;have h5:vs[t]? = some v:=by simpa using l
     have y:t<vs.size:=(ja.1 h5).1;show(vs++Array.replicate (F.nt-vs.size) undef)[t]? = some v;rw[Array.getElem?_append_left y];exact h5
    ·cases e
   ·rcases Z4I as 0 .leaf t d ht with⟨_,_,l⟩|e
    ·exact l
    ·cases e
   ·show(vs++Array.replicate (F.nt-vs.size) undef).size=F.nt;simp;omega
  have b:∀own' a' w' β' G',nx<=s'.next->SS E w0 G0 D F.vmask F.nt own' s' a' w' β' G'->Go2 nx β G β' G' objs.get s'.objs.get →
    LeavesInM Fence.wide 0 P fn a'.tmps (Z1o E w0 G0 D β G objs nx (Z6G rs) s'.objs s'.next) a'.defers .returning w':=fun own' a' w' β' G' k1 k2 k3=>by
   refine Zbc k.dfr (fun w2 c=>?_) k2.df.1 w' k2.df.2 k2.hr;obtain⟨v,l,s⟩:=Z9Z hE k2.fr c a0 p;exact⟨v,l,v,β',G',rfl,k1,k3,c,k2.fresh,s⟩
  refine Z79 (ro:=none) (rnd:=none) hE j hp hH hY hF n F.body 0 _ ex s' hc [] _ w β G _ rfl hm fun own' a' w' β' G' k1 k2 k3=>?_;rcases q with rfl|rfl
  ·exact b own' a' w' β' G' k1 k2 k3
  ·exact b own' a' w' β' G' k1 k2 k3
theorem Zfx (h:Z7H P E) {g:Nat} {L:List DV->Option DV} (hL:E.leaf g=some L) {as:List DV} {o:Tr Zd} {nx:Nat} {r:DV} {o':Tr Zd} {nx':Nat}
  (a:(bif Zc as then(L as).bind fun r=>bif Zh r then some (r,o,nx)else none else none)=some (r,o',nx')):Z1j P g ∧
   ∀(w0:World) (G0:Gh) (D:DD) (w:World) (β:Bi) (G:Gh) (vs:Array Value),HR E w0 G0 D w β G o.get->(∀id,nx<=id->ZR β o.get id)->Zi β G as vs.toList →
    Calls P g vs w (Z1o E w0 G0 D β G o nx r o' nx'):=by
 obtain⟨f,a⟩:=Z3 a;obtain⟨d,j,a⟩:=Z0 a;obtain⟨_,a⟩:=Z3 a;cases a;obtain⟨b,hc⟩:=h.leaf g L as r hL j;refine⟨b,fun w0 G0 D w β G vs hh hfr hrep=>Calls.mono (hc w β G vs hh.inv hh.agree hrep f) fun e w' k=>?_⟩;obtain⟨v,G',rfl,l,n,i,hr⟩:=k;obtain⟨c,m⟩:=hh.grow l n i;exact⟨v,β,G',rfl,Nat.le_refl _,⟨m,fun id _=>Z15.refl β o.get id⟩,c,hfr,hr⟩
theorem Zhg (hFn:Z7H P E) {g:Nat} {t:TypeId} (hc:E.cc g=some t) {as:List DV} {o:Tr Zd} {nx:Nat} {r:DV} {o':Tr Zd} {nx':Nat} (f:ccD t as o nx=some (r,o',nx')):Z1j P g ∧
   ∀(w0:World) (G0:Gh) (D:DD) (w:World) (β:Bi) (G:Gh) (vs:Array Value),HR E w0 G0 D w β G o.get->(∀id,nx<=id->ZR β o.get id)->Zi β G as vs.toList →
    Calls P g vs w (Z1o E w0 G0 D β G o nx r o' nx'):=by
 obtain⟨z,hcs⟩:=hFn.cc g t hc;refine⟨z,fun w0 G0 D w β G vs hh hfr hrep=>?_⟩;unfold ccD at f;split at f
 ·rename_i id;split at f
  ·rename_i t' c0 c1 n;obtain⟨hq,f⟩:=Z3 f;cases f;simp only[jn]at hq;obtain⟨q1,q2⟩:=hq;obtain rfl:=jf q1;obtain⟨b,cs,k1,k2,k3,k4,k5⟩:=hh.obj id _ n;obtain⟨u,us,hvs,hu,a2⟩:=Zb.1 hrep;rw[Zm]at a2;subst a2;obtain⟨b',s,rfl⟩:=Z1x.1 hu;rw[k1]at s;cases s;obtain⟨p,ps,y,hp,hps⟩:=Zb.1 k3;obtain⟨q,qs,rfl,hq1,a1⟩:=Zb.1 hps;rw[Zm]at a1;subst a1;have l:w.heap[b]? = some (.cells #[p,q] t' (0,0)):=by
    rw[k2];congr 2;exact Z1k y
   have hpp:p=.pointer none\/p=.pointer (some ⟨b,0,none⟩):=by
    split at q2
    ·exact .inl (Z6M.1 hp)
    ·rename_i j;obtain rfl:=jf q2;obtain⟨b2,h2,rfl⟩:=Z1x.1 hp;rw[k1]at h2;cases h2;exact .inr rfl
    ·cases q2
   have a3:vs = #[.pointer (some ⟨b,0,none⟩)]:=Z1k hvs;subst a3;refine Calls.mono (hcs w b p q l hpp) fun e w' he=>?_;obtain⟨rfl,hb,hsz,d,a4⟩:=he;obtain⟨m1,m2,m3⟩:=hh.own id _ b n k1;have hG:∀off,G b off=none:=k5;have hc1:ZH c1=true:=by
    have:=k4;simp only[jt,jn]at this;exact this.2.1
   have hmv:HR E w0 G0 D w' β G (ZJ o.get [(id,some (.cells t' [.ptr id 0,c1]))]) :=
    hh.move (fun k=>k=b) id (.cells t' [.ptr id 0,c1]) (Ext.refl β G) (hh.below.trans ⟨hb.os,hb.tape,hb.output,hb.size,fun k a=>d k (by omega)⟩)
     (fun k a _=>d k a) (fun _ _=>rfl) (by omega) (fun k a=>by subst a;exact⟨m1,m3⟩) (fun k i x a hx a0=>by subst a;exact hh.inj i id x _ k hx n a0 k1)
     (fun k a off v hv=>by subst a;rw[hG off]at hv;cases hv)
     ⟨b,#[.pointer (some ⟨b,0,none⟩),q],k1,a4,Zb.2 ⟨_,_,rfl,Z1x.2 ⟨b,k1,rfl⟩,Zb.2 ⟨_,_,rfl,hq1,Zm.2 rfl⟩⟩,by simp only[jt,hc1,List.all_nil];rfl,hG⟩
     (fun k a=>.inr ⟨_,n,a⟩) (fun k a=>by have:β.blk id=some k:=a;rw[k1]at this;cases this;omega) (fun _ _=>⟨rfl,fun _=>rfl⟩)
   have c:∀i,(o.set id (some (.cells t' [.ptr id 0,c1]))).get i=ZJ o.get [(id,some (.cells t' [.ptr id 0,c1]))] i:=fun i=>by
    rw[Tr.get_set,ZU]
   refine⟨.tuple #[],β,G,rfl,Nat.le_refl _,⟨Ext.refl β G,fun i _ hi=>?_⟩,hmv.eq c,fun i hi=>?_,YM.2 ⟨[],rfl,Zm.2 rfl⟩⟩
   ·have m:i≠id:=fun q=>by rw[q,n]at hi;cases hi
    exact⟨by rw[c,ZU,if_neg m];exact hi,rfl,fun _=>rfl⟩
   ·have hf:=hfr i hi;have m:i≠id:=fun q=>by have:=hf.h;rw[q,n]at this;cases this
    exact⟨hf.blk,hf.hdr,by rw[c,ZU,if_neg m];exact hf.h⟩
  ·cases f
 ·cases f
theorem ZfS (b:Z7H P E) {run:Yi} (hr:YX P E run):YX P E (fun g as o nx=>Z6X E g run g as o nx):=fun g as o nx r o' nx' a=>by
 simp only[Z6X]at a;cases hL:E.leaf g with
 | some L=>rw[hL]at a;exact Zfx b hL a
 | none =>
  rw[hL]at a;cases hc:E.cc g with
  | some t=>rw[hc]at a;exact Zhg b hc a
  | none=>rw[hc]at a;exact hr g as o nx r o' nx' a
theorem Zgl (hE:∀t ti,E.ty t=some ti->ZW P t ti) (a:Z7H P E) (b:P.follows .mixedOrders=true) {n:Nat} (c:YX P E (evX E n false)) (d:Z1f P E (evX E n true)):YX P E (evX E (n+1) false) :=
 ZfS a (Zfj (ZfK (n:=n) hE a b (Z4j c) c d))
def ZfL (E:Env) (call:Nat->List DV->Option DV) (callH callY:Yi) (n:Nat):Yi:=fun l args objs next=>(match objs.get l with
  | some (.loop fid base ps assign body bid .normal)=>(E.fn fid).bind fun F=>(YW F.vmask F.nt ps args base).bind fun b =>
    let run:=evC E (some l) fid F call callH callY n bid
    (run assign ⟨b,objs,next⟩).bind fun r=>(match r.1,r.2.objs.get l with
    | .normal,some (.loop fid2 base2 ps2 assign2 body2 bid2 .normal)=>(run body { r.2 with objs:=r.2.objs.set l (some (.loop fid2 base2 ps2 assign2 body2 bid2 .busy)) }).bind fun r=>(match r.1,r.2.objs.get l with
     | .busy,_=>none
     | ex,some (.loop fid3 base3 ps3 assign3 body3 bid3 .busy)=>some (.bool (match ex with | .normal=>true|_=>false),r.2.objs.set l (some (.loop fid3 base3 ps3 assign3 body3 bid3 ex)),r.2.next)
     | _,_=>none)
    | _,_=>none)
  | _=>none)
theorem Zea (hE:∀t ti,E.ty t=some ti->ZW P t ti) (u:P.follows .mixedOrders=true) {n:Nat} {call:Nat->List DV->Option DV} {callH callY:Yi} (hp:Z37 P E call) (hH:YX P E callH) (hY:Z1f P E callY):Z1f P E (ZfL E call callH callY n) :=
 fun l as objs nx r objs' nx' c w0 G0 D w β G vs b hb hh hfr hrep=>by
  unfold ZfL at c;split at c
  ·rename_i fid base ps assign body bid hob;obtain⟨F,hF,c⟩:=Z0 c;obtain⟨b1,a0,c⟩:=Z0 c;obtain⟨⟨ex1,s1⟩,hc1,c⟩:=Z0 c;obtain⟨b',tm,df,fn,F',k1,k2,k3,k4,k5,k6⟩:=hh.obj l _ hob;rw[hb]at k1;cases k1;rw[hF]at k4;cases k4;obtain⟨m1,m2,m3,m4⟩:=Z4A ps as base b1 vs.toList tm a0 hrep k3 k5 k6;have hsz:vs.size=ps.toArray.size:=by simpa using m1.symm
   have y:(ps.toArray.zip vs).foldl (fun tmps (t,a)=>tmps.setIfInBounds t a) tm=(ps.zip vs.toList).foldl (fun tmps (t,a)=>tmps.setIfInBounds t a) tm:=by
    rw[<-Array.foldl_toList];simp
   refine⟨fn,_,assign,body,run_yield k2 hsz,fun n=>?_⟩;refine roundIn_of_wpIn trivial ?_;simp only;rw[y];have hm:SS E w0 G0 D F.vmask F.nt [] ⟨b1,objs,nx⟩ { tmps:=(ps.zip vs.toList).foldl (fun tmps (t,a)=>tmps.setIfInBounds t a) tm,defers:=[] } w β G :=
    ⟨m2,m4,m3,by rw[Z7q];exact hh,hfr,Z87.nil,List.nodup_nil,by simp⟩
   refine Z79 (ro:=some b) (rnd:=some l) hE u hp hH hY hF _ assign bid _ ex1 s1 hc1 [] _ w β G _ ⟨b,rfl,hb⟩ hm fun own1 a1 w1 β1 G1 q1 q2 q3=>?_;split at c
   ·rename_i fid2 bs2 ps2 as2 bo2 bid2 o f;replace o:ex1=.normal:=o;replace f:s1.objs.get l=some (.loop fid2 bs2 ps2 as2 bo2 bid2 .normal):=f;subst o;obtain⟨⟨ex2,s2⟩,hc2,c⟩:=Z0 c;have j:β1.blk l=some b:=q3.ext.blk _ _ hb;obtain⟨b'',tm2,df2,fn2,F2,j1,j2,j3⟩:=q2.hr.obj l _ f;rw[j]at j1;cases j1;have q:∀id,Z15 β1 β1 s1.objs.get (s1.objs.set l (some (.loop fid2 bs2 ps2 as2 bo2 bid2 .busy))).get id:=fun id hf=>⟨by
     rw[Tr.get_set]
     by_cases e:id=l
     ·subst e;rw[hf]at f;cases f
     ·rw[if_neg e];exact hf,rfl,fun _=>rfl⟩
    have hh2:HR E w0 G0 (YQ own1 D) (w1.putObj b (.loop { state:=.busy,pending:=YU .normal,fn:=fn2,tmps:=tm2,params:=ps2.toArray,assign:=as2,body:=bo2,defers:=df2 })) β1 G1 (s1.objs.set l (some (.loop fid2 bs2 ps2 as2 bo2 bid2 .busy))).get:=by
     refine(Z5b (o':=.loop fid2 bs2 ps2 as2 bo2 bid2 .busy) (ob':=.loop { state:=.busy,pending:=YU .normal,fn:=fn2,tmps:=tm2,params:=ps2.toArray,assign:=as2,body:=bo2,defers:=df2 }) q2.hr f j j2 (by simp) (fun x z=>?_) ?_).eq fun i=>by rw[Tr.get_set,ZU]
     ·simp only[Yu]at z;rw[j]at z;cases z;rfl
     ·exact⟨b,tm2,df2,fn2,F2,j,by rw[World.putObj_heap_same (ja.1 j2).1];simp[YU],j3⟩
    refine⟨_,run_beginRound j2 rfl,?_⟩;refine Z79 (ro:=some b) (rnd:=some l) hE u hp hH hY hF _ body bid { s1 with objs:=s1.objs.set l (some (.loop fid2 bs2 ps2 as2 bo2 bid2 .busy)) } ex2 s2 hc2 own1 a1 _ β1 G1 _ ⟨b,rfl,j⟩
     ⟨q2.fr,q2.dom,q2.sz,hh2,fun id m=>(q id).fresh (q2.fresh id m),q2.df⟩ fun own3 a3 w3 β3 G3 p1 p2 p3=>?_
    have hfin:ex2≠.busy/\∃fid3 bs3 ps3 as3 bo3 bid3,s2.objs.get l=some (.loop fid3 bs3 ps3 as3 bo3 bid3 .busy)/\r=.bool (YU ex2).isNone/\objs'=s2.objs.set l (some (.loop fid3 bs3 ps3 as3 bo3 bid3 ex2))/\nx'=s2.next:=by
     split at c
     ·cases c
     ·rename_i a2 hne;cases c;have v:ex2≠.busy:=fun e=>hne e;refine⟨v,_,_,_,_,_,_,a2,?_,rfl,rfl⟩;clear hc2 a2;cases ex2<;>first|rfl|exact absurd rfl v
     ·cases c
    obtain⟨hnb,fid3,bs3,ps3,as3,bo3,bid3,h,rfl,rfl,rfl⟩:=hfin;have p:β3.blk l=some b:=p3.ext.blk _ _ j;obtain⟨b4,tm3,df3,fn3,F3,i1,i2,i3⟩:=p2.hr.obj l _ h;rw[p]at i1;cases i1;have k:=run_endRound (P:=P) (YU ex2) i2;have hh4:HR E w0 G0 (YQ own3 D) (w3.putObj b (.loop { state:=(if(YU ex2).isNone then .ready else .done),pending:=YU ex2,fn:=fn3,tmps:=tm3,params:=ps3.toArray,assign:=as3,body:=bo3,defers:=df3 })) β3 G3 (s2.objs.set l (some (.loop fid3 bs3 ps3 as3 bo3 bid3 ex2))).get:=by
     refine(Z5b (o':=.loop fid3 bs3 ps3 as3 bo3 bid3 ex2) (ob':=.loop { state:=(if(YU ex2).isNone then .ready else .done),pending:=YU ex2,fn:=fn3,tmps:=tm3,params:=ps3.toArray,assign:=as3,body:=bo3,defers:=df3 }) p2.hr h p i2 (by simp) (fun x z=>?_) ?_).eq fun i=>by rw[Tr.get_set,ZU]
     ·simp only[Yu]at z;rw[p]at z;cases z;rfl
     ·refine⟨b,tm3,df3,fn3,F3,p,?_,i3⟩;rw[World.putObj_heap_same (ja.1 i2).1];cases ex2<;>simp[YU]at hnb⊢
    have s:∀id,Z15 β3 β3 s2.objs.get (s2.objs.set l (some (.loop fid3 bs3 ps3 as3 bo3 bid3 ex2))).get id:=fun id hf=>⟨by
     rw[Tr.get_set]
     by_cases e:id=l
     ·subst e;rw[hf]at h;cases h
     ·rw[if_neg e];exact hf,rfl,fun _=>rfl⟩
    have g:Z1o E w0 G0 D β G objs nx (.bool (YU ex2).isNone) (s2.objs.set l (some (.loop fid3 bs3 ps3 as3 bo3 bid3 ex2))) s2.next (.returned (.bool (YU ex2).isNone)) (w3.putObj b (.loop { state:=(if(YU ex2).isNone then .ready else .done),pending:=YU ex2,fn:=fn3,tmps:=tm3,params:=ps3.toArray,assign:=as3,body:=bo3,defers:=df3 })):=by
     refine⟨_,β3,G3,rfl,Nat.le_trans q1 p1,q3.trans ⟨p3.ext,fun id m=>((q id).trans (p3.keep id (Nat.lt_of_lt_of_le m q1))).trans (s id)⟩,hh4.lessD (fun d x c=>?_),fun id m=>(s id).fresh (p2.fresh id m),ZL.2 ?_⟩
     ·unfold YQ;rw[if_neg (fun hm=>by rw[p2.df.2.2 d hm]at c;cases c)]
      exact c
     rfl
    cases ex2 with
    | normal=>exact⟨_,_,k,g⟩
    | exit i=>exact⟨_,_,k,g⟩
    | ret=>exact⟨_,_,k,g⟩
    | busy=>exact absurd rfl hnb
   ·cases c
  ·cases c
theorem Zfs (hE:∀t ti,E.ty t=some ti->ZW P t ti) (a:P.follows .mixedOrders=true) {n:Nat} (b:YX P E (evX E n false)) (c:Z1f P E (evX E n true)):Z1f P E (evX E (n+1) true) :=
 Zea (n:=n) hE a (Z4j b) b c
def Zb1 (E:Env) (call:Nat->List DV->Option DV):Nat->Bool->Yi
 | 0,_=>fun _ _ _ _=>none
 | n+1,false=>fun g as o nx=>Z6X E g (Z48 E (Z9s E call (Zb1 E call n false) (Zb1 E call n true) n)) g as o nx
 | n+1,true=>ZfL E call (Zb1 E call n false) (Zb1 E call n true) n
theorem Zab (hE:∀t ti,E.ty t=some ti->ZW P t ti) (b:Z7H P E) (a:P.follows .mixedOrders=true):∀n,YX P E (evX E n false)/\Z1f P E (evX E n true)
 | 0=>⟨fun _ _ _ _ _ _ _ h=>by simp[evX]at h,fun _ _ _ _ _ _ _ h=>by simp[evX]at h⟩
 | n+1 =>
  have ih:=Zab hE b a n
  ⟨Zgl hE b a ih.1 ih.2,Zfs hE a ih.1 ih.2⟩
theorem Zix (hE:∀t ti,E.ty t=some ti->ZW P t ti) (h:Z7H P E) (c:P.follows .mixedOrders=true) {n f:Nat} {as:List DV} {d:DV} (k:evF E n f as=some d)
  {w:World} {β:Bi} {G:Gh} {vs:Array Value} (g:E.inv w) (j:∀b o v,G b o=some v->w.cell? ⟨b,o,none⟩=some v) (a:Zi β G as vs.toList) (i:Zc as=true) :
  Calls P f vs w fun e w'=>∃v G',e=.returned v/\Below w.heap.size w w'/\(∀b,b<w.heap.size->G' b=G b)/\(∀b o v,G' b o=some v->w'.cell? ⟨b,o,none⟩=some v)/\Zh d=true/\Rep β G' d v :=
 ((Z4j (Zab hE h c n).1) f as d k).2 w β G vs g j a i
mutual
def Z2S:DV->DV->Bool
 | .bool a,.bool b=>a==b
 | .int k a,.int k' b=>k==k'&&a==b
 | .str a,.str b=>a.data.toList==b.data.toList
 | .nils,.nils=>true
 | .nilp,.nilp=>true
 | .sl a,.sl b=>Zc4 a b
 | .agg a,.agg b=>Z7L a b
 | _,_=>false
def Z7L:List DV->List DV->Bool
 | [],[]=>true
 | a::as,b::bs=>Z2S a b&&Z7L as bs
 | _,_=>false
def Zc4:List (List DV)->List (List DV)->Bool
 | [],[]=>true
 | a::as,b::bs=>Z7L a b&&Zc4 as bs
 | _,_=>false
end
mutual
theorem Zhl:∀(a b:DV),Z2S a b=true->a=b
 | .bool a,b,h=>by cases b<;>simp[Z2S]at h;rw[h]
 | .int k a,b,h=>by cases b<;>simp[Z2S]at h;rw[h.1,h.2]
 | .str a,b,h=>by
  cases b<;>simp[Z2S]at h;rename_i b;cases a;cases b;simp only at h;rw[h]
 | .nils,b,h=>by cases b<;>simp[Z2S]at h;rfl
 | .nilp,b,h=>by cases b<;>simp[Z2S]at h;rfl
 | .sl a,b,h=>by
  cases b<;>simp[Z2S]at h;rw[Zc5 _ _ h]
 | .agg a,b,h=>by
  cases b<;>simp[Z2S]at h;rw[Z6m _ _ h]
 | .ptr _ _,b,h=>by simp[Z2S]at h
 | .rptr _ _ _ _ _,b,h=>by simp[Z2S]at h
 | .pub _,b,h=>by simp[Z2S]at h
 | .rs _ _,b,h=>by simp[Z2S]at h
 | .rv _ _ _ _ _,b,h=>by simp[Z2S]at h
 | .slen _,b,h=>by simp[Z2S]at h
 | .tup _,b,h=>by simp[Z2S]at h
 | .fn _ _ _,b,h=>by simp[Z2S]at h
 | .nilfn,b,h=>by simp[Z2S]at h
 | .map _,b,h=>by simp[Z2S]at h
 | .nilmap,b,h=>by simp[Z2S]at h
 | .iface _ _,b,h=>by simp[Z2S]at h
 | .nilif,b,h=>by simp[Z2S]at h
 | .iter _,b,h=>by simp[Z2S]at h
 | .yld _,b,h=>by simp[Z2S]at h
theorem Z6m:∀(a b:List DV),Z7L a b=true->a=b
 | [],b,h=>by cases b<;>simp[Z7L]at h;rfl
 | a::as,b,h=>by
  cases b<;>simp[Z7L]at h;rw[Zhl _ _ h.1,Z6m _ _ h.2]
theorem Zc5:∀(a b:List (List DV)),Zc4 a b=true->a=b
 | [],b,h=>by cases b<;>simp[Zc4]at h;rfl
 | a::as,b,h=>by
  cases b<;>simp[Zc4]at h;rw[Z6m _ _ h.1,Zc5 _ _ h.2]
end
def Zgz:List (Nat×List DV×DV)->Nat->List DV->Option DV
 | [],_,_=>none
 | (f,xs,d)::l,g,as=>bif Nat.beq f g&&Z7L xs as then some d else Zgz l g as
def Zh0 (E:Env) (l:List (Nat×List DV×DV)) (n:Nat) (g:Nat) (as:List DV):Option DV:=bif l.any fun e=>Nat.beq e.1 g then Zgz l g as else evF E n g as
def ZiQ (E:Env) (l:List (Nat×List DV×DV)) (n f:Nat) (as:List DV):Option DV:=ZeV (Zb1 E (Zh0 E l n) n false) f as
end
end Go.Ab
namespace Go.Ab
open Go.RowKit
mutual
def Z24 (P:Program):Nat->TypeId->List DV->Bool
 | 0,_,_=>false
 | d+1,t,zs=>(match P.underlying t,zs with
  | some .bool,[.bool _]=>true
  | some (.int k),[.int k' _]=>k==k'
  | some .string,[.str _]=>true
  | some (.struct fs),zs => !P.stoodInHeld t&&Z2f P d fs.toList 0 zs
  | some (.array n e),zs=>(match P.info? e with
   | some i=>Nat.beq zs.length (n*i.size)&&(List.range n).all fun j=>Z24 P d e ((zs.drop (j*i.size)).take i.size)
   | none=>false)
  | _,_=>false)
def Z2f (P:Program):Nat->List Field->Nat->List DV->Bool
 | _,[],off,zs=>Nat.ble zs.length off
 | 0,_::_,_,_=>false
 | d + 1, f :: fs, off, zs => f.name != "_" && Nat.beq f.offset off && (match P.info? f.type with
  | some i=>Nat.ble (off+i.size) zs.length&&Z24 P d f.type ((zs.drop off).take i.size)&&Z2f P d fs (off+i.size) zs
  | none=>false)
end
theorem Y5:∀{zs xs:List DV},Zg zs xs=true->xs.length=zs.length
 | [],[],_=>rfl
 | z::zs,x::xs,h=>by
  cases z<;>cases x<;>simp only[Zg,jg,jn]at h
  ·simp[Y5 h]
  ·simp[Y5 h.2]
  ·simp[Y5 h]
 | [],x::xs,h=>by simp[Zg]at h
 | z::zs,[],h=>by cases z<;>simp[Zg]at h
theorem Yo:∀(k:Nat) {zs xs:List DV},Zg zs xs=true->Zg (zs.take k) (xs.take k)=true/\Zg (zs.drop k) (xs.drop k)=true
 | 0,zs,xs,h=>⟨by simp[Zg],by simpa using h⟩
 | k+1,[],[],_=>⟨by simp[Zg],by simp[Zg]⟩
 | k+1,z::zs,x::xs,h=>by
  cases z<;>cases x<;>simp only[Zg,jg,jn]at h
  ·obtain⟨a,b⟩:=Yo k h;exact⟨by simpa[Zg]using a,by simpa using b⟩
  ·obtain⟨a,b⟩:=Yo k h.2;exact⟨by simpa[Zg]using ⟨by simpa using h.1,a⟩,by simpa using b⟩
  ·obtain⟨a,b⟩:=Yo k h;exact⟨by simpa[Zg]using a,by simpa using b⟩
 | k+1,[],x::xs,h=>by simp[Zg]at h
 | k+1,z::zs,[],h=>by cases z<;>simp[Zg]at h
def Z14 (P:Program) (t:TypeId) (vs:List Value):Value:=match P.underlying t with
 | some (.struct _)=>.agg vs.toArray
 | some (.array _ _)=>.agg vs.toArray
 | _=>vs.headD undef
section
variable {P:Program} {β:Bi} {G:Gh}
theorem Z1r:∀(k:Nat) {xs ys:List DV} {r:Bool},Zl xs ys=some r->∃r1 r2,Zl (xs.take k) (ys.take k)=some r1/\Zl (xs.drop k) (ys.drop k)=some r2/\r=(r1&&r2)
 | 0,xs,ys,r,h=>⟨true,r,by simp[Zl],by simpa using h,by simp⟩
 | k+1,[],[],r,h=>⟨true,true,by simp[Zl],by simp[Zl],by simpa[Zl]using h.symm⟩
 | k+1,x::xs,[],r,h=>by cases x<;>simp[Zl]at h
 | k+1,[],y::ys,r,h=>by cases y<;>simp[Zl]at h
 | k+1,x::xs,y::ys,r,h=>by
  cases x<;>cases y<;>simp only[Zl,reduceCtorEq]at h
  ·rename_i a b;obtain⟨q,c,d⟩:=Z0 h;cases d;obtain⟨r1,r2,k1,k2,rfl⟩:=Z1r k c;exact⟨(a==b&&r1),r2,by simp[Zl,k1],by simpa using k2,by rw[Bool.and_assoc]⟩
  ·rename_i ka a kb b;obtain⟨e,h⟩:=Z3 h;obtain⟨q,c,d⟩:=Z0 h;cases d;obtain⟨r1,r2,k1,k2,rfl⟩:=Z1r k c;exact⟨(a==b&&r1),r2,by simp[Zl,k1,e],by simpa using k2,by rw[Bool.and_assoc]⟩
  ·rename_i a b;obtain⟨q,c,d⟩:=Z0 h;cases d;obtain⟨r1,r2,k1,k2,rfl⟩:=Z1r k c;exact⟨(a==b&&r1),r2,by simp[Zl,k1],by simpa using k2,by rw[Bool.and_assoc]⟩
theorem Z4Z {d:Nat} {t:TypeId} {i:TypeInfo} (hi:P.info? t=some i) {zs:List DV} (c:zs.length=i.size) (a:Z24 P d t zs=true) {vs:List Value} {off:Nat} (m:off+i.size<=vs.length) (w:World) :
  (part t vs.toArray off).run P w=.ok (Z14 P t ((vs.drop off).take i.size)) w:=by
 cases d with
 | zero=>simp[Z24]at a
 | succ d =>
  have f:(sizeOf t).run P w=.ok i.size w:=by simp[sizeOf,typeInfo,hi]
  simp only[Z24]at a;have plain:∀dd,P.underlying t=some dd->(match dd with | .struct _ | .array _ _=>true|_=>false)=false->i.size=1->(part t vs.toArray off).run P w=.ok (Z14 P t ((vs.drop off).take i.size)) w:=fun dd h j l=>by
   have b:(isAgg t).run P w=.ok false w:=by
    unfold isAgg;rw[jy,ji h w];cases dd<;>first|rfl|(simp at j)
   have g:off<vs.length:=by omega
   have hv:Z14 P t ((vs.drop off).take i.size)=vs[off]:=by
    unfold Z14;rw[h,l,jb g];cases dd<;>first|rfl|(simp at j)
   unfold part;rw[jy,b,hv];simp[Result.andThen,g]
  cases hu:P.underlying t with
  | none=>rw[hu]at a;cases a
  | some dd =>
   rw[hu]at a;cases dd with
   | bool =>
    split at a<;>first|(rename_i e _;exact plain _ hu rfl (by rw[<-c];rfl))|cases a|simp_all
   | int k =>
    split at a<;>first|(rename_i e _;exact plain _ hu rfl (by rw[<-c];rfl))|cases a|simp_all
   | string =>
    split at a<;>first|(rename_i e _;exact plain _ hu rfl (by rw[<-c];rfl))|cases a|simp_all
   | struct fs =>
    have b:(isAgg t).run P w=.ok true w:=by unfold isAgg;rw[jy,ji hu w];rfl
    unfold part Z14;rw[jy,b,hu];simp[Result.andThen,f]
   | array n e =>
    have b:(isAgg t).run P w=.ok true w:=by unfold isAgg;rw[jy,ji hu w];rfl
    unfold part Z14;rw[jy,b,hu];simp[Result.andThen,f]
   | _=>simp at a
theorem ZeA:∀(fuel:Nat),
  (∀(t:TypeId) (zs:List DV),Z24 P fuel t zs=true->∀D,fuel<=D->∀(xs ys:List DV) (r:Bool) (vx vy:List Value) (w:World),Zl xs ys=some r->Zg zs xs=true->Zg zs ys=true->Zi β G xs vx->Zi β G ys vy →
   (Op.equalIn D t (Z14 P t vx) (Z14 P t vy)).run P w=.ok r w) ∧
  (∀(fs:List Field) (off:Nat) (zs:List DV),Z2f P fuel fs off zs=true->∀D,fuel<=D->∀(xs ys:List DV) (r:Bool) (vx vy:List Value) (w:World),Zl (xs.drop off) (ys.drop off)=some r->Zg zs xs=true->Zg zs ys=true->Zi β G xs vx->Zi β G ys vy →
   (Op.eqFields D vx.toArray vy.toArray fs).run P w=.ok r w)
 | 0=>by
  refine⟨fun t n h=>by simp[Z24]at h,fun fs off zs h D _ xs ys r vx vy w a g hy b d=>?_⟩
  cases fs with
  | cons f fs=>simp[Z2f]at h
  | nil =>
   simp only[Z2f]at h;have:=je h;rw[jd (by rw[Y5 g];exact this),jd (by rw[Y5 hy];exact this)]at a
   simp only[Zl,jh]at a;subst a;rfl
 | fuel+1=>by
  obtain⟨ih1,ih2⟩:=ZeA fuel;refine⟨fun t zs h D hD xs ys r vx vy w a g hy b d=>?_,fun fs off zs h D hD xs ys r vx vy w a g hy b d=>?_⟩
  ·obtain⟨D,rfl⟩:∃D',D=D'+1:=⟨D-1,by omega⟩
   simp only[Z24]at h;have one:∀{zs:List DV} {vz:List Value},zs.length=1->Zi β G zs vz->∃z v,zs=[z]/\vz=[v]/\Rep β G z v:=fun {zs vz} hz hr=>by
    obtain⟨z,rfl⟩:=List.length_eq_one_iff.1 hz;obtain⟨v,vs',rfl,q,o⟩:=Zb.1 hr;rw[Zm]at o;subst o;exact⟨z,v,rfl,rfl,q⟩
   split at h
   ·rename_i l;obtain⟨x,u,rfl,rfl,q⟩:=one (Y5 g) b;obtain⟨y,v,rfl,rfl,o⟩:=one (Y5 hy) d;have hv:∀v:Value,Z14 P t [v]=v:=fun v=>by unfold Z14;rw[l];rfl
    rw[hv,hv];cases x<;>simp only[Zg,jg]at g;cases y<;>simp only[Zg,jg]at hy;simp only[Zl,jm,Bool.and_true,jh]at a;rw[ZL]at q o;subst q o a;simp[Op.equalIn,ji l]
   ·rename_i l;obtain⟨x,u,rfl,rfl,q⟩:=one (Y5 g) b;obtain⟨y,v,rfl,rfl,o⟩:=one (Y5 hy) d;have hv:∀v:Value,Z14 P t [v]=v:=fun v=>by unfold Z14;rw[l];rfl
    rw[hv,hv];cases x<;>simp only[Zg,jg]at g;cases y<;>simp only[Zg,jg]at hy;simp only[Zl,jm,Bool.and_true]at a;obtain⟨hq,a⟩:=Z3 a;have hq:=eq_of_beq hq;simp only[jh]at a;rw[ZG]at q o;subst q o a hq;simp[Op.equalIn,ji l]
   ·rename_i l;obtain⟨x,u,rfl,rfl,q⟩:=one (Y5 g) b;obtain⟨y,v,rfl,rfl,o⟩:=one (Y5 hy) d;have hv:∀v:Value,Z14 P t [v]=v:=fun v=>by unfold Z14;rw[l];rfl
    rw[hv,hv];cases x<;>simp only[Zg,jg]at g;cases y<;>simp only[Zg,jg]at hy;simp only[Zl,jm,Bool.and_true,jh]at a;rw[Y9]at q o;subst q o a;simp[Op.equalIn,ji l]
   ·rename_i _ fs l;simp only[jn,Bool.not_eq_true']at h;have a2:P.fieldsOf t=fs:=by unfold Program.fieldsOf;rw[l]
    have hv:∀vs,Z14 P t vs=.agg vs.toArray:=fun vs=>by unfold Z14;rw[l]
    rw[hv,hv,run_equalIn_struct w D t _ _ (by rw[a2];exact l) h.1,a2]
    exact ih2 fs.toList 0 _ h.2 D (by omega) xs ys r vx vy w (by simpa using a) g hy b d
   ·rename_i m e l;split at h
    ·rename_i i hi;rw[jn]at h;obtain⟨s,a3⟩:=h;have s:=jf s;have hv:∀vs,Z14 P t vs=.agg vs.toArray:=fun vs=>by unfold Z14;rw[l]
     have a4:P.cellsOf e=i.size:=by simp[Program.cellsOf,hi]
     rw[hv,hv,run_equalIn_array (w:=w) D _ _ l hi,a4,List.range_eq_range'];have hkx:=Y5 g;have a7:=Y5 hy;have a8:=ZP b;have hly:=ZP d;have items:∀(c k:Nat) (r:Bool) (w:World),k+c=m->Zl (xs.drop (k*i.size)) (ys.drop (k*i.size))=some r->(Op.eqItems D e i.size vx.toArray vy.toArray (List.range' k c)).run P w=.ok r w:=by
      intro c
      induction c with
      | zero =>
       intro k r w hk a;have:k=m:=by omega
       subst this;rw[jd (by omega),jd (by omega)]at a
       simp only[Zl,jh]at a;subst a;rfl
      | succ c ihc =>
       intro k r w hk a;obtain⟨r1,r2,e1,e2,rfl⟩:=Z1r i.size a;have j:=(List.all_eq_true.1 a3) k (List.mem_range.2 (by omega))
       have hkm:k*i.size+i.size<=m*i.size:=by
        have:=Nat.mul_le_mul_right i.size (show k+1<=m by omega)
        rwa [Nat.add_mul,Nat.one_mul]at this
       have g1:=ih1 e _ j D (by omega) _ _ r1 _ _ w e1 (Yo i.size (Yo (k*i.size) g).2).1 (Yo i.size (Yo (k*i.size) hy).2).1 (YA i.size (Yz (k*i.size) b)) (YA i.size (Yz (k*i.size) d))
       rw[List.drop_drop,List.drop_drop,show k*i.size+i.size=(k+1)*i.size by rw[Nat.add_mul,Nat.one_mul]]at e2
       have g2:=ihc (k+1) r2 w (by omega) e2
       have p1:=Z4Z hi (by simp;omega) j (vs:=vx) (off:=k*i.size) (by omega) w
       have p2:=Z4Z hi (by simp;omega) j (vs:=vy) (off:=k*i.size) (by omega) w
       rw[List.range'_succ];simp only[Op.eqItems,jy,p1,p2,Result.andThen,g1];cases r1
       ·simp
       ·simpa using g2
     exact items m 0 r w (by omega) (by simpa using a)
    ·cases h
   ·cases h
  ·cases fs with
   | nil =>
    simp only[Z2f]at h;have:=je h;rw[jd (by rw[Y5 g];exact this),jd (by rw[Y5 hy];exact this)]at a
    simp only[Zl,jh]at a;subst a;rfl
   | cons f fs =>
    simp only[Z2f,jn,bne_iff_ne,ne_eq]at h;obtain⟨⟨a0,p⟩,h⟩:=h;have p:f.offset=off:=jf p;split at h
    ·rename_i i hi;rw[jn,jn]at h;obtain⟨⟨a5,j⟩,a6⟩:=h;have a5:=je a5;have a8:=ZP b;have hly:=ZP d;have hkx:=Y5 g;have a7:=Y5 hy;obtain⟨r1,r2,e1,e2,rfl⟩:=Z1r i.size a;have g1:=ih1 f.type _ j D (by omega) _ _ r1 _ _ w e1 (Yo i.size (Yo off g).2).1 (Yo i.size (Yo off hy).2).1 (YA i.size (Yz off b)) (YA i.size (Yz off d))
     rw[List.drop_drop,List.drop_drop]at e2;have g2:=ih2 fs (off+i.size) zs a6 D (by omega) xs ys r2 vx vy w e2 g hy b d
     have a1:((zs.drop off).take i.size).length=i.size:=by simp;omega
     have p1:=Z4Z hi a1 j (vs:=vx) (off:=off) (by omega) w
     have p2:=Z4Z hi a1 j (vs:=vy) (off:=off) (by omega) w
     simp only[Op.eqFields,if_pos a0,p,jy,p1,p2,Result.andThen,g1];cases r1
     ·simp
     ·simpa using g2
    ·cases h
def Zak (P:Program):Nat->TypeId->Bool
 | 0,_=>false
 | d+1,t=>match P.underlying t with
  | some .bool|some (.int _)|some .string=>true
  | some (.struct fs)=>fs.toList.all fun f=>Zak P d f.type
  | _=>false
theorem Zcx (b:Bool):∀(n:Nat) (t:TypeId),Zak P n t=true->∀(fuel:Nat) (zs:List DV),Z24 P fuel t zs=true->∀(d:Nat) (xs:List DV) (vx:List Value) (w:World),Zg zs xs=true->Zi β G xs vx →
  (Instr.checkKey b (d+n) t (Z14 P t vx)).run P w=.ok () w
 | 0,_,h=>by simp[Zak]at h
 | n+1,t,h=>fun fuel zs j d xs vx w o hr=>by
  cases fuel with
  | zero=>simp[Z24]at j
  | succ fuel =>
  unfold Zak at h;simp only[Z24]at j;rw[show d+(n+1)=(d+n)+1 from rfl];have one:∀{zs:List DV},zs.length=1->Zg zs xs=true->∃x v,xs=[x]/\vx=[v]/\Rep β G x v:=fun {zs} hz o=>by
   have s:=Y5 o;rw[hz]at s;obtain⟨x,rfl⟩:=List.length_eq_one_iff.1 s;obtain⟨v,vs',rfl,h1,u⟩:=Zb.1 hr;rw[Zm]at u;subst u;exact⟨x,v,rfl,rfl,h1⟩
  cases hu:P.underlying t with
  | none=>rw[hu]at h;cases h
  | some dd =>
   rw[hu]at h j;cases dd with
   | bool=>exact Z1C hu trivial _
   | int k=>exact Z1C hu trivial _
   | string=>exact Z1C hu trivial _
   | struct fs =>
    simp only[jn,Bool.not_eq_true',List.all_eq_true]at j h;have hv:Z14 P t vx=.agg vx.toArray:=by unfold Z14;rw[hu]
    rw[hv,Instr.checkKey];simp only[jy,run_underlying hu,Result.andThen_ok];rw[<-Array.forIn_toList];have main:∀(L:List Field) (fuel off:Nat),(∀f∈L,Zak P n f.type=true)->Z2f P fuel L off zs=true →
      (forIn L PUnit.unit (fun f (_ : PUnit) => (if f.name ≠ "_" then do
       Instr.checkKey b (d+n) f.type (<-part f.type vx.toArray f.offset)
       pure (ForInStep.yield PUnit.unit)else pure (ForInStep.yield PUnit.unit):Sem (ForInStep PUnit)))).run P w=.ok PUnit.unit w:=by
     intro L
     induction L with
     | nil=>intro fuel off _ _;rfl
     | cons f L ih =>
      intro fuel off hL a;cases fuel with
      | zero=>simp[Z2f]at a
      | succ fuel =>
       simp only[Z2f,jn,bne_iff_ne,ne_eq]at a;obtain⟨⟨e,c⟩,a⟩:=a;have c:f.offset=off:=jf c;split at a
       ·rename_i i hi;rw[jn,jn]at a;obtain⟨⟨m,l⟩,q⟩:=a;have m:=je m;have y:=ZP hr;have z:=Y5 o;have p:((zs.drop off).take i.size).length=i.size:=by simp;omega
        have p1:=Z4Z hi p l (vs:=vx) (off:=off) (by omega) w
        have p2:=Zcx b n f.type (hL f (by simp)) fuel _ l d _ _ w (Yo i.size (Yo off o).2).1 (YA i.size (Yz off hr))
        simp only[List.forIn_cons,jy,e,ne_eq,not_false_eq_true,if_true,Result.andThen_ok,c,p1,p2,Sem.run_pure];exact ih fuel (off+i.size) (fun g hg=>hL g (by simp[hg])) q
       ·cases a
    have r:=main fs.toList fuel 0 h j.2;simp only[ne_eq,ite_not]at r⊢;simp at r⊢;rw[r];rfl
   | _=>cases h
end
end Go.Ab
namespace Go.Ab
open Go.RowKit
def ZhN:DV->Value->Bool
 | .bool a,.bool b=>a==b
 | .int k a,.int k' b=>k==k'&&a==b
 | .str a,.string b=>a==b
 | .nilp,.pointer none=>true
 | .nils,.slice none 0 0=>true
 | .nilmap,.map none=>true
 | .nilfn,.nilFunc=>true
 | .nilif,.nilIface=>true
 | _,_=>false
def Zf2:List DV->List Value->Bool
 | [],[]=>true
 | d::ds,v::vs=>ZhN d v&&Zf2 ds vs
 | _,_=>false
theorem ZcP {d:DV} {v:Value} (h:ZhN d v=true):(∀β G,Rep β G d v)/\Zh d=true/\ZH d=true:=by
 unfold ZhN at h;split at h
 ·have:=eq_of_beq h;subst this;exact⟨fun _ _=>ZL.2 rfl,rfl,rfl⟩
 ·rw[jn]at h;have c:=eq_of_beq h.1;have e:=eq_of_beq h.2;subst c e;exact⟨fun _ _=>ZG.2 rfl,rfl,rfl⟩
 ·rename_i a b;rw[Z8z]at h;have:=of_decide_eq_true h;subst this;exact⟨fun _ _=>Y9.2 rfl,rfl,rfl⟩
 ·exact⟨fun _ _=>Z6M.2 rfl,rfl,rfl⟩
 ·exact⟨fun _ _=>Z1U.2 rfl,rfl,rfl⟩
 ·exact⟨fun _ _=>Z6b.2 rfl,rfl,rfl⟩
 ·exact⟨fun _ _=>by unfold Rep;rfl,rfl,rfl⟩
 ·exact⟨fun _ _=>by unfold Rep;rfl,rfl,rfl⟩
 ·cases h
theorem Zav:∀{ds:List DV} {vs:List Value},Zf2 ds vs=true->(∀β G,Zi β G ds vs)/\Zc ds=true/\ds.all ZH=true
 | [],[],_=>⟨fun _ _=>Zm.2 rfl,rfl,rfl⟩
 | d::ds,v::vs,h=>by
  simp only[Zf2,jn]at h;obtain⟨a,c,e⟩:=ZcP h.1;obtain⟨f,b,g⟩:=Zav h.2;exact⟨fun β G=>Zb.2 ⟨v,vs,rfl,a β G,f β G⟩,by simp[Zc,c,b],by simp only[jt,e,g,ju]⟩
 | [],_::_,h=>by cases h
 | _::_,[],h=>by cases h
def Zbt:List (Nat×Nat)->List (Nat×Nat)->Bool
 | [],[]=>true
 | (a,b)::l,(c,d)::m=>Nat.beq a c&&Nat.beq b d&&Zbt l m
 | _,_=>false
theorem Zao:∀{l m:List (Nat×Nat)},Zbt l m=true->l=m
 | [],[],_=>rfl
 | (a,b)::l,(c,d)::m,h=>by
  simp only[Zbt,jn]at h;have e:=jf h.1.1;have g:=jf h.1.2;have f:=Zao h.2;subst e g f;rfl
 | [],_::_,h=>by cases h
 | _::_,[],h=>by cases h
def Zi0 (P:Program) (t:TypeId) (k:TK):Bool :=
 match k,P.underlying t with
 | .bool,some .bool=>true
 | .int k,some (.int k')=>k==k'
 | .string,some .string=>true
 | .struct fs,some (.struct fields)=>Zbt (fields.toList.map fun f=>(f.type,f.offset)) fs&&(fields.toList.mapM (fun f=>(P.info? f.type).map fun i=>(f.offset,i.size))).isSome
 | .array n e,some (.array n' e')=>Nat.beq n n'&&Nat.beq e e'
 | .slice e,some (.slice e')=>Nat.beq e e'
 | .map k e,some (.map k' e')=>Nat.beq k k'&&Nat.beq e e'
 | .ptr e,some (.pointer e')=>Nat.beq e e'
 | .func,some (.func _ _ _)=>true
 | .iface,some (.interface _)=>true
 | _,_=>false
def ZeQ (P:Program) (t:TypeId) (m:String) (g:Nat):Bool:=match P.info? t with
 | some i=>(match i.methods.find? (·.name==m)with
  | some mt=>mt.path.isEmpty&&(match mt.func,P.underlying t with
   | some (f,pr),some (.pointer _)=>Nat.beq f g&&pr
   | some (f,pr),some _=>Nat.beq f g && !pr
   | _,_=>false)
  | none=>false)
 | none=>false
def Zbk (P:Program) (t:TypeId):List (String×Nat)->Bool
 | []=>true
 | (m,g)::l=>ZeQ P t m g&&Zbk P t l
theorem ZgD {P:Program} {t:TypeId} {m:String} {g:Nat} (h:ZeQ P t m g=true) (v:Value) (args:Array Value) (w:World):(callMethod (.iface t v) m args).run P w=(callFunc g (#[v]++args)).run P w:=by
 unfold ZeQ at h;split at h
 ·rename_i i hi;split at h
  ·rename_i mt o;simp only[jn]at h;obtain⟨n,h⟩:=h;have b:mt.path.toList=[]:=by
    have:mt.path = #[]:=by simpa using n
    rw[this]
   have a:∀fuel,(method (fuel+1) t v m).run P w=.ok (g,v) w:=fun fuel=>by
    unfold method;rw[jy];have j:(typeInfo t).run P w=.ok i w:=by simp[typeInfo,hi]
    rw[j];simp only[Result.andThen_ok,o];rw[b];simp only[follow,pure_bind];split at h
    ·rename_i f pr e c k;simp only[jn]at h;have d:=jf h.1;rw[c];simp only;rw[jy];unfold receiverAt;rw[jy,ji k w];simp only[Result.andThen_ok,h.2,Place.get,Sem.run_pure,d]
    ·rename_i f pr dd l c k;simp only[jn,Bool.not_eq_true']at h;have d:=jf h.1;rw[c];simp only;rw[jy];unfold receiverAt;rw[jy,ji k w];cases dd<;>first|(simp only[Result.andThen_ok,h.2,Place.get,Sem.run_pure,d];done)|exact absurd rfl (l _)
    ·cases h
   unfold callMethod;simp only;rw[jy,show(program).run P w=.ok P w from rfl];simp only[Result.andThen_ok];rw[jy,show P.types.size+Made.depth=(P.types.size+99)+1 from rfl,a];rfl
  ·cases h
 ·cases h
theorem Zai {P:Program} {t:TypeId}:∀{l:List (String×Nat)},Zbk P t l=true->∀{m:String} {g:Nat},Z7k m l=some g->ZeQ P t m g=true
 | [],_,_,_,h=>by cases h
 | (n,f)::l,hl,m,g,h=>by
  simp only[Zbk,jn]at hl;unfold Z7k at h;cases hq:(n==m)with
  | true =>
   rw[hq]at h;simp only[jB,jh]at h;have:=eq_of_beq hq;subst this h;exact hl.1
  | false=>rw[hq]at h;exact Zai hl.2 h
def Zh5 (P:Program) (t:TypeId) (ti:TI):Bool :=
 (match P.info? t with
  | some i=>Nat.beq i.size ti.size&&Nat.beq i.bytes ti.bytes&&(match i.zero with
   | some z=>Nat.beq z.cells.size ti.size&&Zf2 ti.zero z.cells.toList&&(bif ti.isAgg then(match z with | .agg _=>true|_=>false)else(match ti.zero with|[d]=>ZhN d z|_=>false))
   | none=>false)
  | none=>false) &&
 (!ti.eqOk||(Z24 P 64 t ti.zero&&(match P.underlying t with|some (.struct _)=>true|some (.array _ _)=>true|_=>false) && !P.eqGuardType P.depth t)) &&
 Zi0 P t ti.k&&(!ti.keyOk||(Zak P 64 t&&Z24 P 64 t ti.zero&&(match P.underlying t with|some (.struct _)=>true|_=>false)))&&Zbk P t ti.meths
theorem ZhW {P:Program} {t:TypeId} {ti:TI} (h:Zh5 P t ti=true):ZW P t ti:=by
 unfold Zh5 at h;simp only[jn]at h;obtain⟨⟨⟨⟨p,q⟩,a⟩,j⟩,c⟩:=h;cases hi:P.info? t with
 | none=>rw[hi]at p;cases p
 | some i =>
  rw[hi]at p;simp only[jn]at p;obtain⟨⟨a1,a2⟩,a3⟩:=p;cases hz:i.zero with
  | none=>rw[hz]at a3;cases a3
  | some z =>
   rw[hz]at a3;simp only[jn]at a3;obtain⟨⟨b1,b2⟩,b3⟩:=a3;obtain⟨c1,c2,c3⟩:=Zav b2;refine⟨⟨i,z,hi,jf a1,jf a2,hz,jf b1,c1⟩,c3,fun s=>?_,c2,fun o d hd i' z' f l β G=>?_,fun o=>?_,fun u i' z' f l=>?_,fun m g x v args w=>ZgD (Zai c x) v args w,fun hko xs hkx b β G vx w hrx=>?_,?_⟩
   ·rw[s]at q;simp only[Bool.not_true,Bool.false_or,jn,Bool.not_eq_true']at q;obtain⟨⟨d1,d2⟩,d3⟩:=q;refine⟨fun xs ys r hr hx hy β G vx vy w hrx hry=>?_,d3⟩;have hv:∀vs,Z14 P t vs=.agg vs.toArray:=fun vs=>by
     unfold Z14;cases hu:P.underlying t with
     | none=>rw[hu]at d2;cases d2
     | some dd=>rw[hu]at d2;cases dd<;>first|rfl|cases d2
    have:=(ZeA (P:=P) (β:=β) (G:=G) 64).1 t ti.zero d1 10000 (by omega) xs ys r vx vy w hr hx hy hrx hry
    rw[hv,hv]at this;exact this
   ·rw[f]at hi;cases hi;rw[l]at hz;cases hz;rw[o,hd]at b3;exact(ZcP (by simpa using b3)).1 β G
   ·rw[o]at b3;simp only[jA]at b3;split at b3
    ·rename_i e;rw[e];rfl
    ·cases b3
   ·rw[f]at hi;cases hi;rw[l]at hz;cases hz;rw[u]at b3;simp only[jB]at b3;split at b3
    ·exact⟨_,rfl⟩
    ·cases b3
   ·rw[hko]at j;simp only[Bool.not_true,Bool.false_or,jn]at j;obtain⟨⟨e1,e2⟩,e3⟩:=j;have hv:Z14 P t vx=.agg vx.toArray:=by
     unfold Z14;split at e3
     ·rename_i e;rw[e]
     ·cases e3
    have:=Zcx (P:=P) (β:=β) (G:=G) b 64 t e1 64 ti.zero e2 9936 xs vx w hkx hrx;rw[hv]at this;exact this
   ·unfold Zi0 at a;cases hu:P.underlying t with
    | none=>rw[hu]at a;cases hk:ti.k<;>rw[hk]at a<;>cases a
    | some dd =>
     rw[hu]at a;cases hk:ti.k with
     | bool=>rw[hk]at a;cases dd<;>first|rfl|cases a
     | int k=>rw[hk]at a;cases dd<;>first|(cases eq_of_beq a;rfl)|cases a
     | string=>rw[hk]at a;cases dd<;>first|rfl|cases a
     | struct fs =>
      rw[hk]at a;cases dd with
      | struct fields =>
       simp only[jn]at a;exact⟨fields,rfl,Zao a.1,Option.isSome_iff_exists.1 a.2⟩
      | _=>cases a
     | array n e =>
      rw[hk]at a;cases dd with
      | array n' e' =>
       simp only[jn]at a;have j:=jf a.1;have c:=jf a.2;subst j c;rfl
      | _=>cases a
     | slice e =>
      rw[hk]at a;cases dd with
      | slice e' =>
       have c:=jf a;subst c;rfl
      | _=>cases a
     | map k e =>
      rw[hk]at a;cases dd with
      | map n' e' =>
       simp only[jn]at a;have j:=jf a.1;have c:=jf a.2;subst j c;rfl
      | _=>cases a
     | ptr e =>
      rw[hk]at a;cases dd with
      | pointer e' =>
       have c:=jf a;subst c;rfl
      | _=>cases a
     | func=>rw[hk]at a;cases dd<;>first|exact⟨_,_,_,rfl⟩|cases a
     | iface=>rw[hk]at a;cases dd<;>first|exact⟨_,rfl⟩|cases a
     | other=>rw[hk]at a;cases a
def Zdt {α:Type} (p:Nat->α->Bool) (t:Tr α):Bool:=(t.tm (fun k x=>bif p k x then some (none:Option α)else none) 1 0).isSome
theorem Z6g {α:Type} {p:Nat->α->Bool} {t:Tr α} (h:Zdt p t=true) {k:Nat} {x:α} (b:t.get k=some x):p k x=true:=by
 unfold Zdt at h;obtain⟨t',ht⟩:=Option.isSome_iff_exists.1 h;rcases Tr.tm_get1 ht k with⟨a,_⟩|⟨x',y,a,c,_⟩
 ·rw[b]at a;cases a
 ·rw[b]at a;cases a;exact(Z3 c).1
theorem Z22 {P : Program} {f : FuncId} {fn : Func} {c : Code} (b : P.funcs[f]? = some fn) (e : fn.body = some c) (d : (fn.name == "runtime.NumGoroutine") = false) : Z1j P f := fun args w => by
 have a : ¬ fn.name = "runtime.NumGoroutine" := by simpa using d
 unfold callFunc;simp[b,e,a]
def Zdp {α:Type} (p:Nat->α->Prop):Tr α->Nat->Nat->Prop
 | .leaf,_,_=>True
 | .node l v r,a,b=>Zdp p l (2*a) (a+b)/\(match v with|some x=>p b x|none=>True)/\Zdp p r (2*a) (2*a+b)
theorem Z8t {α:Type} {p:Nat->α->Prop}:∀{t:Tr α} {a b:Nat},Zdp p t a b->∀{k:Nat} {x:α},t.get k=some x->p (a*k+b) x
 | .leaf,_,_,_,k,x,h=>by cases h
 | .node l v r,a,b,h,k,x,hk=>by
  rw[Tr.get_node]at hk;obtain⟨c,d,e⟩:=h
  by_cases e0:k=0
  ·rw[if_pos e0]at hk;subst e0 hk;simpa using d
  ·rw[if_neg e0]at hk
   by_cases e1:k % 2=1
   ·rw[if_pos e1]at hk;have:=Z8t c hk
    rwa [show 2*a*(k / 2)+(a+b)=a*k+b by
     have:k=2*(k / 2)+1:=by omega
     generalize k / 2=m at this;subst this;rw[Nat.mul_add,<-Nat.mul_assoc,Nat.mul_comm a 2];omega]at this
   ·rw[if_neg e1]at hk;have:=Z8t e hk
    rwa [show 2*a*(k / 2-1)+(2*a+b)=a*k+b by
     have:k=2*(k / 2-1)+2:=by omega
     generalize k / 2-1=m at this;subst this;rw[Nat.mul_add,<-Nat.mul_assoc,Nat.mul_comm a 2];omega]at this
theorem Z71 {α:Type} {p:Nat->α->Prop} {t:Tr α} (h:Zdp p t 1 0) {k:Nat} {x:α} (a:t.get k=some x):p k x:=by
 have:=Z8t h a;simpa using this
end Go.Ab
namespace Go.Ab
open Go.RowKit
abbrev Agr (w:World) (G:Gh):Prop:=∀b o v,G b o=some v->w.cell? ⟨b,o,none⟩=some v
def Z44 (P:Program) (inv:World->Prop) (g:Nat) (L:List DV->Option DV):Prop:=∀as d,L as=some d->Z1j P g/\∀(w:World) (β:Bi) (G:Gh) (vs:Array Value),inv w->Agr w G->Zi β G as vs.toList->Zc as=true →
  Calls P g vs w fun e w'=>∃v G',e=.returned v/\Below w.heap.size w w'/\(∀b,b<w.heap.size->G' b=G b)/\Agr w' G'/\Rep β G' d v
theorem Zew {w:World} {b o:Nat} {v:Value} (h:w.cell? ⟨b,o,none⟩=some v):b<w.heap.size:=by
 unfold World.cell? at h;rcases Nat.lt_or_ge b w.heap.size with a|a
 ·exact a
 ·simp[Array.getElem?_eq_none a]at h
theorem Agr.below {w w':World} {G:Gh} (c:Agr w G) (d:Below w.heap.size w w'):Agr w' G:=fun b o v h=>by
 have a:=c b o v h;rw[d.cell (p:=⟨b,o,none⟩) (Zew a)];exact a
theorem Zdx (w:World) (k:Nat) (os:Array Obj):Below w.heap.size w (Go.Sort.grow (w.drewN k) os) :=
 ⟨rfl,rfl,rfl,by simp[Go.Sort.grow,World.drewN],fun j a=>by
  show(w.heap++os)[j]?=_;rw[Array.getElem?_append_left a]⟩
theorem Zc0 (w:World) (k:Nat):Below w.heap.size w (w.drewN k):=⟨rfl,rfl,rfl,Nat.le_refl _,fun _ _=>rfl⟩
theorem ZbZ (w:World) (e:TypeId) (s:ByteArray):Below w.heap.size w (Lib.bytesWorld w e s) :=
 ⟨rfl,rfl,rfl,by rw[Lib.bytesWorld_size];omega,fun j a=>Lib.bytesWorld_at_old w e s j a⟩
theorem ZcT {β:Bi} {G:Gh} {a b:DV} {vs:List Value} (h:Zi β G [a,b] vs):∃u v,vs=[u,v]/\Rep β G a u/\Rep β G b v:=by
 obtain⟨u,us,rfl,d,e⟩:=Zb.1 h;obtain⟨v,vs',rfl,f,c⟩:=Zb.1 e;rw[Zm]at c;subst c;exact⟨u,v,rfl,d,f⟩
theorem ZcQ {β:Bi} {G:Gh} {a:DV} {vs:List Value} (h:Zi β G [a] vs):∃u,vs=[u]/\Rep β G a u:=by
 obtain⟨u,us,rfl,c,b⟩:=Zb.1 h;rw[Zm]at b;subst b;exact⟨u,rfl,c⟩
theorem Z7g {w w':World} {β:Bi} {G:Gh} {d:DV} {v:Value} (c:Agr w G) (a:Below w.heap.size w w') (hr:Rep β G d v) :
  ∃v' G',Ending.returned v=.returned v'/\Below w.heap.size w w'/\(∀b,b<w.heap.size->G' b=G b)/\Agr w' G'/\Rep β G' d v' :=
 ⟨v,G,rfl,a,fun _ _=>rfl,c.below a,hr⟩
def ZdD:Nat->Nat->List UInt8->List UInt8
 | 0,_,acc=>acc
 | f+1,u,acc=>bif Nat.blt u 10 then UInt8.ofNat (48+u)::acc else ZdD f (u / 10) (UInt8.ofNat (48+u % 10)::acc)
theorem ZaX:∀(f u:Nat) (acc:List UInt8),u<10 ^ f->0<f->ZdD f u acc=Lib.decDigits u++acc
 | 0,_,_,_,h=>absurd h (Nat.lt_irrefl 0)
 | f+1,u,acc,hu,_=>by
  unfold ZdD;rw[Lib.decDigits]
  by_cases h:u<10
  ·rw[show Nat.blt u 10=true from Nat.ble_eq_true_of_le h];simp[h]
  ·have c:Nat.blt u 10=false:=by
    cases hq:Nat.blt u 10 with
    | false=>rfl
    | true=>exact absurd (je hq) (by omega)
   have b:0<f:=by
    rcases Nat.eq_zero_or_pos f with a|a
    ·subst a;simp at hu;omega
    ·exact a
   rw[c,jA,ZaX f (u / 10) _ (by rw[Nat.pow_succ]at hu;omega) b]
   simp[h]
def Zi2:Int->List UInt8
 | .ofNat m=>ZdD 19 m []
 | .negSucc m=>45::ZdD 19 (m+1) []
theorem Zgt (n:Int) (b : -9223372036854775808<=n) (a:n<=9223372036854775807):Zi2 n=Lib.itoa n:=by
 cases n with
 | ofNat m =>
  have:m<10 ^ 19:=by simp at a;omega
  show ZdD 19 m []=_;rw[ZaX 19 m [] this (by omega)]
  unfold Lib.itoa;rw[if_neg (by simp)]
  simp
 | negSucc m =>
  have:m+1<10 ^ 19:=by omega
  show(45::ZdD 19 (m+1) [])=_;rw[ZaX 19 (m+1) [] this (by omega)]
  unfold Lib.itoa;rw[if_pos (Int.negSucc_lt_zero m)];simp
def ZiB (n:Int):Bool:=match n with
 | .ofNat m=>Nat.ble m 9223372036854775807
 | .negSucc m=>Nat.ble m 9223372036854775807
theorem Zhu {n:Int} (h:ZiB n=true) : -9223372036854775808<=n/\n<=9223372036854775807:=by
 cases n with
 | ofNat m=>have:=je h;constructor<;>(simp<;>try omega)
 | negSucc m=>have:=je h;omega
def Zbe:List DV->Option DV
 | [.int .i64 n]=>bif ZiB n then some (.str ⟨(Zi2 n).toArray⟩)else none
 | _=>none
theorem ZfA {P:Program} {inv:World->Prop} {g:Nat} (f:Z1j P g)
  (hc:∀n:Int,-9223372036854775808<=n->n<=9223372036854775807->∀w,inv w->Calls P g #[.int .i64 n] w fun e w'=>e=.returned (.string ⟨(Lib.itoa n).toArray⟩)/\Below w.heap.size w w'):Z44 P inv g Zbe:=fun as d a=>by
 refine⟨f,fun w β G vs hi ha hr hid=>?_⟩;unfold Zbe at a;split at a
 ·rename_i n;obtain⟨b,a⟩:=Z3 a;cases a;obtain⟨b1,b2⟩:=Zhu b;obtain⟨u,i,c⟩:=ZcQ hr;obtain rfl:=ZG.1 c;rw[Z1k i];refine Calls.mono (hc n b1 b2 w hi) fun e w' h=>?_;obtain⟨rfl,b⟩:=h;exact Z7g ha b (Y9.2 (by rw[Zgt n b1 b2]))
 ·cases a
def Zbd:List DV->Option DV
 | [.str s]=>bif Nat.ble s.size 9223372036854775806 then(match Lib.atoiAll s.data.toList with | .ok v=>some (.tup [.int .i64 v,.nilif])|_=>none)else none
 | _=>none
theorem Zfz {P:Program} {inv:World->Prop} {g:Nat} (f:Z1j P g)
  (hc:∀(s:ByteArray),s.size<=9223372036854775806->∀v,Lib.atoiAll s.data.toList=.ok v->∀w,inv w->Calls P g #[.string s] w fun e w'=>e=.returned (.tuple #[.int .i64 v,.nilIface])/\Below w.heap.size w w'):Z44 P inv g Zbd:=fun as d a=>by
 refine⟨f,fun w β G vs hi ha hr hid=>?_⟩;unfold Zbd at a;split at a
 ·rename_i s;obtain⟨b,a⟩:=Z3 a;split at a
  ·rename_i v hv;cases a;obtain⟨u,i,c⟩:=ZcQ hr;obtain rfl:=Y9.1 c;rw[Z1k i];refine Calls.mono (hc s (je b) v hv w hi) fun e w' h=>?_;obtain⟨rfl,b⟩:=h;refine Z7g ha b ?_;unfold Rep;exact⟨[.int .i64 v,.nilIface],rfl,Zb.2 ⟨_,_,rfl,ZG.2 rfl,Zb.2 ⟨_,_,rfl,Z5r.2 rfl,Zm.2 rfl⟩⟩⟩
  ·cases a
 ·cases a
def ZeN:List DV->Option DV
 | [.str s,.str p]=>bif Nat.blt s.size 4294967281 then(match Lib.cut s.data.toList p.data.toList with|(x,y,b)=>some (.tup [.str ⟨x.toArray⟩,.str ⟨y.toArray⟩,.bool b]))else none
 | _=>none
theorem Zgw {P:Program} {inv:World->Prop} {g:Nat} (j:Z1j P g)
  (hc:∀(s p:ByteArray),s.size<4294967281->∀w,inv w->Calls P g #[.string s,.string p] w fun e w'=>e=.returned (.tuple #[.string ⟨(Lib.cut s.data.toList p.data.toList).1.toArray⟩,.string ⟨(Lib.cut s.data.toList p.data.toList).2.1.toArray⟩,.bool (Lib.cut s.data.toList p.data.toList).2.2])/\Below w.heap.size w w'):Z44 P inv g ZeN:=fun as d a=>by
 refine⟨j,fun w β G vs hi ha hr hid=>?_⟩;unfold ZeN at a;split at a
 ·rename_i s p;obtain⟨f,a⟩:=Z3 a;split at a;rename_i x y b l;cases a;obtain⟨u,v,k,i,c⟩:=ZcT hr;obtain rfl:=Y9.1 i;obtain rfl:=Y9.1 c;rw[Z1k k];refine Calls.mono (hc s p (je f) w hi) fun e w' h=>?_;obtain⟨rfl,f⟩:=h;refine Z7g ha f ?_;rw[l];unfold Rep;exact⟨[.string ⟨x.toArray⟩,.string ⟨y.toArray⟩,.bool b],rfl,Zb.2 ⟨_,_,rfl,Y9.2 rfl,Zb.2 ⟨_,_,rfl,Y9.2 rfl,Zb.2 ⟨_,_,rfl,ZL.2 rfl,Zm.2 rfl⟩⟩⟩⟩
 ·cases a
def Z9F:List (List UInt8)->List (List DV)
 | []=>[]
 | x::l=>[.str ⟨x.toArray⟩]::Z9F l
def Z8l:List DV->Option DV
 | [.str s,.str p]=>bif Nat.blt s.size 4294967281&&Nat.ble 1 p.size then(let l:=Lib.splitK p.data.toList 0 (Lib.count s.data.toList p.data.toList) s.data.toList
   bif Nat.beq l.length (Lib.count s.data.toList p.data.toList+1)then some (.sl (Z9F l))else none)else none
 | _=>none
theorem ZaF:∀l:List (List UInt8),(Z9F l).length=l.length
 | []=>rfl
 | _::l=>by simp[Z9F,ZaF l]
theorem ZaG {β:Bi} {G:Gh}:∀l:List (List UInt8),Zi β G (Z9F l).flatten (l.map fun x=>Value.string ⟨x.toArray⟩)
 | []=>Zm.2 rfl
 | x::l=>by
  show Zi β G (DV.str ⟨x.toArray⟩::(Z9F l).flatten) _;exact Zb.2 ⟨_,_,rfl,Y9.2 rfl,ZaG l⟩
theorem Z83:∀(l:List (List UInt8)),∀c∈Z9F l,c.length=1/\Zc c=true/\c.all ZH=true
 | [],c,h=>by cases h
 | x::l,c,h=>by
  rcases jr.1 h with rfl|h
  ·exact⟨rfl,rfl,rfl⟩
  ·exact Z83 l c h
theorem ZdN {P:Program} {inv:World->Prop} {g:Nat} {t:TypeId} (he:Z1j P g)
  (hc:∀(s p:ByteArray),s.size<4294967281->1<=p.size->∀w,inv w->Calls P g #[.string s,.string p] w fun e w'=>e=.returned (.slice (some ⟨w.heap.size,0,none⟩) (Lib.countB s p+1) (Lib.countB s p+1))/\w'=w.alloc (.cells ((Lib.splitB p 0 (Lib.countB s p) s).map Value.string).toArray t)):Z44 P inv g Z8l:=fun as d a=>by
 refine⟨he,fun w β G vs hi ha hr hid=>?_⟩;unfold Z8l at a;split at a
 ·rename_i s p;obtain⟨n,a⟩:=Z3 a;simp only[jn]at n;obtain⟨l,a⟩:=Z3 a;cases a;have l:=jf l;obtain⟨u,v,hu,z,m⟩:=ZcT hr;obtain rfl:=Y9.1 z;obtain rfl:=Y9.1 m;rw[Z1k hu];refine Calls.mono (hc s p (je n.1) (je n.2) w hi) fun e w' h=>?_;obtain⟨rfl,rfl⟩:=h;have f:(Lib.splitB p 0 (Lib.countB s p) s).map Value.string=(Lib.splitK p.data.toList 0 (Lib.countB s p) s.data.toList).map fun x=>Value.string ⟨x.toArray⟩:=by
   rw[<-Lib.splitB_data,List.map_map];rfl
  rw[f];generalize hK:Lib.splitK p.data.toList 0 (Lib.countB s p) s.data.toList=K at *;have i:K.length=Lib.countB s p+1:=l;have c:∀j v,(K.map fun x=>Value.string ⟨x.toArray⟩)[j]? = some v->(w.alloc (.cells (K.map fun x=>Value.string ⟨x.toArray⟩).toArray t)).cell? ⟨w.heap.size,j,none⟩=some v:=fun j v r=>by
   unfold World.cell? World.alloc;simp only[Array.getElem?_push_size];simpa using r
  refine⟨_,fun b o=>if b=w.heap.size then(K.map fun x=>Value.string ⟨x.toArray⟩)[o]? else G b o,rfl,Below.alloc (Below.refl _ _) (Nat.le_refl _) _,fun b q=>?_,fun b o v k=>?_,?_⟩
  ·funext o;exact if_neg (Nat.ne_of_lt q)
  ·by_cases hbs:b=w.heap.size
   ·have y:(K.map fun x=>Value.string ⟨x.toArray⟩)[o]? = some v:=(if_pos hbs).symm.trans k;rw[hbs];exact c o v y
   ·have k:G b o=some v:=(if_neg hbs).symm.trans k;exact(ha.below (Below.alloc (Below.refl _ _) (Nat.le_refl _) _)) b o v k
  ·unfold Rep;refine⟨_,_,⟨?_,Nat.le_refl _⟩,.inr ⟨w.heap.size,0,1,rfl,?_⟩⟩
   ·show Value.slice _ _ _=Value.slice _ _ _;rw[ZaF];rw[i]
   ·refine Z4i (G:=_) (ZaG _) (Z83 _) fun j v r=>?_;refine(if_pos rfl).trans ?_;rw[Nat.zero_add];exact r
 ·cases a
def Zi7 (P:Program) (g:Nat) (t:TypeId):Prop:=Z1j P g/\∀(w:World) (b:Nat) (p v:Value),w.heap[b]? = some (.cells #[p,v] t (0,0))->(p=.pointer none\/p=.pointer (some ⟨b,0,none⟩)) →
  Calls P g #[.pointer (some ⟨b,0,none⟩)] w fun e w'=>e=.returned (.tuple #[])/\Below 0 w w'/\w'.heap.size=w.heap.size/\(∀k,k≠b->w'.heap[k]? = w.heap[k]?)/\w'.heap[b]? = some (.cells #[.pointer (some ⟨b,0,none⟩),v] t (0,0))
theorem Zhf {P:Program} {g:Nat} {t:TypeId} (d:Z1j P g)
  (l:∀(b:Nat) (w:World),w.cell? ⟨b,0,none⟩=some (.pointer (some ⟨b,0,none⟩))->Calls P g #[.pointer (some ⟨b,0,none⟩)] w fun e w'=>e=.returned (.tuple #[])/\w'=w)
  (i:∀(b:Nat) (w:World),w.cell? ⟨b,0,none⟩=some (.pointer none)->w.shape? b=some (t,2)->w.frozen? ⟨b,0,none⟩=false->Calls P g #[.pointer (some ⟨b,0,none⟩)] w fun e w'=>e=.returned (.tuple #[])/\w'=w.setCell ⟨b,0,none⟩ (.pointer (some ⟨b,0,none⟩))):Zi7 P g t :=
 ⟨d,fun w b p v a j=>by
  rcases j with rfl|rfl
  ·refine Calls.mono (i b w (by simp[World.cell?,a]) (by simp[World.shape?,a]) (by simp[World.frozen?,a])) fun e w' h=>?_
   obtain⟨rfl,rfl⟩:=h;have c:=Below.setCell (B:=0) (Below.refl 0 w) (p:=⟨b,0,none⟩) (Nat.zero_le _) (.pointer (some ⟨b,0,none⟩));have f:b<w.heap.size:=(ja.1 a).1;refine⟨rfl,c,by simp[World.setCell],fun k m=>Below.heap_setCell w ⟨b,0,none⟩ _ k m,?_⟩
   unfold World.setCell;simp[Array.getElem?_modify,a]
  ·refine Calls.mono (l b w (by simp[World.cell?,a])) fun e w' h=>?_
   obtain⟨rfl,rfl⟩:=h;exact⟨rfl,Below.refl _ _,rfl,fun _ _=>rfl,a⟩⟩
theorem Zde {P:Program} {w w':World} {name:String} {k:IntKind} {zs:List Int} (h:Lib.TabIs P w name k zs) (c:Below w.heap.size w w'):Lib.TabIs P w' name k zs:=by
 unfold Lib.TabIs World.var? at *;cases hg:P.globalNamed name with
 | none=>rw[hg]at h;cases h
 | some g =>
  rw[hg]at h;simp only[jm]at h⊢;have b:g<w.heap.size:=by
   rcases Nat.lt_or_ge g w.heap.size with a|a
   ·exact a
   ·rw[Array.getElem?_eq_none a]at h;cases h
  rw[c.block g b];exact h
theorem Zbi {w w':World} {g:Nat} (h:∃m,w.cell? ⟨g,0,none⟩=some (.int .i64 m)) (b:Below w.heap.size w w'):∃m,w'.cell? ⟨g,0,none⟩=some (.int .i64 m):=by
 obtain⟨m,a⟩:=h;exact⟨m,by rw[b.cell (p:=⟨g,0,none⟩) (Zew a)];exact a⟩
end Go.Ab
