/- What the code of the program comes to on plain values. -/
import Derived.Test.YtaaalkppbbpacaaGreatDoorA2
import Derived.Laws.StructEq
import Derived.ChangeKeysEq
import Derived.Lib.ItoaNum
import Derived.Lib.AtoiAll
import Derived.Lib.Split
import Derived.Lib.CutLaws
import Derived.Lib.ConvBytes
import Derived.Lib.LaidTab
import Derived.Deep.Draws
import Derived.Sort.Grow
set_option linter.unusedSectionVars false
set_option linter.unusedVariables false
set_option linter.unusedSimpArgs false
namespace Go.Ab
open Go.RowKit
structure Zm (P:Program) (f:FuncId) (F:FI):Prop where
 fn:∃fn,P.funcs[f]? = some fn∧fn.body=some F.body∧fn.ntmps=F.nt∧fn.results.toList=F.nres
 ent:Z1k P f
def Zaz {α γ:Type} (P:Program) (w:World) (f:α→Sem γ):List α→List γ→Prop
 | [],out=>out=[]
 | x::xs,out=>∃b out',out=b::out'∧(f x).run P w=.ok b w∧Zaz P w f xs out'
section
variable {P:Program} {E:Env} {w0:World} {G0:Gh} {outer:DD} {own:List Nat} {D:DD} {V nt:Nat} {a:Act} {w:World} {β:Bi} {G:Gh} {ro:Option Nat} {n:Nat} {h:Nat→Option Zd}
theorem ZfQ {α γ δ:Type} (x:Sem α) (f:α→Sem γ) (g:γ→Sem δ):(x.bind f).bind g=x.bind fun a=>(f a).bind g:=by
 induction x<;>simp only[Sem.bind]<;>first|rfl|(congr 1;funext y;apply_assumption)|(congr 1)
theorem Zj0 {α:Type} (x:Sem α):x.bind Sem.pure=x:=by
 induction x<;>simp only[Sem.bind]<;>first|rfl|(congr 1;funext y;apply_assumption)|(congr 1)
instance:LawfulMonad Sem:=LawfulMonad.mk' Sem (fun x=>Zj0 x) (fun _ _=>rfl) (fun x f g=>ZfQ x f g)
theorem ZcL {α γ:Type} (f:α→Sem γ):∀(l:List α) (out:List γ),Zaz P w f l out→(l.mapM f).run P w=.ok out w
 | [],out,h=>by simp only[Zaz]at h;subst h;rfl
 | x::xs,out,h=>by
  obtain⟨b,out',rfl,h1,h2⟩:=h;rw[List.mapM_cons,Sem.run_bind,h1];simp only[Result.andThen];rw[Sem.run_bind,ZcL f xs out' h2];rfl
theorem Zho {ti:TI} {da d:DV} {u:Value} (hr:Rep β G da u) (hd:Z3d ti h da=some d):∃A,u=.pointer (some A):=by
 unfold Z3d at hd;split at hd
 ·obtain⟨b,_,rfl⟩:=Z1x.1 hr;exact⟨_,rfl⟩
 ·obtain⟨b,_,_,_,rfl⟩:=Z1V.1 hr;exact⟨_,rfl⟩
 ·obtain⟨_,b,o,rfl,_⟩:=Z5m.1 hr;exact⟨_,rfl⟩
 ·cases hd
def Zh3 (tm:Array Value):ResultVar→Sem Value
 | .tmp t=>pure (tm.getD t undef)
 | .cell a t=>do loadVar t (←asAddr (tm.getD a undef))
theorem ZdR (fn:Func) (tm:Array Value):results fn tm=(do let vs ←fn.results.mapM (Zh3 tm);pure (if h:vs.size=1 then vs[0]else .tuple vs)):=by
 have:(fun(x:ResultVar)=>(match x with | .tmp t=>pure (tm.getD t undef) | .cell a t=>do loadVar t (←asAddr (tm.getD a undef)):Sem Value))=Zh3 tm:=by
  funext x;cases x<;>rfl
 rw[←this];rfl
theorem Z68 (hE:∀t ti,E.ty t=some ti→ZX P t ti) {base:Nat→Option DV} {tm:Array Value} (hf:FrM β G base tm) (hh:HR E w0 G0 D w β G h):∀(rs:List ResultVar) (vs:List DV),Z5q E base h rs=some vs →
  ∃out,Zaz P w (Zh3 tm) rs out∧Zi β G vs out
 | [],vs,hd=>by simp only[Z5q,Option.some.injEq]at hd;subst hd;exact⟨[],rfl,Zn.2 rfl⟩
 | .tmp t::rs,vs,hd=>by
  simp only[Z5q]at hd;obtain⟨d,h1,hd⟩:=Z0 hd;obtain⟨ds,h2,hd⟩:=Z0 hd;cases hd;obtain⟨out,h3,h4⟩:=Z68 hE hf hh rs ds h2;obtain⟨v,h5,h6⟩:=hf t d h1;refine⟨v::out,⟨v,out,rfl,?_,h3⟩,Zb.2 ⟨v,out,rfl,h6,h4⟩⟩;simp[Zh3,h5]
 | .cell b t::rs,vs,hd=>by
  simp only[Z5q]at hd;obtain⟨ti,hti,hd⟩:=Z0 hd;obtain⟨da,h1,hd⟩:=Z0 hd;obtain⟨d,h7,hd⟩:=Z0 hd;obtain⟨ds,h2,hd⟩:=Z0 hd;cases hd;obtain⟨out,h3,h4⟩:=Z68 hE hf hh rs ds h2;obtain⟨u,h5,h6⟩:=hf b da h1;obtain⟨A,rfl⟩:=Zho h6 h7;obtain⟨v,h8,h9⟩:=Z91 hE hh (hE t ti hti) (hE t ti hti).ko h6 h7;refine⟨v::out,⟨v,out,rfl,?_,h3⟩,Zb.2 ⟨v,out,rfl,h9,h4⟩⟩;have h10:(loadVar t A).run P w=.ok v w:=by simpa[Instr.loadAt,Instr.sureAddr]using h8
  simp[Zh3,h5,asAddr,h10]
theorem Z9N (hE:∀t ti,E.ty t=some ti→ZX P t ti) {base:Nat→Option DV} {tm:Array Value} (hf:FrM β G base tm) (hh:HR E w0 G0 D w β G h) {fn:Func} {rs:List ResultVar} (hrs:fn.results.toList=rs) {vs:List DV} (hd:Z5q E base h rs=some vs) :
  ∃v,(results fn tm).run P w=.ok v w∧Rep β G (Z6C vs) v:=by
 obtain⟨out,h1,h2⟩:=Z68 (P:=P) hE hf hh rs vs hd;rw[←hrs]at h1;have h3:=ZcL (P:=P) (w:=w) _ fn.results.toList out h1;refine⟨if h:out.toArray.size=1 then out.toArray[0]else .tuple out.toArray,?_,?_⟩
 ·rw[ZdR,Array.mapM_eq_mapM_toList,Sem.run_bind];have h4:∀(z:Sem (List Value)),z.run P w=.ok out w→(Functor.map List.toArray z).run P w=.ok out.toArray w:=fun z hz=>by
   rw[←LawfulMonad.bind_pure_comp,Sem.run_bind,hz];rfl
  rw[h4 _ h3];rfl
 ·have hl:=ZQ h2
  match vs,out,h2,hl with
  | [],[],_,_=>exact YN.2 ⟨[],by simp,Zn.2 rfl⟩
  | [d],[v],h2,_ =>
   obtain⟨v',vs',e,h6,_⟩:=Zb.1 h2;cases e;simpa[Z6C]using h6
  | d::e::ds,u::v::out,h2,_ =>
   refine YN.2 ⟨u::v::out,by simp,h2⟩
theorem HR.unmark {d:Nat} (hh:HR E w0 G0 (YR [d] D) w β G h) (hd:D d=none):HR E w0 G0 D (w.putObj d (.deferred none)) β G h:=by
 obtain⟨k1,k2,_⟩:=hh.marks d mkD (by simp[YR])
 have hother:∀i o b,h i=some o→Yv β i o b→b≠d:=fun i o b hi hb e=>(Z4h (hh.own i o b hi hb).2.2).1 (by simp[e])
 refine⟨hh.below.trans ⟨rfl,rfl,rfl,by simp,fun k hk=>World.putObj_heap_other (by omega)⟩,hh.g0,fun c off v hg=>?_,fun i x hi=>?_,fun i x c hi hc=>?_,hh.inj,fun e x he=>?_,hh.inv0⟩
 ·have hc:=hh.agree c off v hg
  by_cases e:c=d
  ·subst e;unfold World.cell? at hc;rw[k2]at hc;cases hc
  ·exact(World.cell?_of_block (w:=w) (w':=w.putObj d (.deferred none)) (a:=⟨c,off,none⟩) (World.putObj_heap_other e)).trans hc
 ·exact Z2n.keep (Ext.refl _ _) (fun _=>rfl) (fun c hc=>⟨World.putObj_heap_other (hother i x c hi hc),fun _=>rfl⟩) (hh.obj i x hi)
 ·obtain⟨m1,m2,m3⟩:=hh.own i x c hi hc;exact⟨m1,by simpa using m2,(Z4h m3).2⟩
 ·have hne:e≠d:=fun q=>by rw[q,hd]at he;cases he
  obtain⟨m1,m2,m3⟩:=hh.marks e x (by unfold YR;rw[if_neg (by simpa using hne)];exact he)
  exact⟨m1,(World.putObj_heap_other hne).trans m2,m3⟩
theorem HR.lessD {D':DD} (hh:HR E w0 G0 D w β G h) (hs:∀d x,D' d=some x→D d=some x):HR E w0 G0 D' w β G h :=
 ⟨hh.below,hh.g0,hh.agree,hh.obj,fun i o b hi hb=>⟨(hh.own i o b hi hb).1,(hh.own i o b hi hb).2.1,by
  cases hd:D' b with
  | none=>rfl
  | some x=>have:=hs b x hd;rw[(hh.own i o b hi hb).2.2]at this;cases this⟩,hh.inj,fun d x hd=>hh.marks d x (hs d x hd),hh.inv0⟩
theorem ZaX (hdf:∀g,E.dfr g=true→Zg3 P g) {fn:Func} {tm:Array Value} {R:Ending→World→Prop} (hR:∀w,HR E w0 G0 outer w β G h→∃v,(results fn tm).run P w=.ok v w∧R (.returned v) w) {own:List Nat} {ds:List Deferred} (hl:Z84 E own ds) :
  ∀(w:World),ZaA own outer→HR E w0 G0 (YR own outer) w β G h→LeavesInM Fence.wide n P fn tm R ds .returning w:=by
 induction hl with
 | nil=>exact fun w _ hh=>hR w (by rw[Z7m]at hh;exact hh)
 | @mark own ds d _ ih =>
  intro w hn hh;have hn':=List.nodup_cons.1 hn.1;refine⟨by simp,.inl ⟨d,w.putObj d (.deferred none),rfl,run_takeDeferred (hh.marks d mkD ZdM).2.1,?_⟩⟩
  rw[Z5A]at hh;exact ih _ ⟨hn'.2,fun b hb=>hn.2 b (by simp[hb])⟩ (hh.unmark (by unfold YR;rw[if_neg hn'.1];exact hn.2 d (by simp)))
 | @fn own ds g cap hg _ ih =>
  intro w hn hh;obtain⟨k1,k2⟩:=hdf g hg (n-1) cap w;refine⟨by simp,.inr ⟨by simp[Fence.wide],.func g,cap,g,cap,rfl,k1,fun _ _=>trivial,CallsDIn.mono k2 fun e u' w' he=>?_⟩⟩
  obtain⟨⟨v,rfl⟩,rfl,rfl⟩:=he;exact ih w' hn hh
theorem Z4C {V:Nat}:∀(vs:List DV) (k:Nat) (b:Tr DV) (t:Nat) (d:DV),(Z2Q V k vs b).get t=some d→(k≤t∧vs[t-k]? = some d∧Nat.testBit V t=true)∨b.get t=some d
 | [],_,_,_,_,h=>.inr h
 | v::vs,k,b,t,d,h=>by
  simp only[Z2Q]at h;rcases Z4C vs (k+1) _ t d h with⟨h1,h2,h3⟩|h1
  ·exact .inl ⟨by omega,by rw[show t-k=(t-(k+1))+1 by omega];simpa using h2,h3⟩
  ·cases hv:Nat.testBit V k with
   | false=>rw[hv]at h1;exact .inr h1
   | true =>
    rw[hv]at h1;simp only[cond_true,Tr.get_set]at h1
    by_cases e:t=k
    ·rw[if_pos e]at h1;subst e;exact .inl ⟨Nat.le_refl _,by simpa using h1,hv⟩
    ·rw[if_neg e]at h1;exact .inr h1
theorem Z4v {V nt:Nat}:∀(ps:List Nat) (vs:List DV) (b b':Tr DV) (us:List Value) (tm:Array Value),YX V nt ps vs b=some b'→Zi β G vs us→FrM β G b.get tm→tm.size=nt→(∀t d,b.get t=some d→Nat.testBit V t=true) →
  ps.length=us.length∧FrM β G b'.get ((ps.zip us).foldl (fun tmps (t,a)=>tmps.setIfInBounds t a) tm)∧((ps.zip us).foldl (fun tmps (t,a)=>tmps.setIfInBounds t a) tm).size=nt∧∀t d,b'.get t=some d→Nat.testBit V t=true
 | [],[],b,b',us,tm,h,hr,hf,hs,hd=>by
  simp only[YX,Option.some.injEq]at h;subst h;rw[Zn]at hr;subst hr;exact⟨rfl,hf,hs,hd⟩
 | p::ps,v::vs,b,b',us,tm,h,hr,hf,hs,hd=>by
  simp only[YX]at h;obtain⟨hlt,h⟩:=Z3 h;rw[Tr.blt_dec]at hlt;have hlt:p<nt:=by simpa using hlt
  obtain⟨u,us',rfl,h1,h2⟩:=Zb.1 hr;have hb1:FrM β G (bif Nat.testBit V p then b.set p (some v)else b).get (tm.setIfInBounds p u)∧∀t d,(bif Nat.testBit V p then b.set p (some v)else b).get t=some d→Nat.testBit V t=true:=by
   cases hv:Nat.testBit V p with
   | true =>
    simp only[cond_true];refine⟨fun t d ht=>?_,fun t d ht=>?_⟩
    ·rw[Tr.get_set]at ht
     by_cases e:t=p
     ·rw[if_pos e]at ht;cases ht;exact⟨u,by rw[e,Array.getElem?_setIfInBounds_self_of_lt (by omega)],h1⟩
     ·rw[if_neg e]at ht;obtain⟨x,h3,h4⟩:=hf t d ht;exact⟨x,by rw[Array.getElem?_setIfInBounds_ne (fun q=>e q.symm)];exact h3,h4⟩
    ·rw[Tr.get_set]at ht
     by_cases e:t=p
     ·rw[e];exact hv
     ·rw[if_neg e]at ht;exact hd t d ht
   | false =>
    simp only[cond_false];refine⟨fun t d ht=>?_,hd⟩;have hne:p≠t:=fun e=>by have:=hd t d ht;rw[←e,hv]at this;cases this
    obtain⟨x,h3,h4⟩:=hf t d ht;exact⟨x,by rw[Array.getElem?_setIfInBounds_ne hne];exact h3,h4⟩
  obtain⟨k1,k2,k3,k4⟩:=Z4v ps vs _ b' us' (tm.setIfInBounds p u) h h2 hb1.1 (by simpa using hs) hb1.2
  exact⟨by simp[k1],k2,k3,k4⟩
 | [],_::_,_,_,_,_,h,_,_,_,_=>by cases h
 | _::_,[],_,_,_,_,h,_,_,_,_=>by cases h
end
end Go.Ab
namespace Go.Ab
open Go.RowKit
section
variable {P:Program} {E:Env}
structure Z7D (P:Program) (E:Env):Prop where
 fn:∀f F,E.fn f=some F→Zm P f F
 leaf:∀g L as d,E.leaf g=some L→L as=some d→Z1k P g∧∀(w:World) (β:Bi) (G:Gh) (vs:Array Value),E.inv w→(∀b o v,G b o=some v→w.cell? ⟨b,o,none⟩=some v)→Zi β G as vs.toList→Zc as=true →
  Calls P g vs w fun e w'=>∃v G',e=.returned v∧Below w.heap.size w w'∧(∀b,b<w.heap.size→G' b=G b)∧(∀b o v,G' b o=some v→w'.cell? ⟨b,o,none⟩=some v)∧Rep β G' d v
 dfr:∀g,E.dfr g=true→Zg3 P g
 cc:∀g t,E.cc g=some t→Z1k P g∧∀(w:World) (b:Nat) (p v:Value),w.heap[b]? = some (.cells #[p,v] t (0,0))→(p=.pointer none∨p=.pointer (some ⟨b,0,none⟩)) →
  Calls P g #[.pointer (some ⟨b,0,none⟩)] w fun e w'=>e=.returned (.tuple #[])∧Below 0 w w'∧w'.heap.size=w.heap.size∧(∀k,k≠b→w'.heap[k]? = w.heap[k]?)∧w'.heap[b]? = some (.cells #[.pointer (some ⟨b,0,none⟩),v] t (0,0))
def ZiX (E:Env) (n:Nat) (g:Nat) (as:List DV):Option DV:=(evX E n false g as .leaf 0).bind fun x=>frz x.2.1.get x.1
def ZeY (callH:Yj) (g:Nat) (as:List DV):Option DV:=(callH g as .leaf 0).bind fun x=>frz x.2.1.get x.1
theorem ZgX {callH:Yj} (hH:YY P E callH):Z37 P E (ZeY callH):=fun g as d hd=>by
 unfold ZeY at hd;obtain⟨⟨r,objs',nx'⟩,h1,h2⟩:=Z0 hd;obtain⟨hent,hcs⟩:=hH _ _ _ _ _ _ _ h1;refine⟨hent,fun w β G vs hiv hag hrep hid=>?_⟩;have hh:HR E w G (fun _=>none) w ⟨fun _=>none,fun _ _=>none⟩ G (Tr.leaf:Tr Zd).get :=
  ⟨Below.refl _ _,fun _ _=>rfl,hag,fun _ _ h=>(by cases h),fun _ _ _ h=>(by cases h),fun _ _ _ _ _ h=>(by cases h),fun _ _ h=>(by cases h),hiv⟩
 refine Calls.mono (hcs w G (fun _=>none) w _ G vs hh (fun _ _=>⟨rfl,fun _=>rfl,rfl⟩) (Zi.free as _ hid hrep)) fun e w' he=>?_;obtain⟨v,β',G',rfl,_,_,hh',_,hr⟩:=he;obtain⟨G2,hx2,hh2,hs2⟩:=Z1L hh' (Zj r);obtain⟨k1,k2⟩:=Z5a hx2 (Z29 _ _) h2 hs2 hr;exact⟨v,G2,rfl,hh2.below,hh2.g0,hh2.agree,k2,Rep.free d v k2 k1⟩
theorem Z4g {n:Nat} (hH:YY P E (evX E n false)):Z37 P E (ZiX E n):=ZgX hH
theorem ZfO (hE:∀t ti,E.ty t=some ti→ZX P t ti) (hFn:Z7D P E) (hmix:P.follows .mixedOrders=true) {n:Nat} {call:Nat→List DV→Option DV} {callH callY:Yj} (hp:Z37 P E call) (hH:YY P E callH) (hY:Z1g P E callY):YY P E (Z9O E call callH callY n) :=
 fun g as objs nx r objs' nx' hd=>by
  unfold Z9O at hd;obtain⟨F,hF,hd⟩:=Z0 hd;obtain⟨hle,hd⟩:=Z3 hd;obtain⟨⟨ex,s'⟩,hc,hd⟩:=Z0 hd;obtain⟨⟨fn,hf1,hf2,hf3,hf4⟩,hent⟩:=hFn.fn g F hF;refine⟨hent,fun w0 G0 D w β G vs hh hfr hrep=>?_⟩;have hlen:as.length≤F.nt:=Nat.le_of_ble_eq_true hle;have hvl:=ZQ hrep;have hvs:vs.size=as.length:=by simpa using hvl
  have hvals:∃rs,Z5q E s'.base.get s'.objs.get F.nres=some rs∧r=Z6C rs∧objs'=s'.objs∧nx'=s'.next∧(ex=.normal∨ex=.ret):=by
   cases ex with
   | normal=>obtain⟨rs,h1,h2⟩:=Z0 hd;cases h2;exact⟨rs,h1,rfl,rfl,rfl,.inl rfl⟩
   | ret=>obtain⟨rs,h1,h2⟩:=Z0 hd;cases h2;exact⟨rs,h1,rfl,rfl,rfl,.inr rfl⟩
   | exit i=>cases hd
   | busy=>cases hd
  obtain⟨rs,hrs,rfl,rfl,rfl,hex⟩:=hvals;refine(callsIn_wide (n:=0)).1 (callsIn_of_wp_marks hf1 hf2 trivial ?_);rw[hf3];have hm:SS E w0 G0 D F.vmask F.nt [] ⟨Z2Q F.vmask 0 as .leaf,objs,nx⟩ { tmps:=vs++Array.replicate (F.nt-vs.size) undef,defers:=[] } w β G:=by
   refine⟨fun t d ht=>?_,fun t d ht=>?_,?_,by rw[Z7m];exact hh,hfr,Z84.nil,List.nodup_nil,by simp⟩
   ·rcases Z4C as 0 .leaf t d ht with⟨_,h2,_⟩|h1
    ·obtain⟨v,h3,h4⟩:=Z3S hrep (i:=t) (d:=d) (by simpa using h2)
     refine⟨v,?_,h4⟩;have h5:vs[t]? = some v:=by simpa using h3
     have hlt:t<vs.size:=(Array.getElem?_eq_some_iff.1 h5).1;show(vs++Array.replicate (F.nt-vs.size) undef)[t]? = some v;rw[Array.getElem?_append_left hlt];exact h5
    ·cases h1
   ·rcases Z4C as 0 .leaf t d ht with⟨_,_,h3⟩|h1
    ·exact h3
    ·cases h1
   ·show(vs++Array.replicate (F.nt-vs.size) undef).size=F.nt;simp;omega
  have hpost:∀own' a' w' β' G',nx≤s'.next→SS E w0 G0 D F.vmask F.nt own' s' a' w' β' G'→Go2 nx β G β' G' objs.get s'.objs.get →
    LeavesInM Fence.wide 0 P fn a'.tmps (Z1p E w0 G0 D β G objs nx (Z6C rs) s'.objs s'.next) a'.defers .returning w':=fun own' a' w' β' G' k1 k2 k3=>by
   refine ZaX hFn.dfr (fun w2 h2=>?_) k2.df.1 w' k2.df.2 k2.hr;obtain⟨v,h3,h4⟩:=Z9N hE k2.fr h2 hf4 hrs;exact⟨v,h3,v,β',G',rfl,k1,k3,h2,k2.fresh,h4⟩
  refine Z75 (ro:=none) (rnd:=none) hE hmix hp hH hY hF n F.body 0 _ ex s' hc [] _ w β G _ rfl hm fun own' a' w' β' G' k1 k2 k3=>?_;rcases hex with rfl|rfl
  ·exact hpost own' a' w' β' G' k1 k2 k3
  ·exact hpost own' a' w' β' G' k1 k2 k3
theorem ZfB (hFn:Z7D P E) {g:Nat} {L:List DV→Option DV} (hL:E.leaf g=some L) {as:List DV} {o:Tr Zd} {nx:Nat} {r:DV} {o':Tr Zd} {nx':Nat}
  (hd:(bif Zc as then(L as).bind fun r=>bif Zh r then some (r,o,nx)else none else none)=some (r,o',nx')):Z1k P g ∧
   ∀(w0:World) (G0:Gh) (D:DD) (w:World) (β:Bi) (G:Gh) (vs:Array Value),HR E w0 G0 D w β G o.get→(∀id,nx≤id→ZS β o.get id)→Zi β G as vs.toList →
    Calls P g vs w (Z1p E w0 G0 D β G o nx r o' nx'):=by
 obtain⟨hid,hd⟩:=Z3 hd;obtain⟨d,h1,hd⟩:=Z0 hd;obtain⟨_,hd⟩:=Z3 hd;cases hd;obtain⟨hent,hc⟩:=hFn.leaf g L as r hL h1;refine⟨hent,fun w0 G0 D w β G vs hh hfr hrep=>Calls.mono (hc w β G vs hh.inv hh.agree hrep hid) fun e w' he=>?_⟩;obtain⟨v,G',rfl,hb,hg,hag,hr⟩:=he;obtain⟨hh2,hx⟩:=hh.grow hb hg hag;exact⟨v,β,G',rfl,Nat.le_refl _,⟨hx,fun id _=>Z15.refl β o.get id⟩,hh2,hfr,hr⟩
theorem Zht (hFn:Z7D P E) {g:Nat} {t:TypeId} (hc:E.cc g=some t) {as:List DV} {o:Tr Zd} {nx:Nat} {r:DV} {o':Tr Zd} {nx':Nat} (hd:ccD t as o nx=some (r,o',nx')):Z1k P g ∧
   ∀(w0:World) (G0:Gh) (D:DD) (w:World) (β:Bi) (G:Gh) (vs:Array Value),HR E w0 G0 D w β G o.get→(∀id,nx≤id→ZS β o.get id)→Zi β G as vs.toList →
    Calls P g vs w (Z1p E w0 G0 D β G o nx r o' nx'):=by
 obtain⟨hent,hcs⟩:=hFn.cc g t hc;refine⟨hent,fun w0 G0 D w β G vs hh hfr hrep=>?_⟩;unfold ccD at hd;split at hd
 ·rename_i id;split at hd
  ·rename_i t' c0 c1 ho;obtain⟨hq,hd⟩:=Z3 hd;cases hd;simp only[Bool.and_eq_true]at hq;obtain⟨q1,q2⟩:=hq;obtain rfl:=Nat.eq_of_beq_eq_true q1;obtain⟨b,cs,k1,k2,k3,k4,k5⟩:=hh.obj id _ ho;obtain⟨u,us,hvs,hu,hus⟩:=Zb.1 hrep;rw[Zn]at hus;subst hus;obtain⟨b',hb',rfl⟩:=Z1x.1 hu;rw[k1]at hb';cases hb';obtain⟨p,ps,hcs2,hp,hps⟩:=Zb.1 k3;obtain⟨q,qs,rfl,hq1,hqs⟩:=Zb.1 hps;rw[Zn]at hqs;subst hqs;have hcell:w.heap[b]? = some (.cells #[p,q] t' (0,0)):=by
    rw[k2];congr 2;exact Z1l hcs2
   have hpp:p=.pointer none∨p=.pointer (some ⟨b,0,none⟩):=by
    split at q2
    ·exact .inl (Z6J.1 hp)
    ·rename_i j;obtain rfl:=Nat.eq_of_beq_eq_true q2;obtain⟨b2,h2,rfl⟩:=Z1x.1 hp;rw[k1]at h2;cases h2;exact .inr rfl
    ·cases q2
   have hvs':vs = #[.pointer (some ⟨b,0,none⟩)]:=Z1l hvs;subst hvs';refine Calls.mono (hcs w b p q hcell hpp) fun e w' he=>?_;obtain⟨rfl,hb,hsz,hoth,hnew⟩:=he;obtain⟨m1,m2,m3⟩:=hh.own id _ b ho k1;have hG:∀off,G b off=none:=k5;have hc1:ZI c1=true:=by
    have:=k4;simp only[List.all_cons,Bool.and_eq_true]at this;exact this.2.1
   have hmv:HR E w0 G0 D w' β G (ZK o.get [(id,some (.cells t' [.ptr id 0,c1]))]) :=
    hh.move (fun k=>k=b) id (.cells t' [.ptr id 0,c1]) (Ext.refl β G) (hh.below.trans ⟨hb.os,hb.tape,hb.output,hb.size,fun k hk=>hoth k (by omega)⟩)
     (fun k hk _=>hoth k hk) (fun _ _=>rfl) (by omega) (fun k hk=>by subst hk;exact⟨m1,m3⟩) (fun k i x hk hx hown=>by subst hk;exact hh.inj i id x _ k hx ho hown k1)
     (fun k hk off v hv=>by subst hk;rw[hG off]at hv;cases hv)
     ⟨b,#[.pointer (some ⟨b,0,none⟩),q],k1,hnew,Zb.2 ⟨_,_,rfl,Z1x.2 ⟨b,k1,rfl⟩,Zb.2 ⟨_,_,rfl,hq1,Zn.2 rfl⟩⟩,by simp only[List.all_cons,hc1,List.all_nil];rfl,hG⟩
     (fun k hk=>.inr ⟨_,ho,hk⟩) (fun k hk=>by have:β.blk id=some k:=hk;rw[k1]at this;cases this;omega) (fun _ _=>⟨rfl,fun _=>rfl⟩)
   have hget:∀i,(o.set id (some (.cells t' [.ptr id 0,c1]))).get i=ZK o.get [(id,some (.cells t' [.ptr id 0,c1]))] i:=fun i=>by
    rw[Tr.get_set,ZV]
   refine⟨.tuple #[],β,G,rfl,Nat.le_refl _,⟨Ext.refl β G,fun i _ hi=>?_⟩,hmv.eq hget,fun i hi=>?_,YN.2 ⟨[],rfl,Zn.2 rfl⟩⟩
   ·have hne:i≠id:=fun q=>by rw[q,ho]at hi;cases hi
    exact⟨by rw[hget,ZV,if_neg hne];exact hi,rfl,fun _=>rfl⟩
   ·have hf:=hfr i hi;have hne:i≠id:=fun q=>by have:=hf.h;rw[q,ho]at this;cases this
    exact⟨hf.blk,hf.hdr,by rw[hget,ZV,if_neg hne];exact hf.h⟩
  ·cases hd
 ·cases hd
theorem ZfW (hFn:Z7D P E) {run:Yj} (hr:YY P E run):YY P E (fun g as o nx=>Z6U E g run g as o nx):=fun g as o nx r o' nx' hd=>by
 simp only[Z6U]at hd;cases hL:E.leaf g with
 | some L=>rw[hL]at hd;exact ZfB hFn hL hd
 | none =>
  rw[hL]at hd;cases hc:E.cc g with
  | some t=>rw[hc]at hd;exact Zht hFn hc hd
  | none=>rw[hc]at hd;exact hr g as o nx r o' nx' hd
theorem Zgq (hE:∀t ti,E.ty t=some ti→ZX P t ti) (hFn:Z7D P E) (hmix:P.follows .mixedOrders=true) {n:Nat} (hH:YY P E (evX E n false)) (hY:Z1g P E (evX E n true)):YY P E (evX E (n+1) false) :=
 ZfW hFn (Zfo (ZfO (n:=n) hE hFn hmix (Z4g hH) hH hY))
def ZfP (E:Env) (call:Nat→List DV→Option DV) (callH callY:Yj) (n:Nat):Yj:=fun l args objs next=>(match objs.get l with
  | some (.loop fid base ps assign body bid .normal)=>(E.fn fid).bind fun F=>(YX F.vmask F.nt ps args base).bind fun b =>
    let run:=evC E (some l) fid F call callH callY n bid
    (run assign ⟨b,objs,next⟩).bind fun r=>(match r.1,r.2.objs.get l with
    | .normal,some (.loop fid2 base2 ps2 assign2 body2 bid2 .normal)=>(run body { r.2 with objs:=r.2.objs.set l (some (.loop fid2 base2 ps2 assign2 body2 bid2 .busy)) }).bind fun r=>(match r.1,r.2.objs.get l with
     | .busy,_=>none
     | ex,some (.loop fid3 base3 ps3 assign3 body3 bid3 .busy)=>some (.bool (match ex with | .normal=>true|_=>false),r.2.objs.set l (some (.loop fid3 base3 ps3 assign3 body3 bid3 ex)),r.2.next)
     | _,_=>none)
    | _,_=>none)
  | _=>none)
theorem ZdU (hE:∀t ti,E.ty t=some ti→ZX P t ti) (hmix:P.follows .mixedOrders=true) {n:Nat} {call:Nat→List DV→Option DV} {callH callY:Yj} (hp:Z37 P E call) (hH:YY P E callH) (hY:Z1g P E callY):Z1g P E (ZfP E call callH callY n) :=
 fun l as objs nx r objs' nx' hd w0 G0 D w β G vs b hb hh hfr hrep=>by
  unfold ZfP at hd;split at hd
  ·rename_i fid base ps assign body bid hob;obtain⟨F,hF,hd⟩:=Z0 hd;obtain⟨b1,hset,hd⟩:=Z0 hd;obtain⟨⟨ex1,s1⟩,hc1,hd⟩:=Z0 hd;obtain⟨b',tm,df,fn,F',k1,k2,k3,k4,k5,k6⟩:=hh.obj l _ hob;rw[hb]at k1;cases k1;rw[hF]at k4;cases k4;obtain⟨m1,m2,m3,m4⟩:=Z4v ps as base b1 vs.toList tm hset hrep k3 k5 k6;have hsz:vs.size=ps.toArray.size:=by simpa using m1.symm
   have hfold:(ps.toArray.zip vs).foldl (fun tmps (t,a)=>tmps.setIfInBounds t a) tm=(ps.zip vs.toList).foldl (fun tmps (t,a)=>tmps.setIfInBounds t a) tm:=by
    rw[←Array.foldl_toList];simp
   refine⟨fn,_,assign,body,run_yield k2 hsz,fun n=>?_⟩;refine roundIn_of_wpIn trivial ?_;simp only;rw[hfold];have hm:SS E w0 G0 D F.vmask F.nt [] ⟨b1,objs,nx⟩ { tmps:=(ps.zip vs.toList).foldl (fun tmps (t,a)=>tmps.setIfInBounds t a) tm,defers:=[] } w β G :=
    ⟨m2,m4,m3,by rw[Z7m];exact hh,hfr,Z84.nil,List.nodup_nil,by simp⟩
   refine Z75 (ro:=some b) (rnd:=some l) hE hmix hp hH hY hF _ assign bid _ ex1 s1 hc1 [] _ w β G _ ⟨b,rfl,hb⟩ hm fun own1 a1 w1 β1 G1 q1 q2 q3=>?_;split at hd
   ·rename_i fid2 bs2 ps2 as2 bo2 bid2 hex1 hob2;replace hex1:ex1=.normal:=hex1;replace hob2:s1.objs.get l=some (.loop fid2 bs2 ps2 as2 bo2 bid2 .normal):=hob2;subst hex1;obtain⟨⟨ex2,s2⟩,hc2,hd⟩:=Z0 hd;have hb1:β1.blk l=some b:=q3.ext.blk _ _ hb;obtain⟨b'',tm2,df2,fn2,F2,j1,j2,j3⟩:=q2.hr.obj l _ hob2;rw[hb1]at j1;cases j1;have hst1:∀id,Z15 β1 β1 s1.objs.get (s1.objs.set l (some (.loop fid2 bs2 ps2 as2 bo2 bid2 .busy))).get id:=fun id hf=>⟨by
     rw[Tr.get_set]
     by_cases e:id=l
     ·subst e;rw[hf]at hob2;cases hob2
     ·rw[if_neg e];exact hf,rfl,fun _=>rfl⟩
    have hh2:HR E w0 G0 (YR own1 D) (w1.putObj b (.loop { state:=.busy,pending:=YV .normal,fn:=fn2,tmps:=tm2,params:=ps2.toArray,assign:=as2,body:=bo2,defers:=df2 })) β1 G1 (s1.objs.set l (some (.loop fid2 bs2 ps2 as2 bo2 bid2 .busy))).get:=by
     refine(Z55 (o':=.loop fid2 bs2 ps2 as2 bo2 bid2 .busy) (ob':=.loop { state:=.busy,pending:=YV .normal,fn:=fn2,tmps:=tm2,params:=ps2.toArray,assign:=as2,body:=bo2,defers:=df2 }) q2.hr hob2 hb1 j2 (by simp) (fun x hx=>?_) ?_).eq fun i=>by rw[Tr.get_set,ZV]
     ·simp only[Yv]at hx;rw[hb1]at hx;cases hx;rfl
     ·exact⟨b,tm2,df2,fn2,F2,hb1,by rw[World.putObj_heap_same (Array.getElem?_eq_some_iff.1 j2).1];simp[YV],j3⟩
    refine⟨_,run_beginRound j2 rfl,?_⟩;refine Z75 (ro:=some b) (rnd:=some l) hE hmix hp hH hY hF _ body bid { s1 with objs:=s1.objs.set l (some (.loop fid2 bs2 ps2 as2 bo2 bid2 .busy)) } ex2 s2 hc2 own1 a1 _ β1 G1 _ ⟨b,rfl,hb1⟩
     ⟨q2.fr,q2.dom,q2.sz,hh2,fun id hid=>(hst1 id).fresh (q2.fresh id hid),q2.df⟩ fun own3 a3 w3 β3 G3 p1 p2 p3=>?_
    have hfin:ex2≠.busy∧∃fid3 bs3 ps3 as3 bo3 bid3,s2.objs.get l=some (.loop fid3 bs3 ps3 as3 bo3 bid3 .busy)∧r=.bool (YV ex2).isNone∧objs'=s2.objs.set l (some (.loop fid3 bs3 ps3 as3 bo3 bid3 ex2))∧nx'=s2.next:=by
     split at hd
     ·cases hd
     ·rename_i hl3 hne;cases hd;have hne':ex2≠.busy:=fun e=>hne e;refine⟨hne',_,_,_,_,_,_,hl3,?_,rfl,rfl⟩;clear hc2 hl3;cases ex2<;>first|rfl|exact absurd rfl hne'
     ·cases hd
    obtain⟨hnb,fid3,bs3,ps3,as3,bo3,bid3,hob3,rfl,rfl,rfl⟩:=hfin;have hb3:β3.blk l=some b:=p3.ext.blk _ _ hb1;obtain⟨b4,tm3,df3,fn3,F3,i1,i2,i3⟩:=p2.hr.obj l _ hob3;rw[hb3]at i1;cases i1;have hend:=run_endRound (P:=P) (YV ex2) i2;have hh4:HR E w0 G0 (YR own3 D) (w3.putObj b (.loop { state:=(if(YV ex2).isNone then .ready else .done),pending:=YV ex2,fn:=fn3,tmps:=tm3,params:=ps3.toArray,assign:=as3,body:=bo3,defers:=df3 })) β3 G3 (s2.objs.set l (some (.loop fid3 bs3 ps3 as3 bo3 bid3 ex2))).get:=by
     refine(Z55 (o':=.loop fid3 bs3 ps3 as3 bo3 bid3 ex2) (ob':=.loop { state:=(if(YV ex2).isNone then .ready else .done),pending:=YV ex2,fn:=fn3,tmps:=tm3,params:=ps3.toArray,assign:=as3,body:=bo3,defers:=df3 }) p2.hr hob3 hb3 i2 (by simp) (fun x hx=>?_) ?_).eq fun i=>by rw[Tr.get_set,ZV]
     ·simp only[Yv]at hx;rw[hb3]at hx;cases hx;rfl
     ·refine⟨b,tm3,df3,fn3,F3,hb3,?_,i3⟩;rw[World.putObj_heap_same (Array.getElem?_eq_some_iff.1 i2).1];cases ex2<;>simp[YV]at hnb⊢
    have hst3:∀id,Z15 β3 β3 s2.objs.get (s2.objs.set l (some (.loop fid3 bs3 ps3 as3 bo3 bid3 ex2))).get id:=fun id hf=>⟨by
     rw[Tr.get_set]
     by_cases e:id=l
     ·subst e;rw[hf]at hob3;cases hob3
     ·rw[if_neg e];exact hf,rfl,fun _=>rfl⟩
    have hpost:Z1p E w0 G0 D β G objs nx (.bool (YV ex2).isNone) (s2.objs.set l (some (.loop fid3 bs3 ps3 as3 bo3 bid3 ex2))) s2.next (.returned (.bool (YV ex2).isNone)) (w3.putObj b (.loop { state:=(if(YV ex2).isNone then .ready else .done),pending:=YV ex2,fn:=fn3,tmps:=tm3,params:=ps3.toArray,assign:=as3,body:=bo3,defers:=df3 })):=by
     refine⟨_,β3,G3,rfl,Nat.le_trans q1 p1,q3.trans ⟨p3.ext,fun id hid=>((hst1 id).trans (p3.keep id (Nat.lt_of_lt_of_le hid q1))).trans (hst3 id)⟩,hh4.lessD (fun d x hd=>?_),fun id hid=>(hst3 id).fresh (p2.fresh id hid),ZM.2 ?_⟩
     ·unfold YR;rw[if_neg (fun hm=>by rw[p2.df.2.2 d hm]at hd;cases hd)]
      exact hd
     rfl
    cases ex2 with
    | normal=>exact⟨_,_,hend,hpost⟩
    | exit i=>exact⟨_,_,hend,hpost⟩
    | ret=>exact⟨_,_,hend,hpost⟩
    | busy=>exact absurd rfl hnb
   ·cases hd
  ·cases hd
theorem Zfw (hE:∀t ti,E.ty t=some ti→ZX P t ti) (hmix:P.follows .mixedOrders=true) {n:Nat} (hH:YY P E (evX E n false)) (hY:Z1g P E (evX E n true)):Z1g P E (evX E (n+1) true) :=
 ZdU (n:=n) hE hmix (Z4g hH) hH hY
def ZaN (E:Env) (call:Nat→List DV→Option DV):Nat→Bool→Yj
 | 0,_=>fun _ _ _ _=>none
 | n+1,false=>fun g as o nx=>Z6U E g (Z45 E (Z9O E call (ZaN E call n false) (ZaN E call n true) n)) g as o nx
 | n+1,true=>ZfP E call (ZaN E call n false) (ZaN E call n true) n
theorem Z9Z (hE:∀t ti,E.ty t=some ti→ZX P t ti) (hFn:Z7D P E) (hmix:P.follows .mixedOrders=true):∀n,YY P E (evX E n false)∧Z1g P E (evX E n true)
 | 0=>⟨fun _ _ _ _ _ _ _ h=>by simp[evX]at h,fun _ _ _ _ _ _ _ h=>by simp[evX]at h⟩
 | n+1 =>
  have ih:=Z9Z hE hFn hmix n
  ⟨Zgq hE hFn hmix ih.1 ih.2,Zfw hE hmix ih.1 ih.2⟩
theorem Zj7 (hE:∀t ti,E.ty t=some ti→ZX P t ti) (hFn:Z7D P E) (hmix:P.follows .mixedOrders=true) {n f:Nat} {as:List DV} {d:DV} (hd:evF E n f as=some d)
  {w:World} {β:Bi} {G:Gh} {vs:Array Value} (hiv:E.inv w) (hag:∀b o v,G b o=some v→w.cell? ⟨b,o,none⟩=some v) (hrep:Zi β G as vs.toList) (hid:Zc as=true) :
  Calls P f vs w fun e w'=>∃v G',e=.returned v∧Below w.heap.size w w'∧(∀b,b<w.heap.size→G' b=G b)∧(∀b o v,G' b o=some v→w'.cell? ⟨b,o,none⟩=some v)∧Zh d=true∧Rep β G' d v :=
 ((Z4g (Z9Z hE hFn hmix n).1) f as d hd).2 w β G vs hiv hag hrep hid
mutual
def Z2S:DV→DV→Bool
 | .bool a,.bool b=>a==b
 | .int k a,.int k' b=>k==k'&&a==b
 | .str a,.str b=>a.data.toList==b.data.toList
 | .nils,.nils=>true
 | .nilp,.nilp=>true
 | .sl a,.sl b=>ZbM a b
 | .agg a,.agg b=>Z7H a b
 | _,_=>false
def Z7H:List DV→List DV→Bool
 | [],[]=>true
 | a::as,b::bs=>Z2S a b&&Z7H as bs
 | _,_=>false
def ZbM:List (List DV)→List (List DV)→Bool
 | [],[]=>true
 | a::as,b::bs=>Z7H a b&&ZbM as bs
 | _,_=>false
end
mutual
theorem Zhy:∀(a b:DV),Z2S a b=true→a=b
 | .bool a,b,h=>by cases b<;>simp[Z2S]at h;rw[h]
 | .int k a,b,h=>by cases b<;>simp[Z2S]at h;rw[h.1,h.2]
 | .str a,b,h=>by
  cases b<;>simp[Z2S]at h;rename_i b;cases a;cases b;simp only at h;rw[h]
 | .nils,b,h=>by cases b<;>simp[Z2S]at h;rfl
 | .nilp,b,h=>by cases b<;>simp[Z2S]at h;rfl
 | .sl a,b,h=>by
  cases b<;>simp[Z2S]at h;rw[ZbN _ _ h]
 | .agg a,b,h=>by
  cases b<;>simp[Z2S]at h;rw[Z6j _ _ h]
 | .ptr _ _,b,h=>by simp[Z2S]at h
 | .rptr _ _ _ _ _,b,h=>by simp[Z2S]at h
 | .pub _,b,h=>by simp[Z2S]at h
 | .rs _ _,b,h=>by simp[Z2S]at h
 | .rv _ _ _ _ _,b,h=>by simp[Z2S]at h
 | .slen _,b,h=>by simp[Z2S]at h
 | .tup _,b,h=>by simp[Z2S]at h
 | .fn _ _ _,b,h=>by simp[Z2S]at h
 | .nilfn,b,h=>by simp[Z2S]at h
 | .map _,b,h=>by simp[Z2S]at h
 | .nilmap,b,h=>by simp[Z2S]at h
 | .iface _ _,b,h=>by simp[Z2S]at h
 | .nilif,b,h=>by simp[Z2S]at h
 | .iter _,b,h=>by simp[Z2S]at h
 | .yld _,b,h=>by simp[Z2S]at h
theorem Z6j:∀(a b:List DV),Z7H a b=true→a=b
 | [],b,h=>by cases b<;>simp[Z7H]at h;rfl
 | a::as,b,h=>by
  cases b<;>simp[Z7H]at h;rw[Zhy _ _ h.1,Z6j _ _ h.2]
theorem ZbN:∀(a b:List (List DV)),ZbM a b=true→a=b
 | [],b,h=>by cases b<;>simp[ZbM]at h;rfl
 | a::as,b,h=>by
  cases b<;>simp[ZbM]at h;rw[Z6j _ _ h.1,ZbN _ _ h.2]
end
def ZgJ:List (Nat×List DV×DV)→Nat→List DV→Option DV
 | [],_,_=>none
 | (f,xs,d)::l,g,as=>bif Nat.beq f g&&Z7H xs as then some d else ZgJ l g as
def Zhc (E:Env) (l:List (Nat×List DV×DV)) (n:Nat) (g:Nat) (as:List DV):Option DV:=bif l.any fun e=>Nat.beq e.1 g then ZgJ l g as else evF E n g as
def Zjq (E:Env) (l:List (Nat×List DV×DV)) (n f:Nat) (as:List DV):Option DV:=ZeY (ZaN E (Zhc E l n) n false) f as
end
end Go.Ab
namespace Go.Ab
open Go.RowKit
mutual
def Z23 (P:Program):Nat→TypeId→List DV→Bool
 | 0,_,_=>false
 | d+1,t,zs=>(match P.underlying t,zs with
  | some .bool,[.bool _]=>true
  | some (.int k),[.int k' _]=>k==k'
  | some .string,[.str _]=>true
  | some (.struct fs),zs => !P.stoodInHeld t&&Z2d P d fs.toList 0 zs
  | some (.array n e),zs=>(match P.info? e with
   | some i=>Nat.beq zs.length (n*i.size)&&(List.range n).all fun j=>Z23 P d e ((zs.drop (j*i.size)).take i.size)
   | none=>false)
  | _,_=>false)
def Z2d (P:Program):Nat→List Field→Nat→List DV→Bool
 | _,[],off,zs=>Nat.ble zs.length off
 | 0,_::_,_,_=>false
 | d + 1, f :: fs, off, zs => f.name != "_" && Nat.beq f.offset off && (match P.info? f.type with
  | some i=>Nat.ble (off+i.size) zs.length&&Z23 P d f.type ((zs.drop off).take i.size)&&Z2d P d fs (off+i.size) zs
  | none=>false)
end
theorem Y5:∀{zs xs:List DV},Zg zs xs=true→xs.length=zs.length
 | [],[],_=>rfl
 | z::zs,x::xs,h=>by
  cases z<;>cases x<;>simp only[Zg,Bool.false_eq_true,Bool.and_eq_true]at h
  ·simp[Y5 h]
  ·simp[Y5 h.2]
  ·simp[Y5 h]
 | [],x::xs,h=>by simp[Zg]at h
 | z::zs,[],h=>by cases z<;>simp[Zg]at h
theorem Yo:∀(k:Nat) {zs xs:List DV},Zg zs xs=true→Zg (zs.take k) (xs.take k)=true∧Zg (zs.drop k) (xs.drop k)=true
 | 0,zs,xs,h=>⟨by simp[Zg],by simpa using h⟩
 | k+1,[],[],_=>⟨by simp[Zg],by simp[Zg]⟩
 | k+1,z::zs,x::xs,h=>by
  cases z<;>cases x<;>simp only[Zg,Bool.false_eq_true,Bool.and_eq_true]at h
  ·obtain⟨h1,h2⟩:=Yo k h;exact⟨by simpa[Zg]using h1,by simpa using h2⟩
  ·obtain⟨h1,h2⟩:=Yo k h.2;exact⟨by simpa[Zg]using ⟨by simpa using h.1,h1⟩,by simpa using h2⟩
  ·obtain⟨h1,h2⟩:=Yo k h;exact⟨by simpa[Zg]using h1,by simpa using h2⟩
 | k+1,[],x::xs,h=>by simp[Zg]at h
 | k+1,z::zs,[],h=>by cases z<;>simp[Zg]at h
def Z14 (P:Program) (t:TypeId) (vs:List Value):Value:=match P.underlying t with
 | some (.struct _)=>.agg vs.toArray
 | some (.array _ _)=>.agg vs.toArray
 | _=>vs.headD undef
section
variable {P:Program} {β:Bi} {G:Gh}
theorem Z1r:∀(k:Nat) {xs ys:List DV} {r:Bool},Zl xs ys=some r→∃r1 r2,Zl (xs.take k) (ys.take k)=some r1∧Zl (xs.drop k) (ys.drop k)=some r2∧r=(r1&&r2)
 | 0,xs,ys,r,h=>⟨true,r,by simp[Zl],by simpa using h,by simp⟩
 | k+1,[],[],r,h=>⟨true,true,by simp[Zl],by simp[Zl],by simpa[Zl]using h.symm⟩
 | k+1,x::xs,[],r,h=>by cases x<;>simp[Zl]at h
 | k+1,[],y::ys,r,h=>by cases y<;>simp[Zl]at h
 | k+1,x::xs,y::ys,r,h=>by
  cases x<;>cases y<;>simp only[Zl,reduceCtorEq]at h
  ·rename_i a b;obtain⟨q,h1,h2⟩:=Z0 h;cases h2;obtain⟨r1,r2,k1,k2,rfl⟩:=Z1r k h1;exact⟨(a==b&&r1),r2,by simp[Zl,k1],by simpa using k2,by rw[Bool.and_assoc]⟩
  ·rename_i ka a kb b;obtain⟨hq,h⟩:=Z3 h;obtain⟨q,h1,h2⟩:=Z0 h;cases h2;obtain⟨r1,r2,k1,k2,rfl⟩:=Z1r k h1;exact⟨(a==b&&r1),r2,by simp[Zl,k1,hq],by simpa using k2,by rw[Bool.and_assoc]⟩
  ·rename_i a b;obtain⟨q,h1,h2⟩:=Z0 h;cases h2;obtain⟨r1,r2,k1,k2,rfl⟩:=Z1r k h1;exact⟨(a==b&&r1),r2,by simp[Zl,k1],by simpa using k2,by rw[Bool.and_assoc]⟩
theorem Z4S {d:Nat} {t:TypeId} {i:TypeInfo} (hi:P.info? t=some i) {zs:List DV} (hzl:zs.length=i.size) (hf:Z23 P d t zs=true) {vs:List Value} {off:Nat} (hle:off+i.size≤vs.length) (w:World) :
  (part t vs.toArray off).run P w=.ok (Z14 P t ((vs.drop off).take i.size)) w:=by
 cases d with
 | zero=>simp[Z23]at hf
 | succ d =>
  have hsz:(sizeOf t).run P w=.ok i.size w:=by simp[sizeOf,typeInfo,hi]
  simp only[Z23]at hf;have plain:∀dd,P.underlying t=some dd→(match dd with | .struct _ | .array _ _=>true|_=>false)=false→i.size=1→(part t vs.toArray off).run P w=.ok (Z14 P t ((vs.drop off).take i.size)) w:=fun dd hdd hna h1=>by
   have hag:(isAgg t).run P w=.ok false w:=by
    unfold isAgg;rw[Sem.run_bind,Go.run_underlying hdd w];cases dd<;>first|rfl|(simp at hna)
   have hlt:off<vs.length:=by omega
   have hv:Z14 P t ((vs.drop off).take i.size)=vs[off]:=by
    unfold Z14;rw[hdd,h1,List.drop_eq_getElem_cons hlt];cases dd<;>first|rfl|(simp at hna)
   unfold part;rw[Sem.run_bind,hag,hv];simp[Result.andThen,hlt]
  cases hu:P.underlying t with
  | none=>rw[hu]at hf;cases hf
  | some dd =>
   rw[hu]at hf;cases dd with
   | bool =>
    split at hf<;>first|(rename_i e _;exact plain _ hu rfl (by rw[←hzl];rfl))|cases hf|simp_all
   | int k =>
    split at hf<;>first|(rename_i e _;exact plain _ hu rfl (by rw[←hzl];rfl))|cases hf|simp_all
   | string =>
    split at hf<;>first|(rename_i e _;exact plain _ hu rfl (by rw[←hzl];rfl))|cases hf|simp_all
   | struct fs =>
    have hag:(isAgg t).run P w=.ok true w:=by unfold isAgg;rw[Sem.run_bind,Go.run_underlying hu w];rfl
    unfold part Z14;rw[Sem.run_bind,hag,hu];simp[Result.andThen,hsz]
   | array n e =>
    have hag:(isAgg t).run P w=.ok true w:=by unfold isAgg;rw[Sem.run_bind,Go.run_underlying hu w];rfl
    unfold part Z14;rw[Sem.run_bind,hag,hu];simp[Result.andThen,hsz]
   | _=>simp at hf
theorem Zek:∀(fuel:Nat),
  (∀(t:TypeId) (zs:List DV),Z23 P fuel t zs=true→∀D,fuel≤D→∀(xs ys:List DV) (r:Bool) (vx vy:List Value) (w:World),Zl xs ys=some r→Zg zs xs=true→Zg zs ys=true→Zi β G xs vx→Zi β G ys vy →
   (Op.equalIn D t (Z14 P t vx) (Z14 P t vy)).run P w=.ok r w) ∧
  (∀(fs:List Field) (off:Nat) (zs:List DV),Z2d P fuel fs off zs=true→∀D,fuel≤D→∀(xs ys:List DV) (r:Bool) (vx vy:List Value) (w:World),Zl (xs.drop off) (ys.drop off)=some r→Zg zs xs=true→Zg zs ys=true→Zi β G xs vx→Zi β G ys vy →
   (Op.eqFields D vx.toArray vy.toArray fs).run P w=.ok r w)
 | 0=>by
  refine⟨fun t n h=>by simp[Z23]at h,fun fs off zs h D _ xs ys r vx vy w he hx hy hrx hry=>?_⟩
  cases fs with
  | cons f fs=>simp[Z2d]at h
  | nil =>
   simp only[Z2d]at h;have:=Nat.le_of_ble_eq_true h;rw[List.drop_eq_nil_of_le (by rw[Y5 hx];exact this),List.drop_eq_nil_of_le (by rw[Y5 hy];exact this)]at he
   simp only[Zl,Option.some.injEq]at he;subst he;rfl
 | fuel+1=>by
  obtain⟨ih1,ih2⟩:=Zek fuel;refine⟨fun t zs h D hD xs ys r vx vy w he hx hy hrx hry=>?_,fun fs off zs h D hD xs ys r vx vy w he hx hy hrx hry=>?_⟩
  ·obtain⟨D,rfl⟩:∃D',D=D'+1:=⟨D-1,by omega⟩
   simp only[Z23]at h;have one:∀{zs:List DV} {vz:List Value},zs.length=1→Zi β G zs vz→∃z v,zs=[z]∧vz=[v]∧Rep β G z v:=fun {zs vz} hz hr=>by
    obtain⟨z,rfl⟩:=List.length_eq_one_iff.1 hz;obtain⟨v,vs',rfl,h1,h2⟩:=Zb.1 hr;rw[Zn]at h2;subst h2;exact⟨z,v,rfl,rfl,h1⟩
   split at h
   ·rename_i hu;obtain⟨x,u,rfl,rfl,h1⟩:=one (Y5 hx) hrx;obtain⟨y,v,rfl,rfl,h2⟩:=one (Y5 hy) hry;have hv:∀v:Value,Z14 P t [v]=v:=fun v=>by unfold Z14;rw[hu];rfl
    rw[hv,hv];cases x<;>simp only[Zg,Bool.false_eq_true]at hx;cases y<;>simp only[Zg,Bool.false_eq_true]at hy;simp only[Zl,Option.bind_some,Bool.and_true,Option.some.injEq]at he;rw[ZM]at h1 h2;subst h1 h2 he;simp[Op.equalIn,Go.run_underlying hu]
   ·rename_i hu;obtain⟨x,u,rfl,rfl,h1⟩:=one (Y5 hx) hrx;obtain⟨y,v,rfl,rfl,h2⟩:=one (Y5 hy) hry;have hv:∀v:Value,Z14 P t [v]=v:=fun v=>by unfold Z14;rw[hu];rfl
    rw[hv,hv];cases x<;>simp only[Zg,Bool.false_eq_true]at hx;cases y<;>simp only[Zg,Bool.false_eq_true]at hy;simp only[Zl,Option.bind_some,Bool.and_true]at he;obtain⟨hq,he⟩:=Z3 he;have hq:=eq_of_beq hq;simp only[Option.some.injEq]at he;rw[ZH]at h1 h2;subst h1 h2 he hq;simp[Op.equalIn,Go.run_underlying hu]
   ·rename_i hu;obtain⟨x,u,rfl,rfl,h1⟩:=one (Y5 hx) hrx;obtain⟨y,v,rfl,rfl,h2⟩:=one (Y5 hy) hry;have hv:∀v:Value,Z14 P t [v]=v:=fun v=>by unfold Z14;rw[hu];rfl
    rw[hv,hv];cases x<;>simp only[Zg,Bool.false_eq_true]at hx;cases y<;>simp only[Zg,Bool.false_eq_true]at hy;simp only[Zl,Option.bind_some,Bool.and_true,Option.some.injEq]at he;rw[Y9]at h1 h2;subst h1 h2 he;simp[Op.equalIn,Go.run_underlying hu]
   ·rename_i _ fs hu;simp only[Bool.and_eq_true,Bool.not_eq_true']at h;have hfs:P.fieldsOf t=fs:=by unfold Program.fieldsOf;rw[hu]
    have hv:∀vs,Z14 P t vs=.agg vs.toArray:=fun vs=>by unfold Z14;rw[hu]
    rw[hv,hv,run_equalIn_struct w D t _ _ (by rw[hfs];exact hu) h.1,hfs]
    exact ih2 fs.toList 0 _ h.2 D (by omega) xs ys r vx vy w (by simpa using he) hx hy hrx hry
   ·rename_i m e hu;split at h
    ·rename_i i hi;rw[Bool.and_eq_true]at h;obtain⟨hlen,hall⟩:=h;have hlen:=Nat.eq_of_beq_eq_true hlen;have hv:∀vs,Z14 P t vs=.agg vs.toArray:=fun vs=>by unfold Z14;rw[hu]
     have hcel:P.cellsOf e=i.size:=by simp[Program.cellsOf,hi]
     rw[hv,hv,run_equalIn_array (w:=w) D _ _ hu hi,hcel,List.range_eq_range'];have hkx:=Y5 hx;have hky:=Y5 hy;have hlx:=ZQ hrx;have hly:=ZQ hry;have items:∀(c k:Nat) (r:Bool) (w:World),k+c=m→Zl (xs.drop (k*i.size)) (ys.drop (k*i.size))=some r→(Op.eqItems D e i.size vx.toArray vy.toArray (List.range' k c)).run P w=.ok r w:=by
      intro c
      induction c with
      | zero =>
       intro k r w hk he;have:k=m:=by omega
       subst this;rw[List.drop_eq_nil_of_le (by omega),List.drop_eq_nil_of_le (by omega)]at he
       simp only[Zl,Option.some.injEq]at he;subst he;rfl
      | succ c ihc =>
       intro k r w hk he;obtain⟨r1,r2,e1,e2,rfl⟩:=Z1r i.size he;have hf1:=(List.all_eq_true.1 hall) k (List.mem_range.2 (by omega))
       have hkm:k*i.size+i.size≤m*i.size:=by
        have:=Nat.mul_le_mul_right i.size (show k+1≤m by omega)
        rwa [Nat.add_mul,Nat.one_mul]at this
       have g1:=ih1 e _ hf1 D (by omega) _ _ r1 _ _ w e1 (Yo i.size (Yo (k*i.size) hx).2).1 (Yo i.size (Yo (k*i.size) hy).2).1 (YB i.size (YA (k*i.size) hrx)) (YB i.size (YA (k*i.size) hry))
       rw[List.drop_drop,List.drop_drop,show k*i.size+i.size=(k+1)*i.size by rw[Nat.add_mul,Nat.one_mul]]at e2
       have g2:=ihc (k+1) r2 w (by omega) e2
       have p1:=Z4S hi (by simp;omega) hf1 (vs:=vx) (off:=k*i.size) (by omega) w
       have p2:=Z4S hi (by simp;omega) hf1 (vs:=vy) (off:=k*i.size) (by omega) w
       rw[List.range'_succ];simp only[Op.eqItems,Sem.run_bind,p1,p2,Result.andThen,g1];cases r1
       ·simp
       ·simpa using g2
     exact items m 0 r w (by omega) (by simpa using he)
    ·cases h
   ·cases h
  ·cases fs with
   | nil =>
    simp only[Z2d]at h;have:=Nat.le_of_ble_eq_true h;rw[List.drop_eq_nil_of_le (by rw[Y5 hx];exact this),List.drop_eq_nil_of_le (by rw[Y5 hy];exact this)]at he
    simp only[Zl,Option.some.injEq]at he;subst he;rfl
   | cons f fs =>
    simp only[Z2d,Bool.and_eq_true,bne_iff_ne,ne_eq]at h;obtain⟨⟨hname,hoff⟩,h⟩:=h;have hoff:f.offset=off:=Nat.eq_of_beq_eq_true hoff;split at h
    ·rename_i i hi;rw[Bool.and_eq_true,Bool.and_eq_true]at h;obtain⟨⟨hle,hf1⟩,hf2⟩:=h;have hle:=Nat.le_of_ble_eq_true hle;have hlx:=ZQ hrx;have hly:=ZQ hry;have hkx:=Y5 hx;have hky:=Y5 hy;obtain⟨r1,r2,e1,e2,rfl⟩:=Z1r i.size he;have g1:=ih1 f.type _ hf1 D (by omega) _ _ r1 _ _ w e1 (Yo i.size (Yo off hx).2).1 (Yo i.size (Yo off hy).2).1 (YB i.size (YA off hrx)) (YB i.size (YA off hry))
     rw[List.drop_drop,List.drop_drop]at e2;have g2:=ih2 fs (off+i.size) zs hf2 D (by omega) xs ys r2 vx vy w e2 hx hy hrx hry
     have hzl:((zs.drop off).take i.size).length=i.size:=by simp;omega
     have p1:=Z4S hi hzl hf1 (vs:=vx) (off:=off) (by omega) w
     have p2:=Z4S hi hzl hf1 (vs:=vy) (off:=off) (by omega) w
     simp only[Op.eqFields,if_pos hname,hoff,Sem.run_bind,p1,p2,Result.andThen,g1];cases r1
     ·simp
     ·simpa using g2
    ·cases h
def Za8 (P:Program):Nat→TypeId→Bool
 | 0,_=>false
 | d+1,t=>match P.underlying t with
  | some .bool|some (.int _)|some .string=>true
  | some (.struct fs)=>fs.toList.all fun f=>Za8 P d f.type
  | _=>false
theorem Zcg (b:Bool):∀(n:Nat) (t:TypeId),Za8 P n t=true→∀(fuel:Nat) (zs:List DV),Z23 P fuel t zs=true→∀(d:Nat) (xs:List DV) (vx:List Value) (w:World),Zg zs xs=true→Zi β G xs vx →
  (Instr.checkKey b (d+n) t (Z14 P t vx)).run P w=.ok () w
 | 0,_,h=>by simp[Za8]at h
 | n+1,t,h=>fun fuel zs hf d xs vx w hk hr=>by
  cases fuel with
  | zero=>simp[Z23]at hf
  | succ fuel =>
  unfold Za8 at h;simp only[Z23]at hf;rw[show d+(n+1)=(d+n)+1 from rfl];have one:∀{zs:List DV},zs.length=1→Zg zs xs=true→∃x v,xs=[x]∧vx=[v]∧Rep β G x v:=fun {zs} hz hk=>by
   have hl:=Y5 hk;rw[hz]at hl;obtain⟨x,rfl⟩:=List.length_eq_one_iff.1 hl;obtain⟨v,vs',rfl,h1,h2⟩:=Zb.1 hr;rw[Zn]at h2;subst h2;exact⟨x,v,rfl,rfl,h1⟩
  cases hu:P.underlying t with
  | none=>rw[hu]at h;cases h
  | some dd =>
   rw[hu]at h hf;cases dd with
   | bool=>exact Z1C hu trivial _
   | int k=>exact Z1C hu trivial _
   | string=>exact Z1C hu trivial _
   | struct fs =>
    simp only[Bool.and_eq_true,Bool.not_eq_true',List.all_eq_true]at hf h;have hv:Z14 P t vx=.agg vx.toArray:=by unfold Z14;rw[hu]
    rw[hv,Instr.checkKey];simp only[Sem.run_bind,run_underlying hu,Result.andThen_ok];rw[←Array.forIn_toList];have main:∀(L:List Field) (fuel off:Nat),(∀f∈L,Za8 P n f.type=true)→Z2d P fuel L off zs=true →
      (forIn L PUnit.unit (fun f (_ : PUnit) => (if f.name ≠ "_" then do
       Instr.checkKey b (d+n) f.type (←part f.type vx.toArray f.offset)
       pure (ForInStep.yield PUnit.unit)else pure (ForInStep.yield PUnit.unit):Sem (ForInStep PUnit)))).run P w=.ok PUnit.unit w:=by
     intro L
     induction L with
     | nil=>intro fuel off _ _;rfl
     | cons f L ih =>
      intro fuel off hL hfl;cases fuel with
      | zero=>simp[Z2d]at hfl
      | succ fuel =>
       simp only[Z2d,Bool.and_eq_true,bne_iff_ne,ne_eq]at hfl;obtain⟨⟨hname,hoff⟩,hfl⟩:=hfl;have hoff:f.offset=off:=Nat.eq_of_beq_eq_true hoff;split at hfl
       ·rename_i i hi;rw[Bool.and_eq_true,Bool.and_eq_true]at hfl;obtain⟨⟨hle,hf1⟩,hf2⟩:=hfl;have hle:=Nat.le_of_ble_eq_true hle;have hlx:=ZQ hr;have hkx:=Y5 hk;have hzl:((zs.drop off).take i.size).length=i.size:=by simp;omega
        have p1:=Z4S hi hzl hf1 (vs:=vx) (off:=off) (by omega) w
        have p2:=Zcg b n f.type (hL f (by simp)) fuel _ hf1 d _ _ w (Yo i.size (Yo off hk).2).1 (YB i.size (YA off hr))
        simp only[List.forIn_cons,Sem.run_bind,hname,ne_eq,not_false_eq_true,if_true,Result.andThen_ok,hoff,p1,p2,Sem.run_pure];exact ih fuel (off+i.size) (fun g hg=>hL g (by simp[hg])) hf2
       ·cases hfl
    have hm:=main fs.toList fuel 0 h hf.2;simp only[ne_eq,ite_not]at hm⊢;simp at hm⊢;rw[hm];rfl
   | _=>cases h
end
end Go.Ab
namespace Go.Ab
open Go.RowKit
def Zij:DV→Value→Bool
 | .bool a,.bool b=>a==b
 | .int k a,.int k' b=>k==k'&&a==b
 | .str a,.string b=>a==b
 | .nilp,.pointer none=>true
 | .nils,.slice none 0 0=>true
 | .nilmap,.map none=>true
 | .nilfn,.nilFunc=>true
 | .nilif,.nilIface=>true
 | _,_=>false
def Zf5:List DV→List Value→Bool
 | [],[]=>true
 | d::ds,v::vs=>Zij d v&&Zf5 ds vs
 | _,_=>false
theorem Zcy {d:DV} {v:Value} (h:Zij d v=true):(∀β G,Rep β G d v)∧Zh d=true∧ZI d=true:=by
 unfold Zij at h;split at h
 ·have:=eq_of_beq h;subst this;exact⟨fun _ _=>ZM.2 rfl,rfl,rfl⟩
 ·rw[Bool.and_eq_true]at h;have h1:=eq_of_beq h.1;have h2:=eq_of_beq h.2;subst h1 h2;exact⟨fun _ _=>ZH.2 rfl,rfl,rfl⟩
 ·rename_i a b;rw[Z8v]at h;have:=of_decide_eq_true h;subst this;exact⟨fun _ _=>Y9.2 rfl,rfl,rfl⟩
 ·exact⟨fun _ _=>Z6J.2 rfl,rfl,rfl⟩
 ·exact⟨fun _ _=>Z1U.2 rfl,rfl,rfl⟩
 ·exact⟨fun _ _=>Z67.2 rfl,rfl,rfl⟩
 ·exact⟨fun _ _=>by unfold Rep;rfl,rfl,rfl⟩
 ·exact⟨fun _ _=>by unfold Rep;rfl,rfl,rfl⟩
 ·cases h
theorem Zai:∀{ds:List DV} {vs:List Value},Zf5 ds vs=true→(∀β G,Zi β G ds vs)∧Zc ds=true∧ds.all ZI=true
 | [],[],_=>⟨fun _ _=>Zn.2 rfl,rfl,rfl⟩
 | d::ds,v::vs,h=>by
  simp only[Zf5,Bool.and_eq_true]at h;obtain⟨h1,h2,h3⟩:=Zcy h.1;obtain⟨h4,h5,h6⟩:=Zai h.2;exact⟨fun β G=>Zb.2 ⟨v,vs,rfl,h1 β G,h4 β G⟩,by simp[Zc,h2,h5],by simp only[List.all_cons,h3,h6,Bool.and_self]⟩
 | [],_::_,h=>by cases h
 | _::_,[],h=>by cases h
def Zbc:List (Nat×Nat)→List (Nat×Nat)→Bool
 | [],[]=>true
 | (a,b)::l,(c,d)::m=>Nat.beq a c&&Nat.beq b d&&Zbc l m
 | _,_=>false
theorem Zac:∀{l m:List (Nat×Nat)},Zbc l m=true→l=m
 | [],[],_=>rfl
 | (a,b)::l,(c,d)::m,h=>by
  simp only[Zbc,Bool.and_eq_true]at h;have h1:=Nat.eq_of_beq_eq_true h.1.1;have h2:=Nat.eq_of_beq_eq_true h.1.2;have h3:=Zac h.2;subst h1 h2 h3;rfl
 | [],_::_,h=>by cases h
 | _::_,[],h=>by cases h
def Ziw (P:Program) (t:TypeId) (k:TK):Bool :=
 match k,P.underlying t with
 | .bool,some .bool=>true
 | .int k,some (.int k')=>k==k'
 | .string,some .string=>true
 | .struct fs,some (.struct fields)=>Zbc (fields.toList.map fun f=>(f.type,f.offset)) fs&&(fields.toList.mapM (fun f=>(P.info? f.type).map fun i=>(f.offset,i.size))).isSome
 | .array n e,some (.array n' e')=>Nat.beq n n'&&Nat.beq e e'
 | .slice e,some (.slice e')=>Nat.beq e e'
 | .map k e,some (.map k' e')=>Nat.beq k k'&&Nat.beq e e'
 | .ptr e,some (.pointer e')=>Nat.beq e e'
 | .func,some (.func _ _ _)=>true
 | .iface,some (.interface _)=>true
 | _,_=>false
def ZeR (P:Program) (t:TypeId) (m:String) (g:Nat):Bool:=match P.info? t with
 | some i=>(match i.methods.find? (·.name==m)with
  | some mt=>mt.path.isEmpty&&(match mt.func,P.underlying t with
   | some (f,pr),some (.pointer _)=>Nat.beq f g&&pr
   | some (f,pr),some _=>Nat.beq f g && !pr
   | _,_=>false)
  | none=>false)
 | none=>false
def Zb5 (P:Program) (t:TypeId):List (String×Nat)→Bool
 | []=>true
 | (m,g)::l=>ZeR P t m g&&Zb5 P t l
theorem ZgO {P:Program} {t:TypeId} {m:String} {g:Nat} (h:ZeR P t m g=true) (v:Value) (args:Array Value) (w:World):(callMethod (.iface t v) m args).run P w=(callFunc g (#[v]++args)).run P w:=by
 unfold ZeR at h;split at h
 ·rename_i i hi;split at h
  ·rename_i mt hm;simp only[Bool.and_eq_true]at h;obtain⟨hp,h⟩:=h;have hpath:mt.path.toList=[]:=by
    have:mt.path = #[]:=by simpa using hp
    rw[this]
   have hmeth:∀fuel,(method (fuel+1) t v m).run P w=.ok (g,v) w:=fun fuel=>by
    unfold method;rw[Sem.run_bind];have hti:(typeInfo t).run P w=.ok i w:=by simp[typeInfo,hi]
    rw[hti];simp only[Result.andThen_ok,hm];rw[hpath];simp only[follow,pure_bind];split at h
    ·rename_i f pr e hfn hu;simp only[Bool.and_eq_true]at h;have hg:=Nat.eq_of_beq_eq_true h.1;rw[hfn];simp only;rw[Sem.run_bind];unfold receiverAt;rw[Sem.run_bind,Go.run_underlying hu w];simp only[Result.andThen_ok,h.2,Place.get,Sem.run_pure,hg]
    ·rename_i f pr dd hne hfn hu;simp only[Bool.and_eq_true,Bool.not_eq_true']at h;have hg:=Nat.eq_of_beq_eq_true h.1;rw[hfn];simp only;rw[Sem.run_bind];unfold receiverAt;rw[Sem.run_bind,Go.run_underlying hu w];cases dd<;>first|(simp only[Result.andThen_ok,h.2,Place.get,Sem.run_pure,hg];done)|exact absurd rfl (hne _)
    ·cases h
   unfold callMethod;simp only;rw[Sem.run_bind,show(program).run P w=.ok P w from rfl];simp only[Result.andThen_ok];rw[Sem.run_bind,show P.types.size+Made.depth=(P.types.size+99)+1 from rfl,hmeth];rfl
  ·cases h
 ·cases h
theorem Za6 {P:Program} {t:TypeId}:∀{l:List (String×Nat)},Zb5 P t l=true→∀{m:String} {g:Nat},Z7g m l=some g→ZeR P t m g=true
 | [],_,_,_,h=>by cases h
 | (n,f)::l,hl,m,g,h=>by
  simp only[Zb5,Bool.and_eq_true]at hl;unfold Z7g at h;cases hq:(n==m)with
  | true =>
   rw[hq]at h;simp only[cond_true,Option.some.injEq]at h;have:=eq_of_beq hq;subst this h;exact hl.1
  | false=>rw[hq]at h;exact Za6 hl.2 h
def Zhh (P:Program) (t:TypeId) (ti:TI):Bool :=
 (match P.info? t with
  | some i=>Nat.beq i.size ti.size&&Nat.beq i.bytes ti.bytes&&(match i.zero with
   | some z=>Nat.beq z.cells.size ti.size&&Zf5 ti.zero z.cells.toList&&(bif ti.isAgg then(match z with | .agg _=>true|_=>false)else(match ti.zero with|[d]=>Zij d z|_=>false))
   | none=>false)
  | none=>false) &&
 (!ti.eqOk||(Z23 P 64 t ti.zero&&(match P.underlying t with|some (.struct _)=>true|some (.array _ _)=>true|_=>false) && !P.eqGuardType P.depth t)) &&
 Ziw P t ti.k&&(!ti.keyOk||(Za8 P 64 t&&Z23 P 64 t ti.zero&&(match P.underlying t with|some (.struct _)=>true|_=>false)))&&Zb5 P t ti.meths
theorem Zis {P:Program} {t:TypeId} {ti:TI} (h:Zhh P t ti=true):ZX P t ti:=by
 unfold Zhh at h;simp only[Bool.and_eq_true]at h;obtain⟨⟨⟨⟨h1,h2⟩,h3⟩,h4⟩,h5⟩:=h;cases hi:P.info? t with
 | none=>rw[hi]at h1;cases h1
 | some i =>
  rw[hi]at h1;simp only[Bool.and_eq_true]at h1;obtain⟨⟨a1,a2⟩,a3⟩:=h1;cases hz:i.zero with
  | none=>rw[hz]at a3;cases a3
  | some z =>
   rw[hz]at a3;simp only[Bool.and_eq_true]at a3;obtain⟨⟨b1,b2⟩,b3⟩:=a3;obtain⟨c1,c2,c3⟩:=Zai b2;refine⟨⟨i,z,hi,Nat.eq_of_beq_eq_true a1,Nat.eq_of_beq_eq_true a2,hz,Nat.eq_of_beq_eq_true b1,c1⟩,c3,fun he=>?_,c2,fun hna d hd i' z' hi' hz' β G=>?_,fun hna=>?_,fun ha i' z' hi' hz'=>?_,fun m g hm v args w=>ZgO (Za6 h5 hm) v args w,fun hko xs hkx b β G vx w hrx=>?_,?_⟩
   ·rw[he]at h2;simp only[Bool.not_true,Bool.false_or,Bool.and_eq_true,Bool.not_eq_true']at h2;obtain⟨⟨d1,d2⟩,d3⟩:=h2;refine⟨fun xs ys r hr hx hy β G vx vy w hrx hry=>?_,d3⟩;have hv:∀vs,Z14 P t vs=.agg vs.toArray:=fun vs=>by
     unfold Z14;cases hu:P.underlying t with
     | none=>rw[hu]at d2;cases d2
     | some dd=>rw[hu]at d2;cases dd<;>first|rfl|cases d2
    have:=(Zek (P:=P) (β:=β) (G:=G) 64).1 t ti.zero d1 10000 (by omega) xs ys r vx vy w hr hx hy hrx hry
    rw[hv,hv]at this;exact this
   ·rw[hi']at hi;cases hi;rw[hz']at hz;cases hz;rw[hna,hd]at b3;exact(Zcy (by simpa using b3)).1 β G
   ·rw[hna]at b3;simp only[cond_false]at b3;split at b3
    ·rename_i e;rw[e];rfl
    ·cases b3
   ·rw[hi']at hi;cases hi;rw[hz']at hz;cases hz;rw[ha]at b3;simp only[cond_true]at b3;split at b3
    ·exact⟨_,rfl⟩
    ·cases b3
   ·rw[hko]at h4;simp only[Bool.not_true,Bool.false_or,Bool.and_eq_true]at h4;obtain⟨⟨e1,e2⟩,e3⟩:=h4;have hv:Z14 P t vx=.agg vx.toArray:=by
     unfold Z14;split at e3
     ·rename_i e;rw[e]
     ·cases e3
    have:=Zcg (P:=P) (β:=β) (G:=G) b 64 t e1 64 ti.zero e2 9936 xs vx w hkx hrx;rw[hv]at this;exact this
   ·unfold Ziw at h3;cases hu:P.underlying t with
    | none=>rw[hu]at h3;cases hk:ti.k<;>rw[hk]at h3<;>cases h3
    | some dd =>
     rw[hu]at h3;cases hk:ti.k with
     | bool=>rw[hk]at h3;cases dd<;>first|rfl|cases h3
     | int k=>rw[hk]at h3;cases dd<;>first|(cases eq_of_beq h3;rfl)|cases h3
     | string=>rw[hk]at h3;cases dd<;>first|rfl|cases h3
     | struct fs =>
      rw[hk]at h3;cases dd with
      | struct fields =>
       simp only[Bool.and_eq_true]at h3;exact⟨fields,rfl,Zac h3.1,Option.isSome_iff_exists.1 h3.2⟩
      | _=>cases h3
     | array n e =>
      rw[hk]at h3;cases dd with
      | array n' e' =>
       simp only[Bool.and_eq_true]at h3;have h4:=Nat.eq_of_beq_eq_true h3.1;have h5:=Nat.eq_of_beq_eq_true h3.2;subst h4 h5;rfl
      | _=>cases h3
     | slice e =>
      rw[hk]at h3;cases dd with
      | slice e' =>
       have h5:=Nat.eq_of_beq_eq_true h3;subst h5;rfl
      | _=>cases h3
     | map k e =>
      rw[hk]at h3;cases dd with
      | map n' e' =>
       simp only[Bool.and_eq_true]at h3;have h4:=Nat.eq_of_beq_eq_true h3.1;have h5:=Nat.eq_of_beq_eq_true h3.2;subst h4 h5;rfl
      | _=>cases h3
     | ptr e =>
      rw[hk]at h3;cases dd with
      | pointer e' =>
       have h5:=Nat.eq_of_beq_eq_true h3;subst h5;rfl
      | _=>cases h3
     | func=>rw[hk]at h3;cases dd<;>first|exact⟨_,_,_,rfl⟩|cases h3
     | iface=>rw[hk]at h3;cases dd<;>first|exact⟨_,rfl⟩|cases h3
     | other=>rw[hk]at h3;cases h3
def Zde {α:Type} (p:Nat→α→Bool) (t:Tr α):Bool:=(t.tm (fun k x=>bif p k x then some (none:Option α)else none) 1 0).isSome
theorem Z6d {α:Type} {p:Nat→α→Bool} {t:Tr α} (h:Zde p t=true) {k:Nat} {x:α} (hk:t.get k=some x):p k x=true:=by
 unfold Zde at h;obtain⟨t',ht⟩:=Option.isSome_iff_exists.1 h;rcases Tr.tm_get1 ht k with⟨h1,_⟩|⟨x',y,h1,h2,_⟩
 ·rw[hk]at h1;cases h1
 ·rw[hk]at h1;cases h1;exact(Z3 h2).1
theorem Z21 {P : Program} {f : FuncId} {fn : Func} {c : Code} (hf : P.funcs[f]? = some fn) (hb : fn.body = some c) (hn : (fn.name == "runtime.NumGoroutine") = false) : Z1k P f := fun args w => by
 have hn' : ¬ fn.name = "runtime.NumGoroutine" := by simpa using hn
 unfold callFunc;simp[hf,hb,hn']
def Zda {α:Type} (p:Nat→α→Prop):Tr α→Nat→Nat→Prop
 | .leaf,_,_=>True
 | .node l v r,a,b=>Zda p l (2*a) (a+b)∧(match v with|some x=>p b x|none=>True)∧Zda p r (2*a) (2*a+b)
theorem Z8p {α:Type} {p:Nat→α→Prop}:∀{t:Tr α} {a b:Nat},Zda p t a b→∀{k:Nat} {x:α},t.get k=some x→p (a*k+b) x
 | .leaf,_,_,_,k,x,h=>by cases h
 | .node l v r,a,b,h,k,x,hk=>by
  rw[Tr.get_node]at hk;obtain⟨h1,h2,h3⟩:=h
  by_cases e0:k=0
  ·rw[if_pos e0]at hk;subst e0 hk;simpa using h2
  ·rw[if_neg e0]at hk
   by_cases e1:k % 2=1
   ·rw[if_pos e1]at hk;have:=Z8p h1 hk
    rwa [show 2*a*(k / 2)+(a+b)=a*k+b by
     have:k=2*(k / 2)+1:=by omega
     generalize k / 2=m at this;subst this;rw[Nat.mul_add,←Nat.mul_assoc,Nat.mul_comm a 2];omega]at this
   ·rw[if_neg e1]at hk;have:=Z8p h3 hk
    rwa [show 2*a*(k / 2-1)+(2*a+b)=a*k+b by
     have:k=2*(k / 2-1)+2:=by omega
     generalize k / 2-1=m at this;subst this;rw[Nat.mul_add,←Nat.mul_assoc,Nat.mul_comm a 2];omega]at this
theorem Z6Y {α:Type} {p:Nat→α→Prop} {t:Tr α} (h:Zda p t 1 0) {k:Nat} {x:α} (hk:t.get k=some x):p k x:=by
 have:=Z8p h hk;simpa using this
end Go.Ab
namespace Go.Ab
open Go.RowKit
abbrev Agr (w:World) (G:Gh):Prop:=∀b o v,G b o=some v→w.cell? ⟨b,o,none⟩=some v
def Z43 (P:Program) (inv:World→Prop) (g:Nat) (L:List DV→Option DV):Prop:=∀as d,L as=some d→Z1k P g∧∀(w:World) (β:Bi) (G:Gh) (vs:Array Value),inv w→Agr w G→Zi β G as vs.toList→Zc as=true →
  Calls P g vs w fun e w'=>∃v G',e=.returned v∧Below w.heap.size w w'∧(∀b,b<w.heap.size→G' b=G b)∧Agr w' G'∧Rep β G' d v
theorem Zeg {w:World} {b o:Nat} {v:Value} (h:w.cell? ⟨b,o,none⟩=some v):b<w.heap.size:=by
 unfold World.cell? at h;rcases Nat.lt_or_ge b w.heap.size with h1|h1
 ·exact h1
 ·simp[Array.getElem?_eq_none h1]at h
theorem Agr.below {w w':World} {G:Gh} (ha:Agr w G) (hb:Below w.heap.size w w'):Agr w' G:=fun b o v h=>by
 have h1:=ha b o v h;rw[hb.cell (p:=⟨b,o,none⟩) (Zeg h1)];exact h1
theorem Zdh (w:World) (k:Nat) (os:Array Obj):Below w.heap.size w (Go.Sort.grow (w.drewN k) os) :=
 ⟨rfl,rfl,rfl,by simp[Go.Sort.grow,World.drewN],fun j hj=>by
  show(w.heap++os)[j]?=_;rw[Array.getElem?_append_left hj]⟩
theorem ZbI (w:World) (k:Nat):Below w.heap.size w (w.drewN k):=⟨rfl,rfl,rfl,Nat.le_refl _,fun _ _=>rfl⟩
theorem ZbH (w:World) (e:TypeId) (s:ByteArray):Below w.heap.size w (Lib.bytesWorld w e s) :=
 ⟨rfl,rfl,rfl,by rw[Lib.bytesWorld_size];omega,fun j hj=>Lib.bytesWorld_at_old w e s j hj⟩
theorem ZcC {β:Bi} {G:Gh} {a b:DV} {vs:List Value} (h:Zi β G [a,b] vs):∃u v,vs=[u,v]∧Rep β G a u∧Rep β G b v:=by
 obtain⟨u,us,rfl,h1,h2⟩:=Zb.1 h;obtain⟨v,vs',rfl,h3,h4⟩:=Zb.1 h2;rw[Zn]at h4;subst h4;exact⟨u,v,rfl,h1,h3⟩
theorem Zcz {β:Bi} {G:Gh} {a:DV} {vs:List Value} (h:Zi β G [a] vs):∃u,vs=[u]∧Rep β G a u:=by
 obtain⟨u,us,rfl,h1,h2⟩:=Zb.1 h;rw[Zn]at h2;subst h2;exact⟨u,rfl,h1⟩
theorem Z7c {w w':World} {β:Bi} {G:Gh} {d:DV} {v:Value} (ha:Agr w G) (hb:Below w.heap.size w w') (hr:Rep β G d v) :
  ∃v' G',Ending.returned v=.returned v'∧Below w.heap.size w w'∧(∀b,b<w.heap.size→G' b=G b)∧Agr w' G'∧Rep β G' d v' :=
 ⟨v,G,rfl,hb,fun _ _=>rfl,ha.below hb,hr⟩
def Zdn:Nat→Nat→List UInt8→List UInt8
 | 0,_,acc=>acc
 | f+1,u,acc=>bif Nat.blt u 10 then UInt8.ofNat (48+u)::acc else Zdn f (u / 10) (UInt8.ofNat (48+u % 10)::acc)
theorem ZaJ:∀(f u:Nat) (acc:List UInt8),u<10 ^ f→0<f→Zdn f u acc=Lib.decDigits u++acc
 | 0,_,_,_,h=>absurd h (Nat.lt_irrefl 0)
 | f+1,u,acc,hu,_=>by
  unfold Zdn;rw[Lib.decDigits]
  by_cases h:u<10
  ·rw[show Nat.blt u 10=true from Nat.ble_eq_true_of_le h];simp[h]
  ·have hb:Nat.blt u 10=false:=by
    cases hq:Nat.blt u 10 with
    | false=>rfl
    | true=>exact absurd (Nat.le_of_ble_eq_true hq) (by omega)
   have hf:0<f:=by
    rcases Nat.eq_zero_or_pos f with h0|h0
    ·subst h0;simp at hu;omega
    ·exact h0
   rw[hb,cond_false,ZaJ f (u / 10) _ (by rw[Nat.pow_succ]at hu;omega) hf]
   simp[h]
def Ziy:Int→List UInt8
 | .ofNat m=>Zdn 19 m []
 | .negSucc m=>45::Zdn 19 (m+1) []
theorem Zgx (n:Int) (h0 : -9223372036854775808≤n) (h1:n≤9223372036854775807):Ziy n=Lib.itoa n:=by
 cases n with
 | ofNat m =>
  have:m<10 ^ 19:=by simp at h1;omega
  show Zdn 19 m []=_;rw[ZaJ 19 m [] this (by omega)]
  unfold Lib.itoa;rw[if_neg (by simp)]
  simp
 | negSucc m =>
  have:m+1<10 ^ 19:=by omega
  show(45::Zdn 19 (m+1) [])=_;rw[ZaJ 19 (m+1) [] this (by omega)]
  unfold Lib.itoa;rw[if_pos (Int.negSucc_lt_zero m)];simp
def Zjd (n:Int):Bool:=match n with
 | .ofNat m=>Nat.ble m 9223372036854775807
 | .negSucc m=>Nat.ble m 9223372036854775807
theorem ZhH {n:Int} (h:Zjd n=true) : -9223372036854775808≤n∧n≤9223372036854775807:=by
 cases n with
 | ofNat m=>have:=Nat.le_of_ble_eq_true h;constructor<;>(simp<;>try omega)
 | negSucc m=>have:=Nat.le_of_ble_eq_true h;omega
def ZaZ:List DV→Option DV
 | [.int .i64 n]=>bif Zjd n then some (.str ⟨(Ziy n).toArray⟩)else none
 | _=>none
theorem ZfE {P:Program} {inv:World→Prop} {g:Nat} (he:Z1k P g)
  (hc:∀n:Int,-9223372036854775808≤n→n≤9223372036854775807→∀w,inv w→Calls P g #[.int .i64 n] w fun e w'=>e=.returned (.string ⟨(Lib.itoa n).toArray⟩)∧Below w.heap.size w w'):Z43 P inv g ZaZ:=fun as d hd=>by
 refine⟨he,fun w β G vs hi ha hr hid=>?_⟩;unfold ZaZ at hd;split at hd
 ·rename_i n;obtain⟨hb,hd⟩:=Z3 hd;cases hd;obtain⟨b1,b2⟩:=ZhH hb;obtain⟨u,hu,hr1⟩:=Zcz hr;obtain rfl:=ZH.1 hr1;rw[Z1l hu];refine Calls.mono (hc n b1 b2 w hi) fun e w' h=>?_;obtain⟨rfl,hb⟩:=h;exact Z7c ha hb (Y9.2 (by rw[Zgx n b1 b2]))
 ·cases hd
def ZaY:List DV→Option DV
 | [.str s]=>bif Nat.ble s.size 9223372036854775806 then(match Lib.atoiAll s.data.toList with | .ok v=>some (.tup [.int .i64 v,.nilif])|_=>none)else none
 | _=>none
theorem ZfD {P:Program} {inv:World→Prop} {g:Nat} (he:Z1k P g)
  (hc:∀(s:ByteArray),s.size≤9223372036854775806→∀v,Lib.atoiAll s.data.toList=.ok v→∀w,inv w→Calls P g #[.string s] w fun e w'=>e=.returned (.tuple #[.int .i64 v,.nilIface])∧Below w.heap.size w w'):Z43 P inv g ZaY:=fun as d hd=>by
 refine⟨he,fun w β G vs hi ha hr hid=>?_⟩;unfold ZaY at hd;split at hd
 ·rename_i s;obtain⟨hb,hd⟩:=Z3 hd;split at hd
  ·rename_i v hv;cases hd;obtain⟨u,hu,hr1⟩:=Zcz hr;obtain rfl:=Y9.1 hr1;rw[Z1l hu];refine Calls.mono (hc s (Nat.le_of_ble_eq_true hb) v hv w hi) fun e w' h=>?_;obtain⟨rfl,hb⟩:=h;refine Z7c ha hb ?_;unfold Rep;exact⟨[.int .i64 v,.nilIface],rfl,Zb.2 ⟨_,_,rfl,ZH.2 rfl,Zb.2 ⟨_,_,rfl,Z5l.2 rfl,Zn.2 rfl⟩⟩⟩
  ·cases hd
 ·cases hd
def ZeP:List DV→Option DV
 | [.str s,.str p]=>bif Nat.blt s.size 4294967281 then(match Lib.cut s.data.toList p.data.toList with|(x,y,b)=>some (.tup [.str ⟨x.toArray⟩,.str ⟨y.toArray⟩,.bool b]))else none
 | _=>none
theorem ZgG {P:Program} {inv:World→Prop} {g:Nat} (he:Z1k P g)
  (hc:∀(s p:ByteArray),s.size<4294967281→∀w,inv w→Calls P g #[.string s,.string p] w fun e w'=>e=.returned (.tuple #[.string ⟨(Lib.cut s.data.toList p.data.toList).1.toArray⟩,.string ⟨(Lib.cut s.data.toList p.data.toList).2.1.toArray⟩,.bool (Lib.cut s.data.toList p.data.toList).2.2])∧Below w.heap.size w w'):Z43 P inv g ZeP:=fun as d hd=>by
 refine⟨he,fun w β G vs hi ha hr hid=>?_⟩;unfold ZeP at hd;split at hd
 ·rename_i s p;obtain⟨hb,hd⟩:=Z3 hd;split at hd;rename_i x y b hx;cases hd;obtain⟨u,v,hu,hr1,hr2⟩:=ZcC hr;obtain rfl:=Y9.1 hr1;obtain rfl:=Y9.1 hr2;rw[Z1l hu];refine Calls.mono (hc s p (Nat.le_of_ble_eq_true hb) w hi) fun e w' h=>?_;obtain⟨rfl,hb⟩:=h;refine Z7c ha hb ?_;rw[hx];unfold Rep;exact⟨[.string ⟨x.toArray⟩,.string ⟨y.toArray⟩,.bool b],rfl,Zb.2 ⟨_,_,rfl,Y9.2 rfl,Zb.2 ⟨_,_,rfl,Y9.2 rfl,Zb.2 ⟨_,_,rfl,ZM.2 rfl,Zn.2 rfl⟩⟩⟩⟩
 ·cases hd
def Z9u:List (List UInt8)→List (List DV)
 | []=>[]
 | x::l=>[.str ⟨x.toArray⟩]::Z9u l
def Z8j:List DV→Option DV
 | [.str s,.str p]=>bif Nat.blt s.size 4294967281&&Nat.ble 1 p.size then(let l:=Lib.splitK p.data.toList 0 (Lib.count s.data.toList p.data.toList) s.data.toList
   bif Nat.beq l.length (Lib.count s.data.toList p.data.toList+1)then some (.sl (Z9u l))else none)else none
 | _=>none
theorem Zar:∀l:List (List UInt8),(Z9u l).length=l.length
 | []=>rfl
 | _::l=>by simp[Z9u,Zar l]
theorem Zas {β:Bi} {G:Gh}:∀l:List (List UInt8),Zi β G (Z9u l).flatten (l.map fun x=>Value.string ⟨x.toArray⟩)
 | []=>Zn.2 rfl
 | x::l=>by
  show Zi β G (DV.str ⟨x.toArray⟩::(Z9u l).flatten) _;exact Zb.2 ⟨_,_,rfl,Y9.2 rfl,Zas l⟩
theorem Z80:∀(l:List (List UInt8)),∀c∈Z9u l,c.length=1∧Zc c=true∧c.all ZI=true
 | [],c,h=>by cases h
 | x::l,c,h=>by
  rcases List.mem_cons.1 h with rfl|h
  ·exact⟨rfl,rfl,rfl⟩
  ·exact Z80 l c h
theorem Zdx {P:Program} {inv:World→Prop} {g:Nat} {t:TypeId} (he:Z1k P g)
  (hc:∀(s p:ByteArray),s.size<4294967281→1≤p.size→∀w,inv w→Calls P g #[.string s,.string p] w fun e w'=>e=.returned (.slice (some ⟨w.heap.size,0,none⟩) (Lib.countB s p+1) (Lib.countB s p+1))∧w'=w.alloc (.cells ((Lib.splitB p 0 (Lib.countB s p) s).map Value.string).toArray t)):Z43 P inv g Z8j:=fun as d hd=>by
 refine⟨he,fun w β G vs hi ha hr hid=>?_⟩;unfold Z8j at hd;split at hd
 ·rename_i s p;obtain⟨hb,hd⟩:=Z3 hd;simp only[Bool.and_eq_true]at hb;obtain⟨hl,hd⟩:=Z3 hd;cases hd;have hl:=Nat.eq_of_beq_eq_true hl;obtain⟨u,v,hu,hr1,hr2⟩:=ZcC hr;obtain rfl:=Y9.1 hr1;obtain rfl:=Y9.1 hr2;rw[Z1l hu];refine Calls.mono (hc s p (Nat.le_of_ble_eq_true hb.1) (Nat.le_of_ble_eq_true hb.2) w hi) fun e w' h=>?_;obtain⟨rfl,rfl⟩:=h;have hval:(Lib.splitB p 0 (Lib.countB s p) s).map Value.string=(Lib.splitK p.data.toList 0 (Lib.countB s p) s.data.toList).map fun x=>Value.string ⟨x.toArray⟩:=by
   rw[←Lib.splitB_data,List.map_map];rfl
  rw[hval];generalize hK:Lib.splitK p.data.toList 0 (Lib.countB s p) s.data.toList=K at *;have hlen:K.length=Lib.countB s p+1:=hl;have hcell:∀j v,(K.map fun x=>Value.string ⟨x.toArray⟩)[j]? = some v→(w.alloc (.cells (K.map fun x=>Value.string ⟨x.toArray⟩).toArray t)).cell? ⟨w.heap.size,j,none⟩=some v:=fun j v hj=>by
   unfold World.cell? World.alloc;simp only[Array.getElem?_push_size];simpa using hj
  refine⟨_,fun b o=>if b=w.heap.size then(K.map fun x=>Value.string ⟨x.toArray⟩)[o]? else G b o,rfl,Below.alloc (Below.refl _ _) (Nat.le_refl _) _,fun b hlt=>?_,fun b o v hq=>?_,?_⟩
  ·funext o;exact if_neg (Nat.ne_of_lt hlt)
  ·by_cases hbs:b=w.heap.size
   ·have hq':(K.map fun x=>Value.string ⟨x.toArray⟩)[o]? = some v:=(if_pos hbs).symm.trans hq;rw[hbs];exact hcell o v hq'
   ·have hq:G b o=some v:=(if_neg hbs).symm.trans hq;exact(ha.below (Below.alloc (Below.refl _ _) (Nat.le_refl _) _)) b o v hq
  ·unfold Rep;refine⟨_,_,⟨?_,Nat.le_refl _⟩,.inr ⟨w.heap.size,0,1,rfl,?_⟩⟩
   ·show Value.slice _ _ _=Value.slice _ _ _;rw[Zar];rw[hlen]
   ·refine Z4f (G:=_) (Zas _) (Z80 _) fun j v hj=>?_;refine(if_pos rfl).trans ?_;rw[Nat.zero_add];exact hj
 ·cases hd
def ZiD (P:Program) (g:Nat) (t:TypeId):Prop:=Z1k P g∧∀(w:World) (b:Nat) (p v:Value),w.heap[b]? = some (.cells #[p,v] t (0,0))→(p=.pointer none∨p=.pointer (some ⟨b,0,none⟩)) →
  Calls P g #[.pointer (some ⟨b,0,none⟩)] w fun e w'=>e=.returned (.tuple #[])∧Below 0 w w'∧w'.heap.size=w.heap.size∧(∀k,k≠b→w'.heap[k]? = w.heap[k]?)∧w'.heap[b]? = some (.cells #[.pointer (some ⟨b,0,none⟩),v] t (0,0))
theorem Zhs {P:Program} {g:Nat} {t:TypeId} (he:Z1k P g)
  (hu:∀(b:Nat) (w:World),w.cell? ⟨b,0,none⟩=some (.pointer (some ⟨b,0,none⟩))→Calls P g #[.pointer (some ⟨b,0,none⟩)] w fun e w'=>e=.returned (.tuple #[])∧w'=w)
  (hf:∀(b:Nat) (w:World),w.cell? ⟨b,0,none⟩=some (.pointer none)→w.shape? b=some (t,2)→w.frozen? ⟨b,0,none⟩=false→Calls P g #[.pointer (some ⟨b,0,none⟩)] w fun e w'=>e=.returned (.tuple #[])∧w'=w.setCell ⟨b,0,none⟩ (.pointer (some ⟨b,0,none⟩))):ZiD P g t :=
 ⟨he,fun w b p v hw hp=>by
  rcases hp with rfl|rfl
  ·refine Calls.mono (hf b w (by simp[World.cell?,hw]) (by simp[World.shape?,hw]) (by simp[World.frozen?,hw])) fun e w' h=>?_
   obtain⟨rfl,rfl⟩:=h;have hbl:=Below.setCell (B:=0) (Below.refl 0 w) (p:=⟨b,0,none⟩) (Nat.zero_le _) (.pointer (some ⟨b,0,none⟩));have hlt:b<w.heap.size:=(Array.getElem?_eq_some_iff.1 hw).1;refine⟨rfl,hbl,by simp[World.setCell],fun k hk=>Below.heap_setCell w ⟨b,0,none⟩ _ k hk,?_⟩
   unfold World.setCell;simp[Array.getElem?_modify,hw]
  ·refine Calls.mono (hu b w (by simp[World.cell?,hw])) fun e w' h=>?_
   obtain⟨rfl,rfl⟩:=h;exact⟨rfl,Below.refl _ _,rfl,fun _ _=>rfl,hw⟩⟩
theorem Zd0 {P:Program} {w w':World} {name:String} {k:IntKind} {zs:List Int} (h:Lib.TabIs P w name k zs) (hb:Below w.heap.size w w'):Lib.TabIs P w' name k zs:=by
 unfold Lib.TabIs World.var? at *;cases hg:P.globalNamed name with
 | none=>rw[hg]at h;cases h
 | some g =>
  rw[hg]at h;simp only[Option.bind_some]at h⊢;have hlt:g<w.heap.size:=by
   rcases Nat.lt_or_ge g w.heap.size with h1|h1
   ·exact h1
   ·rw[Array.getElem?_eq_none h1]at h;cases h
  rw[hb.block g hlt];exact h
theorem Zb3 {w w':World} {g:Nat} (h:∃m,w.cell? ⟨g,0,none⟩=some (.int .i64 m)) (hb:Below w.heap.size w w'):∃m,w'.cell? ⟨g,0,none⟩=some (.int .i64 m):=by
 obtain⟨m,hm⟩:=h;exact⟨m,by rw[hb.cell (p:=⟨g,0,none⟩) (Zeg hm)];exact hm⟩
end Go.Ab
