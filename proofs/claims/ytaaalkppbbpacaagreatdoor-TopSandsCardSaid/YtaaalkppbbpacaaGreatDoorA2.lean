/- What the code of the program comes to on plain values. -/
import Derived.Test.YtaaalkppbbpacaaGreatDoorA1
import Derived.Lib.UnsafeStr
import Derived.TacticsIn
import Derived.LoopNIn
import Derived.RangeFuncLeaves
import Derived.OrdersIn
import Derived.RangeFuncIn
set_option linter.unusedSectionVars false
set_option linter.unusedVariables false
set_option linter.unusedSimpArgs false
namespace Go.Ab
open Go.RowKit
section
variable {P:Program} {E:Env} {w0:World} {G0:Gh} {D:DD} {o:Oper} {a:Act} {w:World} {β:Bi} {G:Gh} {h:Nat->Option Zd} {nid:Nat} {ρ:Nat->Option DV}
theorem Z1k {α:Type} {x:Array α} {l:List α} (h:x.toList=l):x=l.toArray:=by subst h;simp
theorem ZW.und {t:TypeId} {ti:TI} (ht:ZW P t ti):∃d,P.underlying t=some d:=by
 have e:=ht.desc;cases hkk:ti.k<;>rw[hkk]at e<;>simp only at e
 all_goals first
  | exact⟨_,e⟩
  | (obtain⟨f,e,_⟩:=e;exact⟨_,e⟩)
  | (obtain⟨a,b,c,e⟩:=e;exact⟨_,e⟩)
  | (obtain⟨a,e⟩:=e;exact⟨_,e⟩)
theorem Zi4 {s:Sem Unit} {w':World} (b:execOp a.eval o=(do s;Pure.pure Next.skip)) (c:s.run P w=.ok () w'):(execOp a.eval o).run P w=.ok .skip w':=by
 rw[b];simp[c]
theorem YN {s:Sem Value} {v:Value} {w':World} (b:execOp a.eval o=(do Pure.pure (Next.value (<-s)))) (c:s.run P w=.ok v w'):(execOp a.eval o).run P w=.ok (.value v) w':=by
 rw[b];simp[c]
theorem Z3W:Rep β G (.tup []) undef:=YM.2 ⟨[],rfl,Zm.2 rfl⟩
theorem ZfP (hh:HR E w0 G0 D w β G h) (b:ZR β h nid) (s:ByteArray) :
  ∃β',Ext β G β' G/\β'.blk nid=some w.heap.size/\HR E w0 G0 D (w.alloc (.stringIter s 0)) β' G (ZJ h [(nid,some (.siter s 0))])/\Z2E β β' h (ZJ h [(nid,some (.siter s 0))]) nid :=
 hh.lay b _ _ (fun _ _ _ _ a=>by cases a) fun β' _ hb=>⟨_,hb,heap_alloc_new w (.stringIter s 0)⟩
theorem ZhD (hh:HR E w0 G0 D w β G h) (b:ZR β h nid) :
  ∃β',Ext β G β' G/\β'.blk nid=some w.heap.size/\HR E w0 G0 D (w.alloc (.map #[] 0)) β' G (ZJ h [(nid,some (.map []))])/\Z2E β β' h (ZJ h [(nid,some (.map []))]) nid :=
 hh.lay b _ _ (fun _ _ _ _ a=>by cases a) fun β' _ hb=>⟨_,_,_,hb,heap_alloc_new w (.map #[] 0),rfl⟩
theorem Z40 {l pos:Nat} {s:ByteArray} (h:w.heap[l]? = some (.stringIter s pos)):(getObj l).run P w=.ok (.stringIter s pos) w:=by simp[getObj,Sem.run,h]
theorem Z9w {l:Nat} {r:Obj} {ob:Obj} (h:w.heap[l]? = some ob) (hc:∀c t f,ob≠.cells c t f):(setObj l r).run P w=.ok () (w.putObj l r):=by
 cases ob<;>first|(exact absurd rfl (hc _ _ _))|simp[setObj,Sem.run,World.putObj,h]
theorem Zen (hh:HR E w0 G0 D w β G h) {t:TypeId} {ti ei:TI} (ht:ZW P t ti) {e:Nat} (hk:ti.k=.slice e) (x:ZW P e ei) {es:List (List DV)} {dx:DV} {u:Value} (a:Y4 h dx=some es) (hr:Rep β G dx u)
  {lo hi:Option DV} {vlo vhi:Option Value} (z:Z8q β G lo vlo) (o:Z8q β G hi vhi) {d:DV} (i:Zfb es ei.size dx lo hi=some d) :
  ∃r,(Instr.sliceAt t u vlo vhi none).run P w=.ok r w/\Rep β G d r:=by
 have f:=ht.desc;rw[hk]at f;unfold Zfb at i;obtain⟨m,y,i⟩:=Z0 i;obtain⟨l,h2,i⟩:=Z0 i;cases dx with
 | rs id ver =>
  simp only[Y4]at a;obtain⟨ob,n,a⟩:=Z0 a;split at a
  ·rename_i t' es' p u';obtain⟨q,a⟩:=Z3 a;cases a;have q:u'=ver:=jf q;subst q;obtain⟨hdr,vals,k1,k2,_⟩:=hh.obj _ _ n;obtain⟨k5,_⟩:=Z2K.1 hr;rw[k1]at k5;cases k5;have j:∃A c,u=.slice A es.length c/\es.length<=c/\(es.length=0\/∃b,A=some ⟨b,0,none⟩):=by
    rcases k2.2 with⟨rfl,k⟩|⟨g,cap,cur,rfl,_,_,k,_⟩
    ·exact⟨none,0,by rw[k],by omega,.inl k⟩
    ·exact⟨_,cap,rfl,k,.inr ⟨g,rfl⟩⟩
   obtain⟨A,c,rfl,s,v⟩:=j;obtain⟨k1',k2',k3'⟩:=Z2R (P:=P) (w:=w) (isSlice:=true) z o y h2 s;refine⟨.slice (if c=l then A else A.map (·.add (l*ei.size))) (m-l) (c-l),by simp[Instr.sliceAt,Instr.slice,ji f,k1',x.run_sizeOf],?_⟩
   cases i;refine Zbz.2 ⟨A,es.length,c,_,c-l,k1,rfl,by omega,by omega,?_⟩
   by_cases hml:m-l=0
   ·exact .inl hml
   ·rcases v with v|⟨b,rfl⟩
    ·omega
    ·refine .inr ⟨b,rfl,?_⟩;rw[if_neg (by omega)]
     simp[Yn]
  ·cases a
 | _=>cases i
theorem Z9J:∀{es:List (List DV)} {l:List UInt8},Z6Y es=some l->es=l.map fun b=>[DV.int .u8 b.toNat]
 | [],l,h=>by cases h;rfl
 | e::es,l,h=>by
  unfold Z6Y at h;split at h
  ·rename_i a;cases a
  ·rename_i n es' a;cases a;obtain⟨d,h⟩:=Z3 h;simp only[jn,jl]at d;obtain⟨l',c,h⟩:=Z0 h;cases h;rw[jv,<-Z9J c];have:((UInt8.ofNat n.toNat).toNat:Int)=n:=by
    rw[UInt8.toNat_ofNat_of_lt' (by simp[UInt8.size];omega)];omega
   rw[this]
  ·cases h
theorem Za5:∀(l:List UInt8) (vals:List Value),Zi β G (l.map fun b=>[DV.int .u8 b.toNat]).flatten vals->vals=l.map fun x=>Value.int .u8 x.toNat
 | [],vals,h=>Zm.1 h
 | b::l,vals,h=>by
  obtain⟨v,vs,rfl,a,c⟩:=Zb.1 h;rw[ZG.1 a,Za5 l vs c];rfl
theorem Z4d (w:World) (p:Addr) (n:Nat) {b:Nat} (a:b≠p.block):(w.freeze p n).heap[b]? = w.heap[b]? := by
 unfold World.freeze;split
 ·rfl
 ·simp only[Array.getElem?_modify];rw[if_neg (fun e=>a e.symm)]
theorem Zch (w:World) (p:Addr) (n:Nat) (x:Addr):(w.freeze p n).cell? x=w.cell? x:=by
 by_cases hb:x.block=p.block
 ·unfold World.freeze;split
  ·rfl
  ·unfold World.cell?;simp only[Array.getElem?_modify,hb,if_true];cases hg:w.heap[p.block]? with
   | none=>rfl
   | some ob=>cases ob<;>rfl
 ·exact World.cell?_of_block (Z4d w p n hb)
theorem Zci (w:World) (p:Addr) (n:Nat):(w.freeze p n).heap.size=w.heap.size:=by
 unfold World.freeze;split
 ·rfl
 ·simp
theorem HR.dropRow (hh:HR E w0 G0 D w β G h) {id e:Nat} {es:List (List DV)} {p u:Nat} (t:h id=some (.row e es p u)) {g:Nat} (k:Yu β id (.row e es p u) g) (n:Nat):HR E w0 G0 D (w.freeze ⟨g,0,none⟩ n) β G (ZJ h [(id,none)]):=by
 obtain⟨k1,_,k3⟩:=hh.own id _ g t k;have a:∀i x,ZJ h [(id,none)] i=some x->i≠id/\h i=some x:=fun i x hi=>by
  rw[ZU]at hi
  by_cases e:i=id
  ·rw[if_pos e]at hi;cases hi
  ·rw[if_neg e]at hi;exact⟨e,hi⟩
 have f:∀i x c,i≠id->h i=some x->Yu β i x c->c≠g:=fun i x c hi l hc q=>hi (hh.inj i id x _ g l t (q▸hc) k);refine⟨Lib.below_freeze hh.below k1 n,hh.g0,fun b o v z=>by rw[Zch];exact hh.agree b o v z,fun i x hi=>?_,fun i x c hi hc=>?_,fun i j x y c hi hj hc r=>hh.inj i j x y c (a i x hi).2 (a j y hj).2 hc r,fun d x s=>?_,hh.inv0⟩
 ·obtain⟨m,l⟩:=a i x hi;exact Z2p.keep (Ext.refl _ _) (fun _=>rfl) (fun c hc=>⟨Z4d w _ n (f i x c m l hc),fun _=>rfl⟩) (hh.obj i x l)
 ·obtain⟨m,l⟩:=a i x hi;obtain⟨m1,m2,m3⟩:=hh.own i x c l hc;exact⟨m1,by rw[Zci];exact m2,m3⟩
 ·obtain⟨m1,m2,m3⟩:=hh.marks d x s;exact⟨m1,(Z4d w _ n (fun q=>by rw[q,k3]at s;cases s)).trans m2,m3⟩
theorem Zfp {id:Nat} {x:Zd} (c:h id=some x):Z2E β β h (ZJ h [(id,none)]) nid:=fun i _ a=>by
 have b:i≠id:=fun q=>by rw[q,c]at a;cases a
 exact⟨by rw[ZU,if_neg b];exact a,rfl,fun _=>rfl⟩
theorem Z6R (ats:Array TypeId) (ty:TypeId):(Builtin.unsafeSliceData_ ats ty #[.slice none 0 0]).run P w=.ok (.pointer none) w:=rfl
theorem Za0 (ats:Array TypeId) (ty:TypeId) (a:Addr) (n c:Nat) (hc:c≠0):(Builtin.unsafeSliceData_ ats ty #[.slice (some a) n c]).run P w=.ok (.pointer (some a)) w:=by
 have h:Builtin.unsafeSliceData_ ats ty #[.slice (some a) n c]=(if c≠0 then(pure (.pointer (some a)):Sem Value)else(do
   if(<-viewAt a.block).isSome then pure (.pointer (some a))else pure (.pointer (some ⟨<- newObj (.view a (<-elemOf ty)),0,none⟩)))):=rfl
 rw[h,if_pos hc];rfl
theorem Zfr (hE:∀t ti,E.ty t=some ti->ZW P t ti) (hf:FrM β G ρ a.tmps) (hh:HR E w0 G0 D w β G h) (hfr:ZR β h nid) {c:Call} (ho:o.op=.call c) {r:Out}
  (f:ZE E nid ρ h (.call c)=some r):Yb P E w0 G0 D o a w β G h nid r:=by
 have q:∀b,c.callee=.builtin b->∃cs,execOp a.eval o=Go.builtin b c.argTypes o.type cs (c.args.map a.eval):=fun b hb=>by
  refine⟨c.args.map fun | .const _=>true|_=>false,?_⟩;unfold execOp;rw[ho];simp[resolve,hb,invoke];rfl
 simp only[ZE]at f;split at f
 ·rename_i hb;split at f
  ·rename_i x t ts hx ht;obtain⟨ti,hti,f⟩:=Z0 f;obtain⟨d,a0,f⟩:=Z0 f;obtain⟨u,hu,f⟩:=Z0 f;cases f;have hts:c.argTypes[0]? = some t:=by rw[Z1k ht];simp
   obtain⟨v,h1,h2⟩:=Zfy (ty:=o.type) hh (hE t ti hti) hts hu (Zq hf a0);refine Yb.pure hh (v:=v) ?_ h2;obtain⟨cs,hcs⟩:=q _ hb;rw[hcs,Z1k hx];simp[Go.builtin,h1]
  ·cases f
 ·rename_i hb;split at f
  ·rename_i s x t t' hx ht;obtain⟨ds,hds,f⟩:=Z0 f;obtain⟨dx,a0,f⟩:=Z0 f;obtain⟨v,w',β',h1,h2,h3,h4,h5⟩:=ZaR (ty:=o.type) hE hh hfr (Zq hf hds) (Zq hf a0) f;refine⟨.value v,v,w',β',G,?_,.inl rfl,h2,h3,h4,h5⟩;obtain⟨cs,hcs⟩:=q _ hb;rw[hcs,Z1k hx,Z1k ht];simp[Go.builtin,h1]
  ·cases f
 ·rename_i hb;obtain⟨cs,hcs⟩:=q _ hb;split at f
  ·rename_i x hx;obtain⟨d,a0,f⟩:=Z0 f;have hr:=Zq hf a0;split at f
   ·obtain rfl:=Z1t f;rw[Z1U]at hr;refine Yb.pure hh (v:=.pointer none) ?_ (Z6M.2 rfl);rw[hcs,Z1k hx];simp only[List.map_toArray,jv,List.map_nil,hr,Go.builtin,jy,Z6R];rfl
   ·rename_i id v;obtain⟨ob,ho2,f⟩:=Z0 f;split at f
    ·rename_i e c es p u;obtain⟨hq,f⟩:=Z3 f;obtain rfl:=jf hq;obtain rfl:=Z1t f;obtain⟨hdr,vals,h1,h2,_⟩:=hh.obj id _ ho2;obtain⟨hv,_⟩:=Z2K.1 hr;rw[hv]at h1;cases h1;rcases h2.2 with⟨_,hz⟩|⟨g,cap,cur,hg,_,_,hn,_⟩
     ·simp at hz
     ·have hc0:cap≠0:=by simp only[List.length_cons]at hn;omega
      rw[hg]at hv;refine Yb.pure hh (v:=.pointer (some ⟨g,0,none⟩)) ?_ (Z1V.2 ⟨g,_,cap,hv,by simp⟩)
      rw[hcs,Z1k hx];simp only[List.map_toArray,jv,List.map_nil,hg,Go.builtin,jy,Za0 _ _ _ _ _ hc0];rfl
    ·cases f
   ·cases f
  ·cases f
 ·rename_i hb;obtain⟨cs,hcs⟩:=q _ hb;split at f
  ·rename_i x n t t' hx ht;obtain⟨dx,a0,f⟩:=Z0 f;obtain⟨dn,hdn,f⟩:=Z0 f;obtain⟨ti,hti,f⟩:=Z0 f;have hr:=Zq hf a0;have hrn:=Zq hf hdn;have hu:=(hE t ti hti).desc;split at f
   ·obtain rfl:=Z1t f;rw[Z6M]at hr;rw[ZG]at hrn;refine Yb.pure hh (v:=.string .empty) ?_ (Y9.2 rfl);rw[hcs,Z1k hx,Z1k ht];simp[Go.builtin,hr,hrn,Lib.run_unsafeString_none]
   ·rename_i id v k e _ _ _;have hk:ti.k=TK.ptr e:=by assumption
    rw[hk]at hu;obtain⟨ob,ho2,f⟩:=Z0 f;split at f
    ·rename_i e' es p u;obtain⟨hq,hdz⟩:=Z3 f;clear f;simp only[jn]at hq;obtain⟨⟨⟨⟨q1,q2⟩,q3⟩,q4⟩,q5⟩:=hq;obtain rfl:=jf q1;obtain rfl:=jf q2;have q3:k=(es.length:Nat):=by simpa using q3
     subst q3;have q4:0<es.length:=je q4;have q5:=je q5;obtain⟨l,hl,hdz⟩:=Z0 hdz;cases hdz;have hes:=Z9J hl;obtain⟨hdr,vals,h1,h2,h3,h4,h5,h6,h7⟩:=hh.obj id _ ho2;obtain⟨b,m,c,hv,he⟩:=Z1V.1 hr;rw[hv]at h1;cases h1;have hll:es.length=l.length:=by rw[hes];simp
     have y:YD E e=1:=by
      rw[<-(h4 _ (jo q4)).1];simp only[hes,List.getElem_map];rfl
     have hcell:P.cellsOf e=1:=by
      unfold YD at y;cases hte:E.ty e with
      | none=>rw[hte]at y;cases y
      | some ei =>
       rw[hte]at y;obtain⟨i,z,k1,k2,_⟩:=(hE e ei hte).info;simp[Program.cellsOf,k1,k2];exact y
     rcases h2.2 with⟨hg,_⟩|⟨g,cap,cur,hg,_,hgc,hn,_,hcs2,htk⟩
     ·cases hg
     ·cases hg;rw[y,Nat.mul_one]at htk;rw[y,Nat.mul_one]at hcs2;have hvals:vals=l.map fun x=>Value.int .u8 x.toNat:=by
       rw[hes]at h3;exact Za5 l vals h3
      have hcur:∀(j:Nat) (x:UInt8),l[j]? = some x->cur[j]? = some (Value.int .u8 x.toNat):=fun j x hj=>by
       have:vals[j]? = some (Value.int .u8 x.toNat):=by rw[hvals,List.getElem?_map,hj];rfl
       rw[<-htk,List.getElem?_take]at this;split at this
       ·simpa using this
       ·cases this
      have hrun:=Lib.run_unsafeString_row (P:=P) w t t' o.type e hu hcell b cur.size (by simp[World.shape?,hgc]) l (fun hn=>by rw[hn]at hll;rw[hll]at q4;exact absurd q4 (by simp)) (by omega) (by omega) (fun j x hj=>by
       rw[Yn];simp[World.cell?,hgc,hcur j x hj])
      refine⟨.value (.string ⟨l.toArray⟩),_,w.freeze ⟨b,0,none⟩ l.length,β,G,?_,.inl rfl,fun d f=>by cases f;exact Y9.2 rfl,Ext.refl β G,hh.dropRow ho2 ⟨_,_,hv⟩ _,Zfp ho2⟩
      rw[hcs,Z1k hx,Z1k ht];rw[ZG]at hrn;rw[hll]at hrn;have he:a.eval x=.pointer (some ⟨b,0,none⟩):=by simpa using he
      simp[Go.builtin,he,hrn,hrun]
    ·cases f
   ·cases f
  ·cases f
 ·rename_i hb;obtain⟨vs,hvs,f⟩:=Z0 f;split at f
  ·rename_i x xs;obtain⟨d,hdd,f⟩:=Z0 f;cases f;have hr:=Z1F hf hvs;obtain⟨v,vs',he,hr1,hr2⟩:=Zb.1 hr;obtain⟨u,h1,h2⟩:=Z4N (P:=P) (w:=w) (β:=β) (G:=G) (g:=Builtin.min2) ZdQ hdd hr1 hr2;refine Yb.pure hh (v:=u) ?_ h2;obtain⟨cs,hcs⟩:=q _ hb;rw[hcs];simp[Go.builtin,Builtin.min_,he,h1]
  ·cases f
 ·rename_i hb;obtain⟨vs,hvs,f⟩:=Z0 f;split at f
  ·rename_i x xs;obtain⟨d,hdd,f⟩:=Z0 f;cases f;have hr:=Z1F hf hvs;obtain⟨v,vs',he,hr1,hr2⟩:=Zb.1 hr;obtain⟨u,h1,h2⟩:=Z4N (P:=P) (w:=w) (β:=β) (G:=G) (g:=Builtin.max2) ZdP hdd hr1 hr2;refine Yb.pure hh (v:=u) ?_ h2;obtain⟨cs,hcs⟩:=q _ hb;rw[hcs];simp[Go.builtin,Builtin.max_,he,h1]
  ·cases f
 ·cases f
theorem ZdH (hE:∀t ti,E.ty t=some ti->ZW P t ti) (hf:FrM β G ρ a.tmps) (hh:HR E w0 G0 D w β G h) (hfr:ZR β h nid) {r:Out}
    (hd:ZE E nid ρ h o.op=some r):Yb P E w0 G0 D o a w β G h nid r:=by
  cases ho:o.op with
  | call c=>rw[ho]at hd;exact Zfr hE hf hh hfr ho hd
  | move x =>
    rw[ho]at hd;simp only[ZE]at hd;obtain⟨d,h1,hd⟩:=Z0 hd;cases hd;exact Yb.pure hh (by unfold execOp;rw[ho];rfl) (Zq hf h1)
  | assign x =>
    rw[ho]at hd;simp only[ZE]at hd;obtain⟨d,h1,hd⟩:=Z0 hd;cases hd;exact Yb.pure hh (by unfold execOp;rw[ho];rfl) (Zq hf h1)
  | pick c x y =>
    rw[ho]at hd;simp only[ZE]at hd;obtain⟨dc,hc,hd⟩:=Z0 hd;split at hd
    · rename_i b
      have hcv:=ZL.1 (Zq hf hc);have hr:(execOp a.eval o).run P w=.ok (.value (if b then a.eval x else a.eval y)) w:=by
        unfold execOp;rw[ho];simp[hcv,asBool]
      cases b
      · obtain⟨d,h1,hd⟩:=Z0 hd
        cases hd;exact Yb.pure hh hr (Zq hf h1)
      · obtain⟨d,h1,hd⟩:=Z0 hd
        cases hd;exact Yb.pure hh hr (Zq hf h1)
    · cases hd
  | alloc t =>
    rw[ho]at hd;simp only[ZE]at hd;obtain⟨ti,hti,hd⟩:=Z0 hd;cases hd;exact ZbV hh hfr (hE t ti hti) ho
  | box t x =>
    rw[ho]at hd;simp only[ZE]at hd;obtain⟨d,h1,hd⟩:=Z0 hd;obtain⟨hq,hd⟩:=Z3 hd;cases hd;exact Zfi hh hfr ho (Zq hf h1) hq
  | build t ps =>
    rw[ho]at hd;simp only[ZE]at hd;have hrf:∃d,r=⟨some d,[]⟩:=by
      obtain⟨ti,hti,hd⟩:=Z0 hd;obtain⟨vs,hvs,hd⟩:=Z0 hd;split at hd
      · obtain⟨cs,hcs,hd⟩:=Z0 hd
        cases hd;exact⟨_,rfl⟩
      · obtain⟨ei,hei,hd⟩:=Z0 hd
        obtain⟨cs,hcs,hd⟩:=Z0 hd;cases hd;exact⟨_,rfl⟩
      · cases hd
    obtain⟨d,rfl⟩:=hrf;obtain⟨v,h1,h2⟩:=Zc2 (P:=P) (w:=w) (β:=β) (G:=G) hE hf hd;exact Yb.pure hh (YN (by unfold execOp;rw[ho]) h1) h2
  | buildSlice t n ps =>
    rw[ho]at hd;obtain⟨v,w',β',G',h1,h2,h3,h4,h5⟩:=Z75 (P:=P) (a:=a) hE hf hh hfr hd;exact⟨.value v,v,w',β',G',YN (by unfold execOp;rw[ho]) h1,.inl rfl,h2,h3,h4,h5⟩
  | load t x =>
    rw[ho]at hd;simp only[ZE]at hd;obtain⟨ti,hti,hd⟩:=Z0 hd;obtain⟨dx,hx,hd⟩:=Z0 hd;obtain⟨d,h1,hd⟩:=Z0 hd;cases hd;obtain⟨v,h2,h3⟩:=Z97 hE hh (hE t ti hti) (hE t ti hti).ko (Zq hf hx) h1;exact Yb.pure hh (YN (by unfold execOp;rw[ho]) h2) h3
  | store t x y =>
    rw[ho]at hd;simp only[ZE]at hd;obtain⟨ti,hti,hd⟩:=Z0 hd;obtain⟨dx,hx,hd⟩:=Z0 hd;obtain⟨dy,hy,hd⟩:=Z0 hd;obtain⟨us,h1,hd⟩:=Z0 hd;cases hd;obtain⟨w',h2,h3,h4⟩:=Zdd (nid:=nid) hh (hE t ti hti) (Zq hf hx) (Zq hf hy) h1;exact⟨.skip,undef,w',β,G,Zi4 (by unfold execOp;rw[ho]) h2,.inr ⟨rfl,rfl⟩,fun d hd=>by cases hd;exact Z3W,Ext.refl β G,h3,h4⟩
  | nilCheck x =>
    rw[ho]at hd;simp only[ZE]at hd;obtain⟨d,h1,hd⟩:=Z0 hd;have hr:=Zq hf h1;have key:∀A,a.eval x=.pointer (some A)->(execOp a.eval o).run P w=.ok (.value (a.eval x)) w:=fun A hA=>by
      unfold execOp;rw[ho];simp[hA]
    split at hd
    · cases hd
      obtain⟨b,_,h2⟩:=Z1x.1 hr;exact Yb.pure hh (key _ h2) hr
    · cases hd
      obtain⟨b,_,_,_,h2⟩:=Z1V.1 hr;exact Yb.pure hh (key _ h2) hr
    · cases hd
      obtain⟨_,b,_,h2,_⟩:=Z5s.1 hr;exact Yb.pure hh (key _ h2) hr
    · cases hd
  | binOp op t x y z =>
    rw[ho]at hd;simp only[ZE]at hd;obtain⟨dx,hx,hd⟩:=Z0 hd;obtain⟨dy,hy,hd⟩:=Z0 hd;obtain⟨d,h1,hd⟩:=Z0 hd;cases hd;split at h1
    · have e1:=Z5r.1 (Zq hf hx)
      have e2:=Z5r.1 (Zq hf hy);obtain⟨hc,h1⟩:=Z3 h1;obtain⟨v,h2,h3⟩:=ZdR (P:=P) (w:=w) (β:=β) (G:=G) (x:=x) (y:=y) hE hc h1;exact Yb.pure hh (YN (by unfold execOp;rw[ho]) (by rw[e1,e2];exact h2)) h3
    · obtain⟨v,h2,h3⟩:=Zdy (P:=P) (w:=w) (x:=x) (y:=y) hE h1 (Zq hf hx) (Zq hf hy)
      exact Yb.pure hh (YN (by unfold execOp;rw[ho]) h2) h3
  | unOp op t x =>
    rw[ho]at hd;simp only[ZE]at hd;obtain⟨dx,hx,hd⟩:=Z0 hd;obtain⟨d,h1,hd⟩:=Z0 hd;cases hd;obtain⟨v,h2,h3⟩:=ZfU (P:=P) (w:=w) h1 (Zq hf hx);exact Yb.pure hh (YN (by unfold execOp;rw[ho]) h2) h3
  | convert s t x =>
    rw[ho]at hd;simp only[ZE]at hd;obtain⟨si,hsi,hd⟩:=Z0 hd;obtain⟨ti,hti,hd⟩:=Z0 hd;obtain⟨dx,hx,hd⟩:=Z0 hd;obtain⟨us,hus⟩:=(hE s si hsi).und;have hdesc:=(hE t ti hti).desc;have hr:=Zq hf hx;cases hk:ti.k with
    | int k =>
      rw[hk]at hd hdesc;cases dx with
      | int k' n =>
      cases hd;rw[ZG]at hr;refine Yb.pure hh (YN (v:=.int k (k.wrap n)) (by unfold execOp;rw[ho]) ?_) (ZG.2 rfl)
      simp[convert,ji hus,ji hdesc,hr,Conv.intToInt]
      | _=>cases hd
    | string =>
      rw[hk]at hd hdesc;cases dx with
      | str s' =>
      cases hd;rw[Y9]at hr;refine Yb.pure hh (YN (v:=.string s') (by unfold execOp;rw[ho]) ?_) (Y9.2 rfl)
      simp[convert,ji hus,ji hdesc,hr]
      | _=>cases hd
    | _=>rw[hk]at hd;cases hd
  | makeInterface t x =>
    rw[ho]at hd;simp only[ZE]at hd;obtain⟨ti,hti,hd⟩:=Z0 hd;obtain⟨dx,hx,hd⟩:=Z0 hd;have hk:ti.k≠.iface:=fun e=>by rw[e]at hd;cases hd
    have hd':ret (.iface t dx)=some r:=by
      cases hkk:ti.k<;>rw[hkk]at hd<;>first|exact hd|exact absurd hkk hk
    rw[Z1t hd'];obtain⟨h1,h2⟩:=Z88 (P:=P) (w:=w) (hE t ti hti) hk (Zq hf hx);exact Yb.pure hh (YN (by unfold execOp;rw[ho]) h1) h2
  | typeAssert x xt t ok =>
    rw[ho]at hd;simp only[ZE]at hd;obtain⟨ti,hti,hd⟩:=Z0 hd;obtain⟨dx,hx,hd⟩:=Z0 hd;have hk:ti.k≠.iface:=fun e=>by rw[e]at hd;cases dx<;>cases hd
    have:∃d,(match dx with
      | .nilif=>bif ok then(Z1e ti).bind fun z=>some (.tup [z,.bool false])else none
      | .iface t' v=>bif Nat.beq t' t then some (bif ok then .tup [v,.bool true]else v)else bif ok then(Z1e ti).bind fun z=>some (.tup [z,.bool false])else none
      | _=>none:Option DV)=some d/\r=⟨some d,[]⟩:=by
      cases dx with
      | nilif =>
        have hd':(bif ok then(Z1e ti).bind fun z=>ret (.tup [z,.bool false])else none)=some r:=by
          cases hkk:ti.k<;>rw[hkk]at hd<;>first|exact hd|exact absurd hkk hk
        cases ok with
        | false=>cases hd'
        | true =>
          obtain⟨z,hz,hd'⟩:=Z0 hd';exact⟨_,by simp[hz],Z1t hd'⟩
      | iface t' v =>
        have hd':(bif Nat.beq t' t then ret (bif ok then .tup [v,.bool true]else v)else bif ok then(Z1e ti).bind fun z=>ret (.tup [z,.bool false])else none)=some r:=by
          cases hkk:ti.k<;>rw[hkk]at hd<;>first|exact hd|exact absurd hkk hk
        simp only;cases hq:Nat.beq t' t with
        | true=>rw[hq]at hd';exact⟨_,rfl,Z1t hd'⟩
        | false =>
          rw[hq]at hd';cases ok with
          | false=>cases hd'
          | true =>
            obtain⟨z,hz,hd'⟩:=Z0 hd';exact⟨_,by simp[hz],Z1t hd'⟩
      | _=>cases hkk:ti.k<;>rw[hkk]at hd<;>cases hd
    obtain⟨d,h1,rfl⟩:=this;obtain⟨v,h2,h3⟩:=Z7F (P:=P) (w:=w) (xt:=xt) (hE t ti hti) hk h1 (Zq hf hx);exact Yb.pure hh (YN (by unfold execOp;rw[ho]) h2) h3
  | makeSlice t l c =>
    rw[ho]at hd;simp only[ZE]at hd;obtain⟨ti,hti,hd⟩:=Z0 hd;obtain⟨dl,hl,hd⟩:=Z0 hd;obtain⟨dc,hc,hd⟩:=Z0 hd;cases hk:ti.k with
    | slice e =>
     rw[hk]at hd;obtain⟨k1,n,rfl⟩:∃k n,dl=.int k n:=by cases dl<;>first|exact⟨_,_,rfl⟩|cases hd
     obtain⟨k2,n',rfl⟩:∃k n,dc=.int k n:=by cases dc<;>first|exact⟨_,_,rfl⟩|cases hd
     simp only at hd;obtain⟨ei,hei,hd⟩:=Z0 hd;obtain⟨hq,hd⟩:=Z3 hd;cases hd;simp only[jn,jl,beq_iff_eq]at hq;obtain⟨⟨⟨⟨q1,q2⟩,q3⟩,q4⟩,q5⟩:=hq;subst q1;have e1:=Zq hf hl;have e2:=Zq hf hc;rw[ZG]at e1 e2;obtain⟨v,w',β',h1,h2,h3,h4,h5⟩:=Z89 (P:=P) (k1:=k1) (k2:=k2) hE hh hfr (hE t ti hti) hk hei q2 (je q3) (je q4) q5;rw[<-e1,<-e2]at h1;exact⟨_,v,w',β',G,YN (by unfold execOp;rw[ho]) h1,.inl rfl,fun d hd=>by cases hd;exact h2,h3,h4,h5⟩
    | _=>rw[hk]at hd;cases hd
  | makeFunc f x y =>
    rw[ho]at hd;simp only[ZE]at hd;obtain⟨dx,hx,hd⟩:=Z0 hd;obtain⟨dy,hy,hd⟩:=Z0 hd;cases hd;refine Yb.pure hh (YN (v:=.func f (x.map a.eval) (y.map a.eval)) (by unfold execOp;rw[ho]) rfl) (Zby.2 ⟨_,_,?_,Z1F hf hx,Z1F hf hy⟩)
    congr 1<;>(apply Array.ext';simp)
  | makeMap t x =>
    cases x with
    | some x=>rw[ho]at hd;simp[ZE]at hd
    | none =>
      rw[ho]at hd;simp only[ZE]at hd;cases hd;obtain⟨β',h1,h2,h3,h4⟩:=ZhD hh hfr;refine⟨_,.map (some w.heap.size),_,β',G,YN (by unfold execOp;rw[ho]) ?_,.inl rfl,fun d hd=>by cases hd;exact Z8m.2 ⟨_,h2,rfl⟩,h1,h3,h4⟩
      simp[Instr.makeMap]
  | slice t x lo hi mx =>
    cases mx with
    | some m=>rw[ho]at hd;simp[ZE]at hd
    | none =>
      rw[ho]at hd;simp only[ZE]at hd;obtain⟨ti,hti,hd⟩:=Z0 hd;obtain⟨dx,hx,hd⟩:=Z0 hd;obtain⟨dl,hl,hd⟩:=Z0 hd;obtain⟨dh,hhi,hd⟩:=Z0 hd;have hdesc:=(hE t ti hti).desc;have hr:=Zq hf hx;have hlo:=ZeT hf hl;have hhr:=ZeT hf hhi;cases hk:ti.k with
      | string =>
        rw[hk]at hdesc hd;cases dx with
        | str s =>
          obtain⟨d,h1,hd⟩:=Z0 hd;cases hd;rw[Y9]at hr;unfold Zej at h1;obtain⟨m,k1,h1⟩:=Z0 h1;obtain⟨l,k2,h1⟩:=Z0 h1;cases h1;obtain⟨k3,_,_⟩:=Z2R (P:=P) (w:=w) (isSlice:=false) hlo hhr k1 k2 (Nat.le_refl _);refine Yb.pure hh (YN (v:=.string (s.extract l m)) (by unfold execOp;rw[ho]) ?_) (Y9.2 rfl)
          simp[Instr.sliceAt,Instr.slice,ji hdesc,hr,k3]
        | _=>cases hd
      | array n e =>
        rw[hk]at hd;cases dx with
        | ptr id off =>
          simp only at hd;obtain⟨ei,hei,hd⟩:=Z0 hd;obtain⟨ob,hob,hd⟩:=Z0 hd;cases ob with
          | cells ct cs =>
            obtain⟨hq,hd⟩:=Z3 hd;obtain⟨d,h1,hd⟩:=Z0 hd;cases hd;simp only[jn]at hq;obtain⟨v,G1,h2,h3,h4,h5⟩:=Z9D (P:=P) hE hh (hE t ti hti) hk hei hr hob (je hq.1.1) (je hq.1.2) hq.2 hlo hhr h1;exact⟨_,v,w,β,G1,YN (by unfold execOp;rw[ho]<;>rfl) h2,.inl rfl,fun d hd=>by cases hd;exact h3,h4,h5,fun i _ hq=>⟨by rw[ZU];split;exact rfl;exact hq,rfl,fun _=>rfl⟩⟩
          | _=>cases hd
        | _=>cases hd
      | slice e =>
        rw[hk]at hd;simp only at hd;obtain⟨ei,hei,hd⟩:=Z0 hd;obtain⟨es,hes,hd⟩:=Z0 hd;obtain⟨hq,hd⟩:=Z3 hd;simp only[jn,List.all_eq_true]at hq;have hql:∀c∈es,c.length=ei.size:=fun c hc=>jf (hq.1 c hc);cases hvw:ti.view&&Z39 h dx with
        | true =>
          rw[hvw]at hd;simp only[jB]at hd;obtain⟨d,h1,hd⟩:=Z0 hd;cases hd;obtain⟨v,h2,h3⟩:=Zen (P:=P) (w:=w) hh (hE t ti hti) hk (hE e ei hei) hes hr hlo hhr h1;exact Yb.pure hh (YN (by unfold execOp;rw[ho]<;>rfl) h2) h3
        | false =>
        rw[hvw]at hd;simp only[jA]at hd;obtain⟨d,h1,hd⟩:=Z0 hd;cases hd;obtain⟨G1,hx1,hh1,hs1⟩:=Z1L hh (Zj dx);have hsh:∃A c,a.eval x=.slice A es.length c/\es.length<=c/\(es=[]\/∃b off,A=some ⟨b,off,none⟩/\Yv β G1 b ei.size off es):=by
          cases dx with
          | nils=>cases hes;exact⟨none,0,Z1U.1 hr,Nat.le_refl _,.inl rfl⟩
          | sl es' =>
            cases hes;obtain⟨A,c,⟨k1,k2⟩,k3⟩:=Z4n.1 hr;refine⟨A,c,k1,k2,?_⟩;rcases k3 with k3|⟨b,off,e',k3,k4⟩
            · exact .inl k3
            · exact Z3x (Yv.mono hx1 _ _ _ _ k4) hql |>.imp (fun z=>z) fun k=>⟨b,off,k3,k⟩
          | rs id ver =>
            simp only[Y4]at hes;obtain⟨ob,hob,hes⟩:=Z0 hes;split at hes
            · rename_i t' es' p u
              obtain⟨hu,hes⟩:=Z3 hes;cases hes;have hu:u=ver:=jf hu;subst hu;obtain⟨p',hp'⟩:=Z2a h (Zj (.rs id u)) _ _ _ _ _ hob;obtain⟨hdr,k1,A,c,⟨k2,k3⟩,k4⟩:=hs1 id (by simp[Zj]) _ _ _ _ hp'
              obtain⟨k5,_⟩:=Z2K.1 hr;rw[k1]at k5;cases k5;refine⟨A,c,k2,k3,?_⟩;rcases k4 with k4|⟨b,k4,k6⟩
              · exact .inl k4
              · exact Z3x k6 hql |>.imp (fun z=>z) fun k=>⟨b,0,k4,k⟩
            · cases hes
          | rv id ver i n e' =>
            simp only[Y4]at hes;obtain⟨ob,hob,hes⟩:=Z0 hes;split at hes
            · rename_i t' es' p u
              obtain⟨hu,hes⟩:=Z3 hes;cases hes;simp only[jn,List.all_eq_true]at hu;obtain⟨hu,hlen⟩:=hu;have hu:u=ver:=jf hu;subst hu;obtain⟨p',hp'⟩:=Z2a h (Zj (.rv id u i n e')) _ _ _ _ _ hob;obtain⟨hdr,k1,A,c,⟨k2,k3⟩,k4⟩:=hs1 id (by simp[Zj]) _ _ _ _ hp'
              obtain⟨a0,m,c0,a',c',k5,k7,k8,hle,hz⟩:=Zbz.1 hr;rw[k1,k2]at k5;cases k5;have hnl:((es'.drop i).take n).length=n:=by simp;omega
              refine⟨_,c',by rw[hnl];exact k7,by rw[hnl];exact k8,?_⟩
              rcases hz with hz|⟨b,hz1,hz2⟩
              · exact .inl (by rw[hz];simp)
              rcases k4 with k4|⟨b',k4,k6⟩
              · exact .inl (by rw[k4];simp)
              · rw[hz1]at k4
                cases k4;rcases Z3x (e':=e') k6 (fun c hc=>jf (hlen c hc))with k|k
                · exact .inl (by rw[k];simp)
                · have:=Z3P n (Z3O i k)
                  rw[Nat.zero_add]at this;exact Z3x this hql |>.imp (fun z=>z) fun k=>⟨_,i*e',hz2,k⟩
            · cases hes
          | _=>cases hes
        obtain⟨v,h2,h3⟩:=Zd8 (P:=P) (w:=w) (hE t ti hti) hk (hE e ei hei) hsh (Z6F hx1 hlo) (Z6F hx1 hhr) h1;exact⟨_,v,w,β,G1,YN (by unfold execOp;rw[ho]<;>rfl) h2,.inl rfl,fun d hd=>by cases hd;exact h3,hx1,hh1,Z7z _⟩
      | _=>rw[hk]at hd;cases hd
  | fieldAddr s x f =>
    rw[ho]at hd;simp only[ZE]at hd;obtain⟨ti,hti,hd⟩:=Z0 hd;obtain⟨dx,hx,hd⟩:=Z0 hd;split at hd
    · rename_i fs hk
      obtain⟨⟨ft,off⟩,hfs,hd⟩:=Z0 hd;obtain⟨fi,hfi,hd⟩:=Z0 hd;obtain⟨hq,hd⟩:=Z3 hd;obtain⟨d,h1,hd⟩:=Z0 hd;cases hd;obtain⟨v,h2,h3⟩:=Z9V (P:=P) (w:=w) hE (hE s ti hti) hk hfs hfi (je hq) (Zq hf hx) h1;exact Yb.pure hh (YN (by unfold execOp;rw[ho]) h2) h3
    · cases hd
  | field s x f =>
    rw[ho]at hd;simp only[ZE]at hd;obtain⟨ti,hti,hd⟩:=Z0 hd;obtain⟨dx,hx,hd⟩:=Z0 hd;have:∃d,(match ti.k,dx with
      | .struct fs,.agg cs=>(fs[f]?).bind fun(ft,off)=>(E.ty ft).bind fun fi=>YO fi cs off
      | _,_=>none)=some d/\r=⟨some d,[]⟩:=by
      split at hd
      · rename_i hk2
        obtain⟨⟨ft,off⟩,hfs,hd⟩:=Z0 hd;obtain⟨fi,hfi,hd⟩:=Z0 hd;obtain⟨d,h1,hd⟩:=Z0 hd;cases hd;exact⟨d,by(try rw[hk2]);simp only at hfi h1;simp[hfs,hfi,h1],rfl⟩
      · cases hd
    obtain⟨d,h1,rfl⟩:=this;obtain⟨v,h2,h3⟩:=Zcc (P:=P) (w:=w) hE (hE s ti hti) h1 (Zq hf hx);exact Yb.pure hh (YN (by unfold execOp;rw[ho]) h2) h3
  | indexAddr t x i =>
    rw[ho]at hd;simp only[ZE]at hd;obtain⟨ti,hti,hd⟩:=Z0 hd;obtain⟨dx,hx,hd⟩:=Z0 hd;obtain⟨di,hi,hd⟩:=Z0 hd;have hrx:=Zq hf hx;have hri:=Zq hf hi;cases hk:ti.k with
    | array len e =>
      rw[hk]at hd;obtain⟨ei,hei,hd⟩:=Z0 hd;obtain⟨j,hj,hd⟩:=Z0 hd;obtain⟨d,h1,hd⟩:=Z0 hd;cases hd;obtain⟨v,h2,h3⟩:=Z9W (P:=P) (w:=w) (hE t ti hti) hk (hE e ei hei) hrx hri hj h1;exact Yb.pure hh (YN (by unfold execOp;rw[ho]) h2) h3
    | slice e =>
      rw[hk]at hd;simp only at hd;obtain⟨ei,hei,hd⟩:=Z0 hd;cases dx with
      | sl es =>
        obtain⟨j,hj,hd⟩:=Z0 hd;obtain⟨c,hc,hd⟩:=Z0 hd;obtain⟨hq,hd⟩:=Z3 hd;cases hd;simp only[jn]at hq;have hcl:c.length=ei.size:=jf hq.1;obtain⟨A,cap,⟨k1,k2⟩,k3⟩:=Z4n.1 hrx;rcases k3 with k3|⟨b,off,e',rfl,k4⟩
        · subst k3;simp at hc
        · obtain⟨m1,m2,m3⟩:=ZcL k4 hc
          have he:e'=ei.size:=by omega
          subst he;have h2:=Z5D (P:=P) (w:=w) (c:=cap) (A:=⟨b,off,none⟩) (hE t ti hti) hk (hE e ei hei) hri hj;refine Yb.pure hh (YN (v:=.pointer (some ((⟨b,off,none⟩:Addr).add (j*ei.size)))) (by unfold execOp;rw[ho]) ?_) (Z5s.2 ⟨m1,b,off+j*ei.size,by rw[Yn],?_⟩)
          · rw[k1];exact h2
          · exact m2
      | rs id ver =>
        obtain⟨ob,hob,hd⟩:=Z0 hd;split at hd
        · rename_i t' es p u
          obtain⟨j,hj,hd⟩:=Z0 hd;obtain⟨hq,hd⟩:=Z3 hd;cases hd;simp only[jn]at hq;have hu:u=ver:=jf hq.1;subst hu;obtain⟨k5,_⟩:=Z2K.1 hrx;obtain⟨hdr,vals,n1,n2,_⟩:=hh.obj id _ hob;rw[n1]at k5;cases k5;obtain⟨kk,hkk,hlt⟩:=Z4R hj hri;rcases n2.2 with⟨n3,n4⟩|⟨g,cap,cur,n3,_⟩
          · omega
          · have h2:=Z5D (P:=P) (w:=w) (c:=cap) (A:=⟨g,0,none⟩) (hE t ti hti) hk (hE e ei hei) hri hj
            refine Yb.pure hh (YN (v:=.pointer (some ((⟨g,0,none⟩:Addr).add (j*ei.size)))) (by unfold execOp;rw[ho]) ?_) (Z1V.2 ⟨g,es.length,cap,by rw[n1,n3],by rw[Yn];simp⟩)
            rw[n3];exact h2
        · cases hd
      | _=>cases hd
    | _=>rw[hk]at hd;cases hd
  | index t x i =>
    rw[ho]at hd;simp only[ZE]at hd;obtain⟨ti,hti,hd⟩:=Z0 hd;obtain⟨dx,hx,hd⟩:=Z0 hd;obtain⟨di,hi,hd⟩:=Z0 hd;have:∃d,(match ti.k,dx with
      | .array len e,.agg cs=>(E.ty e).bind fun ei=>(Z3a len di).bind fun i=>YO ei cs (i*ei.size)
      | .string,.str s=>(Z3a s.size di).bind fun i=>(s[i]?).bind fun b=>some (.int .u8 b.toNat)
      | _,_=>none)=some d/\r=⟨some d,[]⟩:=by
      cases hk2:ti.k with
      | array len e =>
        rw[hk2]at hd;cases dx with
        | agg cs =>
          obtain⟨ei,hei,hd⟩:=Z0 hd;obtain⟨j,hj,hd⟩:=Z0 hd;obtain⟨d,h1,hd⟩:=Z0 hd;cases hd;exact⟨d,by simp[hei,hj,h1],rfl⟩
        | _=>cases hd
      | string =>
        rw[hk2]at hd;cases dx with
        | str s =>
          obtain⟨j,hj,hd⟩:=Z0 hd;obtain⟨d,h1,hd⟩:=Z0 hd;cases hd;exact⟨_,by simp[hj,h1],rfl⟩
        | _=>cases hd
      | _=>rw[hk2]at hd;cases hd
    obtain⟨d,h1,rfl⟩:=this;obtain⟨v,h2,h3⟩:=Zcu (P:=P) (w:=w) hE (hE t ti hti) h1 (Zq hf hx) (Zq hf hi);exact Yb.pure hh (YN (by unfold execOp;rw[ho]) h2) h3
  | lookup t m k ok =>
    rw[ho]at hd;simp only[ZE]at hd;obtain⟨ti,hti,hd⟩:=Z0 hd;obtain⟨dm,hm,hd⟩:=Z0 hd;obtain⟨dk,hk,hd⟩:=Z0 hd;split at hd
    · rename_i kt e hkk
      obtain⟨ei,hei,hd⟩:=Z0 hd;obtain⟨ki,hki,hd⟩:=Z0 hd;obtain⟨hq,hd⟩:=Z3 hd;simp only[jn,Bool.not_eq_true']at hq;obtain⟨⟨hq1,hq2⟩,hq3⟩:=hq;obtain⟨es,hes,hd⟩:=Z0 hd;obtain⟨q,hfind,hd⟩:=Z0 hd;have hz1:∃z,ei.zero=[z]:=by
        obtain⟨i,zv,_,_,_,_,hzs,hzr⟩:=(hE e ei hei).info;have:=ZP (hzr β G);have hsz:ei.size=1:=jf hq2;have h1:ei.zero.length=1:=by simp at this;omega
        exact List.length_eq_one_iff.1 h1
      obtain⟨z,hz⟩:=hz1;obtain⟨v,h2,h3⟩:=Zbf (P:=P) (w:=w) hE hh (hE t ti hti) hkk (hE e ei hei) (hE kt ki hki) (Zq hf hk) hq1 hes hfind hz (jf hq2) hq3 ok (Zq hf hm);rw[hz]at hd;cases q with
      | some d=>cases hd;exact Yb.pure hh (YN (by unfold execOp;rw[ho]) h2) h3
      | none=>cases hd;exact Yb.pure hh (YN (by unfold execOp;rw[ho]) h2) h3
    · cases hd
  | mapUpdate t m k x =>
    rw[ho]at hd;simp only[ZE]at hd;obtain⟨ti,hti,hd⟩:=Z0 hd;obtain⟨dm,hm,hd⟩:=Z0 hd;obtain⟨dk,hk,hd⟩:=Z0 hd;obtain⟨dx,hx,hd⟩:=Z0 hd;cases hkk:ti.k with
    | map kt e =>
      rw[hkk]at hd;cases dm with
      | map id =>
        obtain⟨ki,hki,hd⟩:=Z0 hd;obtain⟨ob,hob,hd⟩:=Z0 hd;split at hd
        · rename_i es
          obtain⟨hq,hd⟩:=Z3 hd;simp only[jn]at hq;obtain⟨es',hes,hd⟩:=Z0 hd;cases hd;obtain⟨w',h2,h3,h4⟩:=Z8a (P:=P) (nid:=nid) hh (hE t ti hti) hkk (hE kt ki hki) (Zq hf hm) (Zq hf hk) (Zq hf hx) hq.2 hq.1.1 hob hes;exact⟨.skip,undef,w',β,G,Zi4 (by unfold execOp;rw[ho]) h2,.inr ⟨rfl,rfl⟩,fun d hd=>by cases hd;exact Z3W,Ext.refl β G,h3,h4⟩
        · cases hd
      | _=>cases hd
    | _=>rw[hkk]at hd;cases hd
  | range t x =>
    rw[ho]at hd;simp only[ZE]at hd;obtain⟨ti,hti,hd⟩:=Z0 hd;obtain⟨dx,hx,hd⟩:=Z0 hd;have hdesc:=(hE t ti hti).desc;have hr:=Zq hf hx;cases hk:ti.k with
    | string =>
      rw[hk]at hd hdesc;cases dx with
      | str s =>
        rw[Y9]at hr;cases hd;obtain⟨β',h1,h2,h3,h4⟩:=ZfP hh hfr s;refine⟨_,.pointer (some ⟨w.heap.size,0,none⟩),_,β',G,YN (by unfold execOp;rw[ho]) ?_,.inl rfl,fun d hd=>by cases hd;exact ZcU.2 ⟨_,h2,rfl⟩,h1,h3,h4⟩
        simp[Instr.range,ji hdesc,hr]
      | _=>cases hd
    | _=>rw[hk]at hd;cases hd
  | next it s =>
    cases s with
    | false=>rw[ho]at hd;simp[ZE]at hd
    | true =>
      rw[ho]at hd;simp only[ZE]at hd;obtain⟨d,h1,hd⟩:=Z0 hd;split at hd
      · rename_i id
        obtain⟨ob,hob,hd⟩:=Z0 hd;split at hd
        · rename_i s pos
          obtain⟨b,hb,hv⟩:=ZcU.1 (Zq hf h1);obtain⟨b',hb',hw⟩:=hh.obj id _ hob;rw[hb]at hb';cases hb'
          by_cases hp:pos<s.size
          · simp only[hp,decide_true,jB]at hd
            cases hd;have hh':=Z5b (o':=.siter s (pos+(Utf8.decode s pos).2)) (ob':=.stringIter s (pos+(Utf8.decode s pos).2)) hh hob hb hw (by simp) (fun x hx=>by simp[Yu]at hx;rw[hb]at hx;cases hx;rfl)
              ⟨b,hb,by simp[World.putObj_heap_same (ja.1 hw).1]⟩
            refine⟨_,.tuple #[.bool true,.int .i64 (pos:Nat),.int .i32 (Utf8.decode s pos).1],_,β,G,YN (by unfold execOp;rw[ho]) ?_,.inl rfl,fun d hd=>?_,Ext.refl β G,hh',Z7f hob⟩
            · simp[Instr.next,hv,Z40 hw,hp,goInt,Z9w (P:=P) hw (by simp),Result.andThen]
            · cases hd
              exact YM.2 ⟨[.bool true,.int .i64 (pos:Nat),.int .i32 (Utf8.decode s pos).1],rfl,Zb.2 ⟨_,_,rfl,ZL.2 rfl,Zb.2 ⟨_,_,rfl,ZG.2 rfl,Zb.2 ⟨_,_,rfl,ZG.2 rfl,Zm.2 rfl⟩⟩⟩⟩
          · simp only[hp,decide_false,jA]at hd
            cases hd;refine Yb.pure hh (YN (v:=.tuple #[.bool false]) (by unfold execOp;rw[ho]) ?_) (YM.2 ⟨[.bool false],rfl,Zb.2 ⟨_,_,rfl,ZL.2 rfl,Zm.2 rfl⟩⟩)
            simp[Instr.next,hv,Z40 hw,hp,Result.andThen]
        · cases hd
      · cases hd
  | extract t i =>
    rw[ho]at hd;simp only[ZE]at hd;obtain⟨dx,hx,hd⟩:=Z0 hd;split at hd
    · rename_i vs
      obtain⟨d,h1,hd⟩:=Z0 hd;cases hd;obtain⟨us,he,hr⟩:=YM.1 (Zq hf hx);obtain⟨v,h2,h3⟩:=Z3T hr h1;refine Yb.pure hh (YN (v:=v) (by unfold execOp;rw[ho]) ?_) h3
      simp[Instr.extract,he,h2]
    · cases hd
  | _=>rw[ho]at hd;simp[ZE]at hd
end
end Go.Ab
namespace Go.Ab
namespace Tr
variable {α:Type}
theorem beq_dec (a b:Nat):Nat.beq a b=decide (a=b):=by
 by_cases h:a=b
 ·subst h;simp
 ·have:Nat.beq a b=false:=by
   cases hq:Nat.beq a b with
   | false=>rfl
   | true=>exact absurd (jf hq) h
  simp[this,h]
theorem blt_dec (a b:Nat):Nat.blt a b=decide (a<b):=by
 by_cases h:a<b
 ·have c:Nat.blt a b=true:=Nat.ble_eq_true_of_le h;rw[c];simp[h]
 ·have:Nat.blt a b=false:=by
   cases hq:Nat.blt a b with
   | false=>rfl
   | true=>exact absurd (je hq) h
  simp[this,h]
theorem get_leaf (k:Nat):(leaf:Tr α).get k=none:=rfl
theorem get_node (l r:Tr α) (v:Option α) (k:Nat):(node l v r).get k=if k=0 then v else if k % 2=1 then l.get (k / 2)else r.get (k / 2-1):=by
 rw[get,beq_dec,beq_dec]
 by_cases h:k=0
 ·simp[h]
 ·by_cases h2:k % 2=1<;>simp[h,h2]
theorem get_setAux:∀(n:Nat) (t:Tr α) (k:Nat) (v:Option α) (k':Nat),k<n->(setAux n t k v).get k'=if k'=k then v else t.get k'
 | 0,_,_,_,_,h=>by omega
 | n+1,.leaf,k,v,k',h=>by
  rw[setAux,beq_dec,beq_dec]
  by_cases h0:k=0
  ·subst h0;simp only[decide_true,jB,get_node,get_leaf]
   by_cases e:k'=0<;>simp[e]
  ·by_cases h1:k % 2=1
   ·simp only[h0,h1,decide_true,decide_false,jB,jA,get_node,get_leaf]
    by_cases e0:k'=0
    ·have:k'≠k:=by omega
     simp[e0];omega
    ·by_cases e1:k' % 2=1
     ·rw[if_neg e0,if_pos e1,get_setAux n .leaf (k / 2) v (k' / 2) (by omega),get_leaf]
      by_cases e:k'=k
      ·subst e;simp
      ·rw[if_neg e,if_neg (by omega)]
     ·rw[if_neg e0,if_neg e1];have:k'≠k:=by omega
      simp[this]
   ·simp only[h0,h1,decide_false,jA,get_node,get_leaf]
    by_cases e0:k'=0
    ·have:k'≠k:=by omega
     simp[e0];omega
    ·by_cases e1:k' % 2=1
     ·rw[if_neg e0,if_pos e1];have:k'≠k:=by omega
      simp[this]
     ·rw[if_neg e0,if_neg e1,get_setAux n .leaf (k / 2-1) v (k' / 2-1) (by omega),get_leaf]
      by_cases e:k'=k
      ·subst e;simp
      ·rw[if_neg e,if_neg (by omega)]
 | n+1,.node l x r,k,v,k',h=>by
  rw[setAux,beq_dec,beq_dec]
  by_cases h0:k=0
  ·subst h0;simp only[decide_true,jB,get_node]
   by_cases e:k'=0<;>simp[e]
  ·by_cases h1:k % 2=1
   ·simp only[h0,h1,decide_true,decide_false,jB,jA,get_node]
    by_cases e0:k'=0
    ·have:¬(0=k):=by omega
     simp[e0,this]
    ·by_cases e1:k' % 2=1
     ·simp only[if_neg e0,if_pos e1,get_setAux n l (k / 2) v (k' / 2) (by omega)]
      by_cases e:k'=k
      ·subst e;simp
      ·rw[if_neg e,if_neg (by omega)]
     ·have:k'≠k:=by omega
      simp[e0,e1,this]
   ·simp only[h0,h1,decide_false,jA,get_node]
    by_cases e0:k'=0
    ·have:¬(0=k):=by omega
     simp[e0,this]
    ·by_cases e1:k' % 2=1
     ·have:k'≠k:=by omega
      simp[e0,e1,this]
     ·simp only[if_neg e0,if_neg e1,get_setAux n r (k / 2-1) v (k' / 2-1) (by omega)]
      by_cases e:k'=k
      ·subst e;simp
      ·rw[if_neg e,if_neg (by omega)]
theorem get_set (t:Tr α) (k:Nat) (v:Option α) (k':Nat):(t.set k v).get k'=if k'=k then v else t.get k':=get_setAux _ t k v k' (by omega)
theorem mkn_get (l:Tr α) (v:Option α) (r:Tr α) (k:Nat):(mkn l v r).get k=(Tr.node l v r).get k:=by
 unfold mkn;split
 ·simp[get]
 ·rfl
theorem tm_get (f:Nat->α->Option (Option α)):∀(t t':Tr α) (a b:Nat),tm f t a b=some t' →
  ∀k,(t.get k=none/\t'.get k=none)\/∃x y,t.get k=some x/\f (a*k+b) x=some y/\t'.get k=y
 | .leaf,t',a,b,h,k=>by
  simp only[tm,jh]at h;subst h;exact .inl ⟨rfl,rfl⟩
 | .node l v r,t',a,b,h,k=>by
  simp only[tm]at h;obtain⟨l',c,h⟩:=Z0 h;obtain⟨v',hv,h⟩:=Z0 h;obtain⟨r',hr,h⟩:=Z0 h;cases h;rw[mkn_get,get_node,get_node]
  by_cases e0:k=0
  ·subst e0;simp only[if_true,Nat.mul_zero,Nat.zero_add];cases v with
   | none=>cases hv;exact .inl ⟨rfl,rfl⟩
   | some x=>exact .inr ⟨x,v',rfl,hv,rfl⟩
  ·by_cases e1:k % 2=1
   ·simp only[if_neg e0,if_pos e1];have:=tm_get f l l' _ _ c (k / 2)
    rwa [show 2*a*(k / 2)+(a+b)=a*k+b by
     have:k=2*(k / 2)+1:=by omega
     generalize k / 2=m at this;subst this;rw[Nat.mul_add,<-Nat.mul_assoc,Nat.mul_comm a 2];omega]at this
   ·simp only[if_neg e0,if_neg e1];have:=tm_get f r r' _ _ hr (k / 2-1)
    rwa [show 2*a*(k / 2-1)+(2*a+b)=a*k+b by
     have:k=2*(k / 2-1)+2:=by omega
     generalize k / 2-1=m at this;subst this;rw[Nat.mul_add,<-Nat.mul_assoc,Nat.mul_comm a 2];omega]at this
theorem filt_get (m:Nat):∀(t:Tr α) (a b k:Nat),(t.filt m a b).get k=bif Nat.testBit m (a*k+b)then t.get k else none
 | .leaf,a,b,k=>by cases Nat.testBit m (a*k+b)<;>rfl
 | .node l v r,a,b,k=>by
  simp only[filt];rw[mkn_get,get_node,get_node]
  by_cases e0:k=0
  ·subst e0;simp only[if_true,Nat.mul_zero,Nat.zero_add]
  ·by_cases e1:k % 2=1
   ·simp only[if_neg e0,if_pos e1];rw[filt_get m l,show 2*a*(k / 2)+(a+b)=a*k+b by
     have:k=2*(k / 2)+1:=by omega
     generalize k / 2=m at this;subst this;rw[Nat.mul_add,<-Nat.mul_assoc,Nat.mul_comm a 2];omega]
   ·simp only[if_neg e0,if_neg e1];rw[filt_get m r,show 2*a*(k / 2-1)+(2*a+b)=a*k+b by
     have:k=2*(k / 2-1)+2:=by omega
     generalize k / 2-1=m at this;subst this;rw[Nat.mul_add,<-Nat.mul_assoc,Nat.mul_comm a 2];omega]
theorem filt_sub {m:Nat} {t:Tr α} {k:Nat} {x:α} (h:(t.filt m 1 0).get k=some x):t.get k=some x:=by
 rw[filt_get]at h;cases hm:Nat.testBit m (1*k+0)with
 | true=>rw[hm]at h;exact h
 | false=>rw[hm]at h;cases h
theorem tm_get1 {f:Nat->α->Option (Option α)} {t t':Tr α} (h:tm f t 1 0=some t') (k:Nat):(t.get k=none/\t'.get k=none)\/∃x y,t.get k=some x/\f k x=some y/\t'.get k=y:=by
 have:=tm_get f t t' 1 0 h k;simpa using this
end Tr
theorem Z2B (o:Tr Zd):∀(us:List (Nat×Option Zd)) (i:Nat),(Ya o us).get i=ZJ o.get us i:=by
 intro us
 induction us generalizing o with
 | nil=>intro i;rfl
 | cons u us ih =>
  intro i;obtain⟨j,x⟩:=u;rw[Ya,ih,];unfold ZJ;simp only[Zw];cases hq:Zw i us with
  | some y=>rfl
  | none =>
   rw[Tr.get_set,Tr.beq_dec]
   by_cases e:i=j
   ·subst e;simp
   ·have:¬j=i:=fun h=>e h.symm;simp[e,this]
end Go.Ab
namespace Go.Ab
open Go.RowKit
def fw (ro:Option Nat):Fence:={ Fence.wide with round:=ro }
def ZgB (d:Nat):Deferred:={ target:=.collected d,args := #[] }
def ZfZ (P:Program) (g:FuncId):Prop:=∀(n:Nat) (cap:Array Value) (w:World),(invoke (.fn (.func g) cap) #[]).run P w=.ok (.enter g cap) w ∧
 CallsDIn Fence.wide n P g cap .returning w fun e u' w'=>(∃v,e=.returned v)/\u'=.returning/\w'=w
inductive Z87 (E:Env):List Nat->List Deferred->Prop where
 | nil:Z87 E [] []
 | mark {own:List Nat} {ds:List Deferred} (d:Nat):Z87 E own ds->Z87 E (d::own) (ZgB d::ds)
 | fn {own:List Nat} {ds:List Deferred} {g:Nat} (cap:Array Value):E.dfr g=true->Z87 E own ds->Z87 E own ({ target:=.fn (.func g) cap,args := #[] }::ds)
structure Go2 (nx:Nat) (β:Bi) (G:Gh) (β':Bi) (G':Gh) (h h':Nat->Option Zd):Prop where
 ext:Ext β G β' G'
 keep:∀id,id<nx->Z15 β β' h h' id
theorem Go2.refl (nx:Nat) (β:Bi) (G:Gh) (h:Nat->Option Zd):Go2 nx β G β G h h:=⟨Ext.refl β G,fun id _=>Z15.refl β h id⟩
theorem Go2.trans {nx:Nat} {β β' β'':Bi} {G G' G'':Gh} {h h' a:Nat->Option Zd} (x:Go2 nx β G β' G' h h') (y:Go2 nx β' G' β'' G'' h' a):Go2 nx β G β'' G'' h a :=
 ⟨x.ext.trans y.ext,fun id hi=>(x.keep id hi).trans (y.keep id hi)⟩
theorem Go2.less {nx nx':Nat} {β β':Bi} {G G':Gh} {h h':Nat->Option Zd} (x:Go2 nx β G β' G' h h') (a:nx'<=nx):Go2 nx' β G β' G' h h':=⟨x.ext,fun id hi=>x.keep id (Nat.lt_of_lt_of_le hi a)⟩
structure MI (E:Env) (w0:World) (G0:Gh) (outer:DD) (V nt:Nat) (own:List Nat) (ρ:Nat->Option DV) (base:Tr DV) (h:Nat->Option Zd) (nx:Nat) (a:Act) (w:World) (β:Bi) (G:Gh):Prop where
 fr:FrM β G ρ a.tmps
 dom:∀t d,base.get t=some d->Nat.testBit V t=true
 sz:a.tmps.size=nt
 hr:HR E w0 G0 (YQ own outer) w β G h
 fresh:∀id,nx<=id->ZR β h id
 df:Z87 E own a.defers/\ZaO own outer
def Z1j (P:Program) (g:FuncId):Prop:=∀args w,(callFunc g args).run P w=.ok (.enter g args) w
def Z37 (P:Program) (E:Env) (call:Nat->List DV->Option DV):Prop:=∀g as d,call g as=some d->Z1j P g ∧
 ∀(w:World) (β:Bi) (G:Gh) (vs:Array Value),E.inv w->(∀b o v,G b o=some v->w.cell? ⟨b,o,none⟩=some v)->Zi β G as vs.toList->Zc as=true →
  Calls P g vs w fun e w'=>∃v G',e=.returned v/\Below w.heap.size w w'/\(∀b,b<w.heap.size->G' b=G b)/\(∀b o v,G' b o=some v->w'.cell? ⟨b,o,none⟩=some v)/\Zh d=true/\Rep β G' d v
def Z1o (E:Env) (w0:World) (G0:Gh) (D:DD) (β:Bi) (G:Gh) (objs:Tr Zd) (nx:Nat) (r:DV) (objs':Tr Zd) (nx':Nat) (e:Ending) (w':World):Prop :=
 ∃v β' G',e=.returned v/\nx<=nx'/\Go2 nx β G β' G' objs.get objs'.get/\HR E w0 G0 D w' β' G' objs'.get/\(∀id,nx'<=id->ZR β' objs'.get id)/\Rep β' G' r v
def YX (P:Program) (E:Env) (callH:Yi):Prop:=∀g as objs nx r objs' nx',callH g as objs nx=some (r,objs',nx')->Z1j P g ∧
 ∀(w0:World) (G0:Gh) (D:DD) (w:World) (β:Bi) (G:Gh) (vs:Array Value),HR E w0 G0 D w β G objs.get->(∀id,nx<=id->ZR β objs.get id)->Zi β G as vs.toList →
  Calls P g vs w (Z1o E w0 G0 D β G objs nx r objs' nx')
def Z1f (P:Program) (E:Env) (callY:Yi):Prop:=∀l as objs nx r objs' nx',callY l as objs nx=some (r,objs',nx') →
 ∀(w0:World) (G0:Gh) (D:DD) (w:World) (β:Bi) (G:Gh) (vs:Array Value) (b:Nat),β.blk l=some b->HR E w0 G0 D w β G objs.get->(∀id,nx<=id->ZR β objs.get id)->Zi β G as vs.toList →
  ∃lf tm as' bo,(Instr.yield b vs).run P w=.ok (.round b lf tm as' bo) w/\∀n,RoundIn Fence.wide n P b lf tm as' bo w (Z1o E w0 G0 D β G objs nx r objs' nx')
section
variable {P:Program} {E:Env} {w0:World} {G0:Gh} {D:DD} {o:Oper} {a:Act} {w:World} {β:Bi} {G:Gh} {h:Nat->Option Zd} {nid:Nat} {ρ:Nat->Option DV} {ro:Option Nat} {n:Nat}
theorem Z6k {g:FuncId} {args:Array Value} {R:Ending->World->Prop} (h:Calls P g args w R):CallsIn (fw ro) n P g args w R:=by
 have:=(callsIn_wide (n:=n)).2 h;exact this
theorem ZgV {l:Nat} {f:FuncId} {tm:Array Value} {as bo:Code} {R:Ending->World->Prop} (h:RoundIn Fence.wide n P l f tm as bo w R):RoundIn (fw ro) n P l f tm as bo w R:=h
theorem HR.grow {w':World} {G':Gh} (hh:HR E w0 G0 D w β G h) (e:Below w.heap.size w w') (g:∀b,b<w.heap.size->G' b=G b) (l:∀b o v,G' b o=some v->w'.cell? ⟨b,o,none⟩=some v) :
  HR E w0 G0 D w' β G' h/\Ext β G β G':=by
 have m:Ext β G β G':=⟨fun b o v j=>by
  have a:b<w.heap.size:=by
   rcases Nat.lt_or_ge b w.heap.size with i|i
   ·exact i
   ·rw[glt hh i o]at j;cases j
  rw[g b a];exact j,fun _ _ h=>h,fun _ _ _ h=>h⟩
 refine⟨⟨?_,?_,l,?_,?_,hh.inj,?_,hh.inv0⟩,m⟩
 ·exact hh.below.trans ⟨e.os,e.tape,e.output,e.size,fun k p=>e.block k (by have:=hh.below.size;omega)⟩
 ·intro b a;rw[<-hh.g0 b a];exact g b (by have:=hh.below.size;omega)
 ·intro id ob f;refine Z2p.keep m (fun _=>rfl) (fun b c=>?_) (hh.obj id ob f);have a:=(hh.own id ob b f c).2.1;exact⟨e.block b a,fun off=>by rw[g b a]⟩
 ·intro id ob b f c;obtain⟨k1,k2,k3⟩:=hh.own id ob b f c;exact⟨k1,Nat.lt_of_lt_of_le k2 e.size,k3⟩
 ·intro d x n;obtain⟨k1,k2,k3⟩:=hh.marks d x n;have a:=(ja.1 k2).1;exact⟨k1,(e.block d a).trans k2,fun o=>by rw[g d a];exact k3 o⟩
theorem Z8N {nid:Nat} {op:Op} {r:Out} (a:ZE E nid ρ h op=some r):∀c,op≠.defer c:=fun c hc=>by
 subst hc;simp[ZE]at a
def Zds (P:Program) (E:Env) (w0:World) (G0:Gh) (D:DD) (ro:Option Nat) (n:Nat) (o:Oper) (a:Act) (w:World) (β:Bi) (G:Gh) (h:Nat->Option Zd) (nid:Nat) (r:Out):Prop :=
 ∀(K:Act->World->Prop) (Q:Exit->Act->World->Prop),(∀v w' β' G',(∀d,r.val=some d->Rep β' G' d v)->Ext β G β' G'->HR E w0 G0 D w' β' G' (ZJ h r.upd)->Z2E β β' h (ZJ h r.upd) nid->K (a.put o.dst v) w')->o.wpIn (fw ro) n P a w K Q
theorem Yb.step {r:Out} (b:∀c,o.op≠.defer c) (hr:Yb P E w0 G0 D o a w β G h nid r):Zds P E w0 G0 D ro n o a w β G h nid r:=fun K Q g=>by
 obtain⟨nx,v,w',β',G',k,l,e,i,d,j⟩:=hr;refine⟨fun f _=>trivial,?_⟩;rw[Oper.semAt_eq _ _ _ b,k];rcases l with rfl|⟨rfl,rfl⟩
 ·rw[Oper.uponIn_value];exact g v w' β' G' e i d j
 ·rw[Oper.uponIn_skip];exact g undef w' β' G' e i d j
theorem Z2W {ds es:List DV} {as bs:List Value} (a:Zi β G ds as) (b:Zi β G es bs):Zi β G (ds++es) (as++bs):=Y8.2 ⟨as,bs,rfl,a,b⟩
theorem Z7D (hE:∀t ti,E.ty t=some ti->ZW P t ti) (b:FrM β G ρ a.tmps) {c:Call} {g:FuncId} {x y:List DV} {as:List DV} (r:o.op=.call c) (ht:target E ρ c=some (.fn (.func g) x y,as)) (q:Z1j P g) :
  ∃vs:Array Value,(execOp a.eval o).run P w=.ok (.enter g vs) w/\Zi β G as vs.toList:=by
 unfold target at ht;split at ht
 ·rename_i f hc;obtain⟨df,k,ht⟩:=Z0 ht;split at ht
  ·rename_i g' first caps
   obtain⟨as',e,ht⟩:=Z0 ht;cases ht;obtain⟨vf,vc,hv,j,h⟩:=Zby.1 (Zq b k);refine⟨vf.toArray++c.args.map a.eval++vc.toArray,?_,?_⟩
   ·unfold execOp;rw[r];have l:=q (vf.toArray++c.args.map a.eval++vc.toArray) w;simpa[resolve,hc,hv,Deferred.ofValue,invoke]using l
   ·have:=Z2W (Z2W j (Z1F b e)) h;simpa using this
  ·obtain⟨as',e,ht⟩:=Z0 ht;cases ht
  ·cases ht
 ·rename_i rv m hc;obtain⟨df,k,ht⟩:=Z0 ht;split at ht
  ·rename_i t v;obtain⟨ti,p,ht⟩:=Z0 ht;obtain⟨g',z,ht⟩:=Z0 ht;obtain⟨as',e,ht⟩:=Z0 ht;cases ht;obtain⟨u,hu,hr⟩:=Z7t.1 (Zq b k);refine⟨#[u]++c.args.map a.eval,?_,?_⟩
   ·unfold execOp;rw[r];have s:=(hE t ti p).meth m g z u (c.args.map a.eval) w;have l:=q (#[u]++c.args.map a.eval) w;rw[l]at s;have n:(#[Value.iface t u]++c.args.map a.eval).extract 1 (#[Value.iface t u]++c.args.map a.eval).size=c.args.map a.eval:=by
     rw[Array.extract_append];simp
    have i:(#[Value.iface t u]++c.args.map a.eval)[0]? = some (.iface t u):=by
     rw[Array.getElem?_append_left (by simp)];rfl
    simp only[resolve,hc,hu];show((Pure.pure ({ target:=.fn (.method m) #[],args := #[Value.iface t u]++c.args.map a.eval }:Deferred):Sem Deferred) >>= fun d=>invoke d.target d.args).run P w=_;simp only[pure_bind];unfold invoke;simp only[i,n];exact s
   ·have:=Zb.2 ⟨u,_,rfl,hr,Z1F b e⟩;simpa using this
  ·cases ht
 ·cases ht
theorem Zel (g:FrM β G ρ a.tmps) {c:Call} {l:Nat} {as:List DV} (i:o.op=.call c) (ht:target E ρ c=some (.yld l,as)) :
  ∃(vs:Array Value) (b:Nat),β.blk l=some b/\execOp a.eval o=Instr.yield b vs/\Zi β G as vs.toList:=by
 unfold target at ht;split at ht
 ·rename_i f hc;obtain⟨df,e,ht⟩:=Z0 ht;split at ht
  ·obtain⟨as',d,ht⟩:=Z0 ht;cases ht
  ·rename_i id;obtain⟨as',d,ht⟩:=Z0 ht;cases ht;obtain⟨b,h,hv⟩:=Zf1.1 (Zq g e);refine⟨c.args.map a.eval,b,h,?_,by simpa using Z1F g d⟩
   unfold execOp;rw[i];simp[resolve,hc,hv,Deferred.ofValue,invoke]
  ·cases ht
 ·obtain⟨df,e,ht⟩:=Z0 ht;split at ht
  ·obtain⟨ti,j,ht⟩:=Z0 ht;obtain⟨g',k,ht⟩:=Z0 ht;obtain⟨as',d,ht⟩:=Z0 ht;cases ht
  ·cases ht
 ·cases ht
theorem Z3u {op:Op} {c:Call} (h:Z3b op=some c):op=.call c:=by
 unfold Z3b at h;split at h
 ·split at h
  ·cases h;rfl
  ·cases h;rfl
  ·cases h
 ·cases h
mutual
theorem ZaM {β β':Bi} {G G':Gh}:∀{d d':DV} {v:Value},Yx d=some d'->Rep β' G' d v->Rep β G d' v
 | .bool _,_,_,h,hr=>by simp only[Yx,jh]at h;subst h;unfold Rep at hr⊢;exact hr
 | .int _ _,_,_,h,hr=>by simp only[Yx,jh]at h;subst h;unfold Rep at hr⊢;exact hr
 | .str _,_,_,h,hr=>by simp only[Yx,jh]at h;subst h;unfold Rep at hr⊢;exact hr
 | .sl _,_,_,h,hr=>by
  simp only[Yx,jh]at h;subst h;obtain⟨a,c,⟨b,e⟩,_⟩:=Z4n.1 hr;exact ZcV.2 ⟨a,c,b,e⟩
 | .tup vs,_,_,h,hr=>by
  simp only[Yx]at h;obtain⟨vs',b,h⟩:=Z0 h;cases h;obtain⟨us,rfl,e⟩:=YM.1 hr;exact YM.2 ⟨us,rfl,Z9N b e⟩
 | .nilp,_,_,h,_=>by simp[Yx]at h
 | .ptr _ _,_,_,h,_=>by simp[Yx]at h
 | .rptr _ _ _ _ _,_,_,h,_=>by simp[Yx]at h
 | .pub _,_,_,h,_=>by simp[Yx]at h
 | .nils,_,_,h,_=>by simp[Yx]at h
 | .rs _ _,_,_,h,_=>by simp[Yx]at h
 | .rv _ _ _ _ _,_,_,h,_=>by simp[Yx]at h
 | .slen _,_,_,h,_=>by simp[Yx]at h
 | .agg _,_,_,h,_=>by simp[Yx]at h
 | .fn _ _ _,_,_,h,_=>by simp[Yx]at h
 | .nilfn,_,_,h,_=>by simp[Yx]at h
 | .map _,_,_,h,_=>by simp[Yx]at h
 | .nilmap,_,_,h,_=>by simp[Yx]at h
 | .iface _ _,_,_,h,_=>by simp[Yx]at h
 | .nilif,_,_,h,_=>by simp[Yx]at h
 | .iter _,_,_,h,_=>by simp[Yx]at h
 | .yld _,_,_,h,_=>by simp[Yx]at h
theorem Z9N {β β':Bi} {G G':Gh}:∀{ds ds':List DV} {vs:List Value},Z5d ds=some ds'->Zi β' G' ds vs->Zi β G ds' vs
 | [],_,_,h,hr=>by simp only[Z5d,jh]at h;subst h;rw[Zm]at hr⊢;exact hr
 | d::ds,_,_,h,hr=>by
  simp only[Z5d]at h;obtain⟨d',a,h⟩:=Z0 h;obtain⟨ds',b,h⟩:=Z0 h;cases h;obtain⟨v,vs,rfl,k1,k2⟩:=Zb.1 hr;exact Zb.2 ⟨v,vs,rfl,ZaM a k1,Z9N b k2⟩
end
theorem Zb0 (hE:∀t ti,E.ty t=some ti->ZW P t ti) {call:Nat->List DV->Option DV} (hp:Z37 P E call) (hf:FrM β G ρ a.tmps) (hh:HR E w0 G0 D w β G h) {c:Call} (ho:o.op=.call c) {r:Out} (j:Z4M E call ρ h c=some r) :
  Zds P E w0 G0 D ro n o a w β G h nid r:=fun K Q hk=>by
 unfold Z4M at j;obtain⟨tg,ht,j⟩:=Z0 j;split at j
 ·rename_i g x y as;obtain⟨fs,hfs,j⟩:=Z0 j;obtain⟨d,hcall,j⟩:=Z0 j;obtain⟨a0,hcs⟩:=hp g fs d hcall;cases l:as.any Zgr with
  | true =>
   rw[l]at j;simp only[jB]at j;obtain⟨d',hwk,j⟩:=Z0 j;cases j;obtain⟨vs,q,m⟩:=Z7D (w:=w) hE hf ho ht a0;obtain⟨G1,s,z,hs1⟩:=Z1L hh (Zk as);obtain⟨hr1,a2⟩:=Z7d s (Z2a h _) (fun i t es p u hi c hc=>by obtain⟨_,_,_,_,_,k,_⟩:=hh.obj _ _ hi;exact(k c hc).1) hfs hs1 m
   have hC:=hcs w β G1 vs hh.inv z.agree hr1 a2;refine⟨fun f _=>trivial,?_⟩;rw[Oper.semAt_eq _ _ _ (by rw[ho];simp),q,Oper.uponIn_enter]
   refine⟨fun hq=>by simp[fw,Fence.wide]at hq,Z6k (Calls.mono hC fun e w' he=>?_)⟩
   obtain⟨v,G',rfl,hb,hg,hag,_,l⟩:=he;have hagG:∀b o v,G b o=some v->w'.cell? ⟨b,o,none⟩=some v:=fun b o v hq=>by
    have hlt:b<w.heap.size:=by
     rcases Nat.lt_or_ge b w.heap.size with h1|h1
     ·exact h1
     ·rw[glt hh h1 o]at hq;cases hq
    exact hag b o v (by rw[hg b hlt];exact s.g b o v hq)
   obtain⟨a1,hx2⟩:=hh.grow hb (fun _ _=>rfl) hagG;exact hk v w' β G (fun d'' hd'=>by cases hd';exact ZaM hwk l) hx2 a1 (Z2E.refl _ _ _)
  | false =>
  rw[l]at j;simp only[jA]at j;cases j;obtain⟨vs,q,m⟩:=Z7D (w:=w) hE hf ho ht a0;obtain⟨G1,s,z,hs1⟩:=Z1L hh (Zk as);obtain⟨hr1,a2⟩:=Z7d s (Z2a h _) (fun i t es p u hi c hc=>by obtain⟨_,_,_,_,_,k,_⟩:=hh.obj _ _ hi;exact(k c hc).1) hfs hs1 m
  have hC:=hcs w β G1 vs hh.inv z.agree hr1 a2;refine⟨fun f _=>trivial,?_⟩;rw[Oper.semAt_eq _ _ _ (by rw[ho];simp),q,Oper.uponIn_enter]
  refine⟨fun hq=>by simp[fw,Fence.wide]at hq,Z6k (Calls.mono hC fun e w' he=>?_)⟩
  obtain⟨v,G',rfl,hb,hg,hag,_,l⟩:=he;obtain⟨a1,hx2⟩:=z.grow hb hg hag;refine hk v w' β G' (fun d' hd'=>by cases hd';exact l) (s.trans hx2) a1 (Z7z _)
 ·cases j
theorem Z7O (hE:∀t ti,E.ty t=some ti->ZW P t ti) {call:Nat->List DV->Option DV} (f:Z37 P E call) (e:FrM β G ρ a.tmps) (hh:HR E w0 G0 D w β G h) (d:ZR β h nid) {r:Out}
  (b:Z7N E call nid ρ h o.op=some r):Zds P E w0 G0 D ro n o a w β G h nid r:=by
 unfold Z7N at b;split at b
 ·rename_i c hc;exact Zb0 hE f e hh (Z3u hc) b
 ·exact(ZdH hE e hh d b).step (Z8N b)
end
end Go.Ab
namespace Go.Ab
open Go.RowKit
section
variable {P:Program} {E:Env} {w0:World} {G0:Gh} {D:DD} {w:World} {β:Bi} {G:Gh} {h:Nat->Option Zd}
def Z2U (h:Nat->Option Zd) (i:Nat):Bool:=match h i with|some (.row _ _ p _)=>Nat.beq p 1|_=>false
theorem ZfO (h:Nat->Option Zd) (is:List Nat):Zu h (is.filter (Z2U h))=[]:=by
 induction is with
 | nil=>rfl
 | cons i is ih =>
  rw[List.filter_cons];cases hq:Z2U h i with
  | false=>simpa using ih
  | true =>
   simp only[if_true,Zu,ih,jp];unfold Z2U at hq;split at hq
   ·rename_i p _ hi;rw[hi];simp only[hq,jB]
   ·cases hq
theorem Zck {G':Gh} (a:Ext β G β G') {is:List Nat} (j:∀i∈is.filter (Z2U h),Z2M E β G' h i) {hv:Nat->Option Zd} (c:∀i∈is,∀x,hv i=some x->h i=some x) {d:DV} {v:Value} (f:∀i∈Zj d,i∈is) (hr:Rep β G d v):Rep β G' (Z5Y hv d) v:=by
 unfold Z5Y;split
 ·rename_i id ver;split
  ·rename_i es p u b;have e:=c id (f id (by simp[Zj])) _ b
   cases hq:Nat.beq p 1&&Nat.beq u ver with
   | false=>exact Rep.mono a _ _ hr
   | true =>
    simp only[jn]at hq;have g:frz h (.rs id ver)=some (.sl es):=by simp[frz,e,hq.2]
    refine(Z5g a (fun i t es p u hi=>⟨p,hi⟩) g (fun i hi=>j i (List.mem_filter.2 ⟨f i hi,?_⟩)) hr).1;have:i=id:=by simpa[Zj]using hi
    subst this;unfold Z2U;rw[e];exact hq.1
  ·exact Rep.mono a _ _ hr
 ·exact Rep.mono a _ _ hr
theorem Zae {G':Gh} (c:Ext β G β G') {is:List Nat} (b:∀i∈is.filter (Z2U h),Z2M E β G' h i) {hv:Nat->Option Zd} (a:∀i∈is,∀x,hv i=some x->h i=some x):∀{ds:List DV} {vs:List Value},(∀i∈Zk ds,i∈is)->Zi β G ds vs->Zi β G' (ds.map (Z5Y hv)) vs
 | [],vs,_,hr=>by
  rw[Zm]at hr;exact Zm.2 hr
 | d::ds,vs,hm,hr=>by
  obtain⟨v,vs',rfl,e,f⟩:=Zb.1 hr;exact Zb.2 ⟨v,vs',rfl,Zck c b a (fun i hi=>hm i (by simp[Zk,hi])) e,Zae c b a (fun i hi=>hm i (by simp[Zk,hi])) f⟩
theorem Zgo {G':Gh} (f:Ext β G β G') {is:List Nat} (e:∀i∈is.filter (Z2U h),Z2M E β G' h i) {hv:Nat->Option Zd} (a:∀i∈is,∀x,hv i=some x->h i=some x) {d:DV} {v:Value} (c:∀i∈Zj d,i∈is) (hr:Rep β G d v):Rep β G' (Z3s hv d) v:=by
 unfold Z3s;split
 ·rename_i cs;obtain⟨vs,rfl,b⟩:=YL.1 hr;exact YL.2 ⟨vs,rfl,Zae f e a (by simpa[Zj]using c) b⟩
 ·exact Zck f e a c hr
theorem Zaf {G':Gh} (c:Ext β G β G') {is:List Nat} (b:∀i∈is.filter (Z2U h),Z2M E β G' h i) {hv:Nat->Option Zd} (a:∀i∈is,∀x,hv i=some x->h i=some x):∀{ds:List DV} {vs:List Value},(∀i∈Zk ds,i∈is)->Zi β G ds vs->Zi β G' (ds.map (Z3s hv)) vs
 | [],vs,_,hr=>by
  rw[Zm]at hr;exact Zm.2 hr
 | d::ds,vs,hm,hr=>by
  obtain⟨v,vs',rfl,e,f⟩:=Zb.1 hr;exact Zb.2 ⟨v,vs',rfl,Zgo c b a (fun i hi=>hm i (by simp[Zk,hi])) e,Zaf c b a (fun i hi=>hm i (by simp[Zk,hi])) f⟩
theorem Zcn (hh:HR E w0 G0 D w β G h) {as:List DV} {vs:List Value} (hr:Zi β G as vs) {hv:Nat->Option Zd} (a:∀i∈Zk as,∀x,hv i=some x->h i=some x) :
  ∃G',Ext β G β G'/\HR E w0 G0 D w β G' h/\Zi β G' (as.map (Z3s hv)) vs:=by
 obtain⟨G',b,c,d⟩:=Z1L hh ((Zk as).filter (Z2U h));rw[ZfO]at c d;exact⟨G',b,c,Zaf b d a (fun i hi=>hi) hr⟩
open Classical in
noncomputable def Z76 (D:DD) (w:World) (β:Bi) (G:Gh) (h s:Nat->Option Zd):DD:=fun b=>match D b with
 | some x=>some x
 | none=>if ∃i x,h i=some x/\s i=none/\Yu β i x b then(w.heap[b]?).map fun ob=>(ob,G b)else none
theorem Za9 {s:Nat->Option Zd} (hh:HR E w0 G0 D w β G h) {i b:Nat} {x:Zd} (hi:h i=some x) (e:s i=none) (c:Yu β i x b) :
  ∃ob,w.heap[b]? = some ob/\Z76 D w β G h s b=some (ob,G b):=by
 obtain⟨_,a,d⟩:=hh.own i x b hi c;refine⟨w.heap[b],by simp[a],?_⟩
 unfold Z76;rw[d];simp only;rw[if_pos ⟨i,x,hi,e,c⟩];simp[a]
theorem Zgf {s:Nat->Option Zd} {b:Nat} (a:Z76 D w β G h s b=none):D b=none:=by
 unfold Z76 at a;cases hd:D b with
 | none=>rfl
 | some x=>rw[hd]at a;cases a
theorem Zhk {s:Nat->Option Zd} {b:Nat} {x:Obj×(Nat->Option Value)} (a:D b=some x):Z76 D w β G h s b=some x:=by
 unfold Z76;rw[a]
theorem ZdC {s:Nat->Option Zd} (hh:HR E w0 G0 D w β G h) (c:∀i x,s i=some x->h i=some x):HR E w0 G0 (Z76 D w β G h s) w β G s:=by
 refine⟨hh.below,hh.g0,hh.agree,fun i o hi=>hh.obj i o (c i o hi),fun i o b hi k=>?_,fun i j o p b hi m=>hh.inj i j o p b (c i o hi) (c j p m),fun d x a=>?_,hh.inv0⟩
 ·obtain⟨k1,k2,k3⟩:=hh.own i o b (c i o hi) k;refine⟨k1,k2,?_⟩;unfold Z76;rw[k3];simp only;rw[if_neg];rintro⟨j,y,e,f,g⟩;have:=hh.inj i j o y b (c i o hi) e k g;subst this;rw[hi]at f;cases f
 ·unfold Z76 at a;cases hq:D d with
  | some y =>
   rw[hq]at a;simp only[jh]at a;subst a;exact hh.marks d y hq
  | none =>
   rw[hq]at a;simp only at a;split at a
   ·rename_i l;obtain⟨i,y,e,f,g⟩:=l;obtain⟨k1,k2,k3⟩:=hh.own i y d e g;simp only[k2,getElem?_pos,jq,jh]at a;subst a;exact⟨k1,by simp[k2],fun _=>rfl⟩
   ·cases a
theorem Z85 (f:Nat->Option Zd):∀(L:List Nat) (id:Nat),Zw id (L.map fun i=>(i,f i))=if id∈L then some (f id)else none
 | [],_=>rfl
 | i::L,id=>by
  simp only[jv,Zw,Z85 f L id]
  by_cases e:id∈L
  ·simp[e]
  ·simp only[e,if_false,jr,or_false,Tr.beq_dec]
   by_cases e2:i=id
   ·subst e2;simp
   ·have:¬id=i:=fun q=>e2 q.symm;simp[e2,this]
def Zfl (o:Tr Zd) (R:List Nat) (nx:Nat):List Nat:=R++((o.ents 1 0).map (·.1)).filter (Nat.ble nx)
theorem Zgd {o:Tr Zd} {R:List Nat} {nx i:Nat} (hi:i∈Zfl o R nx):i∈R\/nx<=i:=by
 unfold Zfl at hi;rcases List.mem_append.1 hi with h|h
 ·exact .inl h
 ·exact .inr (je (List.mem_filter.1 h).2)
theorem Z6Z (h:Nat->Option Zd) (o:Tr Zd) (R:List Nat) (nx id:Nat):ZJ h (Z4L o R nx) id=if id∈Zfl o R nx then o.get id else h id:=by
 unfold ZJ Z4L;rw[Z85 o.get];unfold Zfl;split<;>rename_i q
 ·split at q
  ·rename_i e;cases q;rw[if_pos e]
  ·cases q
 ·split at q
  ·cases q
  ·rename_i e;rw[if_neg e]
def Zh8 (E:Env) (w0:World) (G0:Gh) (D:DD) (β:Bi) (G:Gh) (h:Nat->Option Zd) (nx:Nat) (r:DV) (upd:List (Nat×Option Zd)) (nx':Nat) (e:Ending) (w':World):Prop :=
 ∃v β' G',e=.returned v/\nx<=nx'/\Ext β G β' G'/\(∀id,id<nx->Z15 β β' h (ZJ h upd) id)/\HR E w0 G0 D w' β' G' (ZJ h upd)/\(∀id,nx'<=id->ZR β' (ZJ h upd) id)/\Rep β' G' r v
theorem ZaW {s:Tr Zd} {R:List Nat} {nx:Nat} (hh:HR E w0 G0 D w β G h) (hs:∀i x,s.get i=some x->h i=some x) (hsR:∀i x,s.get i=some x->i∈R) (a0:∀id,nx<=id->ZR β h id) {r:DV} {o':Tr Zd} {nx':Nat} {e:Ending} {w':World}
  (hp:Z1o E w0 G0 (Z76 D w β G h s.get) β G s nx r o' nx' e w'):Zh8 E w0 G0 D β G h nx r (Z4L o' R nx) nx' e w':=by
 obtain⟨v,β',G',rfl,hle,o,c,hf',hv⟩:=hp;have g:∀i x,ZJ h (Z4L o' R nx) i=some x->(i∈Zfl o' R nx/\o'.get i=some x)\/(h i=some x/\s.get i=none/\i<nx):=fun i x hi=>by
  rw[Z6Z]at hi
  by_cases e:i∈Zfl o' R nx
  ·rw[if_pos e]at hi;exact .inl ⟨e,hi⟩
  ·rw[if_neg e]at hi;refine .inr ⟨hi,?_,?_⟩
   ·cases hq:s.get i with
    | none=>rfl
    | some y=>exact absurd (List.mem_append_left _ (hsR i y hq)) e
   ·rcases Nat.lt_or_ge i nx with q|q
    ·exact q
    ·rw[(a0 i q).h]at hi;cases hi
 have a:∀i,s.get i=none->i<nx->o'.get i=none/\β'.blk i=β.blk i/\∀u,β'.hdr i u=β.hdr i u:=fun i hi p=>o.keep i p hi;have l:∀i x b,h i=some x->s.get i=none->i<nx->Yu β' i x b->∃ob,w.heap[b]? = some ob/\Z76 D w β G h s.get b=some (ob,G b):=fun i x b hi z p k=>by
  obtain⟨_,k2,k3⟩:=a i z p;exact Za9 hh hi z ((Z1w k2 k3 x b).1 k)
 refine⟨v,β',G',rfl,hle,o.ext,fun id n z=>?_,⟨c.below,c.g0,c.agree,fun i x hi=>?_,fun i x b hi k=>?_,fun i j x y b hi hj k hc=>?_,fun d x hd=>c.marks d x (Zhk hd),hh.inv0⟩,fun id n=>?_,hv⟩
 ·have hsn:s.get id=none:=by
   cases hq:s.get id with
   | none=>rfl
   | some y=>rw[hs id y hq]at z;cases z
  obtain⟨k1,k2,k3⟩:=a id hsn n;refine⟨?_,k2,k3⟩;rw[Z6Z];split
  ·exact k1
  ·exact z
 ·rcases g i x hi with⟨_,f⟩|⟨f,m,t⟩
  ·exact c.obj i x f
  ·obtain⟨_,k2,k3⟩:=a i m t;refine Z2p.keep o.ext k3 (fun b k=>?_) (hh.obj i x f);obtain⟨ob,m1,m2⟩:=Za9 (D:=D) hh f m k;obtain⟨_,m3,m4⟩:=c.marks b _ m2;exact⟨m3.trans m1.symm,m4⟩
 ·rcases g i x hi with⟨_,f⟩|⟨f,m,t⟩
  ·obtain⟨k1,k2,k3⟩:=c.own i x b f k;exact⟨k1,k2,Zgf k3⟩
  ·obtain⟨_,k2,k3⟩:=a i m t;obtain⟨m1,_,m3⟩:=hh.own i x b f ((Z1w k2 k3 x b).1 k);obtain⟨ob,_,m5⟩:=l i x b f m t k;exact⟨m1,(ja.1 (c.marks b _ m5).2.1).1,m3⟩
 ·rcases g i x hi with⟨_,f⟩|⟨f,m,t⟩<;>rcases g j y hj with⟨_,g1⟩|⟨g1,g2,g3⟩
  ·exact c.inj i j x y b f g1 k hc
  ·obtain⟨ob,_,m2⟩:=l j y b g1 g2 g3 hc;rw[(c.own i x b f k).2.2]at m2;cases m2
  ·obtain⟨ob,_,m2⟩:=l i x b f m t k;rw[(c.own j y b g1 hc).2.2]at m2;cases m2
  ·obtain⟨_,k2,k3⟩:=a i m t;obtain⟨_,k4,k5⟩:=a j g2 g3;exact hh.inj i j x y b f g1 ((Z1w k2 k3 x b).1 k) ((Z1w k4 k5 y b).1 hc)
 ·have hf:=hf' id n;refine⟨hf.blk,hf.hdr,?_⟩;rw[Z6Z];split
  ·exact hf.h
  ·exact(a0 id (by omega)).h
theorem Z2b (h:Nat->Option Zd):∀(R:List Nat) (i:Nat),(Z2z h R).get i=if i∈R then h i else none
 | [],_=>rfl
 | j::R,i=>by
  simp only[Z2z,Tr.get_set,Z2b h R]
  by_cases e:i=j
  ·subst e;simp
  ·simp[e]
theorem Zdz {callH callY:Yi} (hv:Nat->Option Zd) (nx:Nat) (tgt:DV×List DV) (out:Out) (T:List Nat) (nx2:Nat) (a:YY callH callY hv nx tgt=some (out,T,nx2)):nx<=nx2:=by
 unfold YY at a;split at a
 ·unfold Z3z at a;obtain⟨x,_,a⟩:=Z0 a;obtain⟨b,a⟩:=Z3 a;cases a;exact je b
 ·unfold Z3z at a;obtain⟨x,_,a⟩:=Z0 a;obtain⟨b,a⟩:=Z3 a;cases a;exact je b
 ·cases a
theorem Z5z (hE:∀t ti,E.ty t=some ti->ZW P t ti) {callH callY:Yi} (hH:YX P E callH) (hY:Z1f P E callY) {o:Oper} {a:Act} {ro:Option Nat} {n:Nat} {ρ:Nat->Option DV} (hf:FrM β G ρ a.tmps) {c:Call} (ho:Z3b o.op=some c) {tgt:DV×List DV}
  (ht:target E ρ c=some tgt) (hh:HR E w0 G0 D w β G h) {hv:Nat->Option Zd} {nx nx':Nat} {out:Out} {T:List Nat} (j:YY callH callY hv nx tgt=some (out,T,nx')) (a4:∀i∈T,∀x,hv i=some x->h i=some x) (k:∀id,nx<=id->ZR β h id)
  {K:Act->World->Prop} {Q:Exit->Act->World->Prop}
  (hk:∀v w' β' G',(∀d,out.val=some d->Rep β' G' d v)->nx<=nx'->Ext β G β' G'->(∀id,id<nx->Z15 β β' h (ZJ h out.upd) id)->HR E w0 G0 D w' β' G' (ZJ h out.upd)->(∀id,nx'<=id->ZR β' (ZJ h out.upd) id)->K (a.put o.dst v) w'):o.wpIn (fw ro) n P a w K Q:=by
 have a0:=Z3u ho;have a2:∀{R:List Nat},(∀i∈R,i∈T)->(∀i x,(Z2z hv R).get i=some x->h i=some x)/\(∀i x,(Z2z hv R).get i=some x->i∈R):=fun {R} hRT=>by
  refine⟨fun i x hi=>?_,fun i x hi=>?_⟩
  ·rw[Z2b]at hi;split at hi
   ·rename_i hm;exact a4 i (hRT i hm) x hi
   ·cases hi
  ·rw[Z2b]at hi;split at hi
   ·rename_i hm;exact hm
   ·cases hi
 unfold YY at j;split at j
 ·rename_i g x y as;unfold Z3z at j;obtain⟨⟨r,o',nx2⟩,hc,j⟩:=Z0 j;obtain⟨_,j⟩:=Z3 j;cases j;obtain⟨hent,hcs⟩:=hH _ _ _ _ _ _ _ hc;obtain⟨vs,z,q⟩:=Z7D (w:=w) hE hf a0 ht hent;obtain⟨G1,hx1,s,m⟩:=Zcn hh q (hv:=hv) (fun i hi x hx=>a4 i (List.mem_append_left _ hi) x hx);obtain⟨hs,a6⟩:=a2 (R:=Z1h hv 4096 (Z1u (as.map (Z3s hv))) []) (fun i hi=>List.mem_append_right _ hi);refine⟨fun f _=>trivial,?_⟩;rw[Oper.semAt_eq _ _ _ (by rw[a0];simp),z,Oper.uponIn_enter]
  have u:∀id,nx<=id->ZR β (Z2z hv (Z1h hv 4096 (Z1u (as.map (Z3s hv))) [])).get id:=fun id p=>⟨(k id p).blk,(k id p).hdr,by
   cases hq:(Z2z hv (Z1h hv 4096 (Z1u (as.map (Z3s hv))) [])).get id with
   | none=>rfl
   | some y=>have:=hs id y hq;rw[(k id p).h]at this;cases this⟩
  refine⟨fun hq=>by simp[fw,Fence.wide]at hq,Z6k (Calls.mono (hcs w0 G0 _ w β G1 vs (ZdC s hs) u m) fun e w' he=>?_)⟩
  obtain⟨v,β',G',rfl,hle,hx,a7,a3,hf2,a5⟩:=ZaW s hs a6 k he;exact hk v w' β' G' (fun d j=>by cases j;exact a5) hle (hx1.trans hx) a7 a3 hf2
 ·rename_i l as;unfold Z3z at j;obtain⟨⟨r,o',nx2⟩,hc,j⟩:=Z0 j;obtain⟨_,j⟩:=Z3 j;cases j;obtain⟨vs,b,hb,z,q⟩:=Zel hf a0 ht;obtain⟨G1,hx1,s,m⟩:=Zcn hh q (hv:=hv) (fun i hi x hx=>a4 i (List.mem_append_left _ hi) x hx);obtain⟨hs,a6⟩:=a2 (R:=Z1h hv 4096 (l::Z1u (as.map (Z3s hv))) []) (fun i hi=>List.mem_append_right _ hi);have u:∀id,nx<=id->ZR β (Z2z hv (Z1h hv 4096 (l::Z1u (as.map (Z3s hv))) [])).get id:=fun id p=>⟨(k id p).blk,(k id p).hdr,by
   cases hq:(Z2z hv (Z1h hv 4096 (l::Z1u (as.map (Z3s hv))) [])).get id with
   | none=>rfl
   | some y=>have:=hs id y hq;rw[(k id p).h]at this;cases this⟩
  obtain⟨lf,tm,as',bo,hy,a1⟩:=hY _ _ _ _ _ _ _ hc w0 G0 _ w β G1 vs b hb (ZdC s hs) u m;refine⟨fun f _=>trivial,?_⟩;rw[Oper.semAt_eq _ _ _ (by rw[a0];simp),z,hy,Oper.uponIn_round]
  refine⟨fun hq=>by simp[fw,Fence.wide]at hq,ZgV (RoundIn.mono (a1 _) fun e w' he=>?_)⟩
  obtain⟨v,β',G',rfl,hle,hx,a7,a3,hf2,a5⟩:=ZaW s hs a6 k he;exact hk v w' β' G' (fun d j=>by cases j;exact a5) hle (hx1.trans hx) a7 a3 hf2
 ·cases j
end
end Go.Ab
namespace Go.Ab
open Go.RowKit
section
variable {P:Program} {E:Env} {w0:World} {G0:Gh} {outer:DD} {own:List Nat} {V nt:Nat} {o:Oper} {a:Act} {w:World} {β:Bi} {G:Gh} {ro:Option Nat} {n:Nat}
theorem Z3Q (V nt:Nat) (m:Mid) (dst:Option Tmp) (v:Option DV):(m.put V nt dst v).objs=m.objs/\(m.put V nt dst v).next=m.next:=by
 unfold Mid.put;cases dst with
 | none=>exact⟨rfl,rfl⟩
 | some d =>
  simp only;cases(!Nat.blt d nt)with
  | true=>exact⟨rfl,rfl⟩
  | false=>cases Nat.testBit V d<;>exact⟨rfl,rfl⟩
theorem Zd9 (V nt:Nat) (m:Mid) (dst:Option Tmp) (v:Option DV) (t:Nat) :
  ZZ V (m.put V nt dst v).base (m.put V nt dst v).loc t=if dst=some t/\t<nt then v else ZZ V m.base m.loc t:=by
 unfold Mid.put;cases dst with
 | none=>simp
 | some d =>
  simp only[Tr.blt_dec]
  by_cases hl:d<nt
  ·simp only[hl,decide_true,Bool.not_true,jA];cases hv:Nat.testBit V d with
   | true =>
    simp only[jB];unfold ZZ
    by_cases e:d=t
    ·subst e;simp[hv,hl,Tr.get_set]
    ·have:¬t=d:=fun h=>e h.symm;simp[e,Tr.get_set,this]
   | false =>
    simp only[jA];unfold ZZ
    by_cases e:d=t
    ·subst e;simp[hv,hl,Loc.find]
    ·simp[e,Loc.find,Tr.beq_dec]
  ·simp only[hl,decide_false,Bool.not_false,jB]
   by_cases e:d=t
   ·subst e;simp[hl]
   ·simp[e]
theorem ZeX (V nt:Nat) (m:Mid) (dst:Option Tmp) (v:Option DV) (h:∀t d,m.base.get t=some d->Nat.testBit V t=true) :
  ∀t d,(m.put V nt dst v).base.get t=some d->Nat.testBit V t=true:=by
 unfold Mid.put;cases dst with
 | none=>exact h
 | some d =>
  simp only;cases(!Nat.blt d nt)with
  | true=>exact h
  | false =>
   cases hv:Nat.testBit V d with
   | true =>
    intro t d' ht;simp only[jA,jB,Tr.get_set]at ht
    by_cases e:t=d
    ·rw[e];exact hv
    ·rw[if_neg e]at ht;exact h t d' ht
   | false=>exact h
abbrev MM (E:Env) (w0:World) (G0:Gh) (outer:DD) (V nt:Nat) (own:List Nat) (m:Mid) (a:Act) (w:World) (β:Bi) (G:Gh):Prop :=
 MI E w0 G0 outer V nt own (ZZ V m.base m.loc) m.base m.objs.get m.next a w β G
theorem ZeF {ρ ρ':Nat->Option DV} {β':Bi} {G':Gh} (m:Ext β G β' G') (b:a.tmps.size=nt) (l:FrM β G ρ a.tmps) {dst:Option Tmp} {val:Option DV} {v:Value} (hv:∀d,val=some d->Rep β' G' d v)
  (n:∀t d,ρ' t=some d->(dst=some t/\t<nt/\val=some d)\/(¬(dst=some t/\t<nt)/\ρ t=some d)):FrM β' G' ρ' (a.put dst v).tmps:=fun t d ht=>by
 rcases n t d ht with⟨rfl,j,f⟩|⟨k,f⟩
 ·refine⟨v,?_,hv d f⟩;simp[Act.put,b,j]
 ·obtain⟨u,g,hr⟩:=l t d f;refine⟨u,?_,Rep.mono m d u hr⟩;cases dst with
  | none=>exact g
  | some e =>
   have c:t<nt:=by rw[<-b];exact(ja.1 g).1
   have i:e≠t:=fun h=>k ⟨by rw[h],c⟩
   simp only[Act.put];rw[Array.getElem?_setIfInBounds_ne i];exact g
theorem ZcM (dst:Option Tmp) (v:Value):(a.put dst v).tmps.size=a.tmps.size/\(a.put dst v).defers=a.defers:=by
 cases dst<;>simp[Act.put]
theorem MM.put {m:Mid} (b:MM E w0 G0 outer V nt own m a w β G) {objs:Tr Zd} {nx:Nat} {dst:Option Tmp} {val:Option DV} {v:Value} {w':World} {β':Bi} {G':Gh} (g:Ext β G β' G')
  (hv:∀d,val=some d->Rep β' G' d v) (hh:HR E w0 G0 (YQ own outer) w' β' G' objs.get) (h:∀id,nx<=id->ZR β' objs.get id) :
  MM E w0 G0 outer V nt own (({ m with objs:=objs,next:=nx }:Mid).put V nt dst val) (a.put dst v) w' β' G':=by
 obtain⟨f,i⟩:=Z3Q V nt ({ m with objs:=objs,next:=nx }:Mid) dst val
 obtain⟨j,k⟩:=ZcM (a:=a) dst v;refine⟨ZeF g b.sz b.fr hv fun t d ht=>?_,ZeX V nt _ dst val b.dom,j.trans b.sz,by rw[f];exact hh,fun id c=>?_,⟨by rw[k];exact b.df.1,b.df.2⟩⟩
 ·rw[Zd9]at ht
  by_cases e:dst=some t/\t<nt
  ·rw[if_pos e]at ht;exact .inl ⟨e.1,e.2,ht⟩
  ·rw[if_neg e]at ht;exact .inr ⟨e,ht⟩
 ·rw[f];rw[i]at c;exact h id c
theorem Z30 {ops:Array Oper} {ρ:Nat->Option DV} (i:FrM β G ρ a.tmps) {want:Bool} (h:Z1y ops ρ o=some want):Region.wanted o (yielded ops a.tmps)=want:=by
 unfold Z1y at h;unfold Region.wanted;cases hg:o.guard with
 | none=>rw[hg]at h;simp only[jh]at h;exact h
 | some g =>
  obtain⟨j,wt⟩:=g;rw[hg]at h;simp only at h⊢;unfold yielded;cases hd:(ops[j]?).bind (·.dst)with
  | none=>rw[hd]at h;cases h
  | some t =>
   rw[hd]at h;simp only at h;cases hr:ρ t with
   | none=>rw[hr]at h;cases h
   | some d =>
    rw[hr]at h;obtain⟨v,f,e⟩:=i t d hr;simp only[jm,f];cases d with
    | bool b =>
     rw[ZL]at e;subst e;simp only[jh]at h;rw[<-h];cases b<;>cases wt<;>rfl
    | _ =>
     have k:want=false:=by simpa using h.symm
     subst k;unfold Rep at e
     first
     | (subst e;rfl)
     | (obtain⟨b,_,rfl⟩:=e;rfl)
     | (obtain⟨b,n,c,_,rfl⟩:=e;rfl)
     | (obtain⟨_,b,o,rfl,_⟩:=e;rfl)
     | (obtain⟨a,c,⟨rfl,_⟩,_⟩:=e;rfl)
     | (obtain⟨_,a,n,c,rfl⟩:=e;rfl)
     | (obtain⟨_,_,rfl,_,_⟩:=e;rfl)
     | (obtain⟨_,_,_,_,_,_,rfl,_⟩:=e;rfl)
     | (obtain⟨_,_,rfl,_⟩:=e;rfl)
     | (obtain⟨_,rfl,_⟩:=e;rfl)
theorem ZaD {call:Nat->List DV->Option DV} {nid:Nat} {ρ:Nat->Option DV} {h:Nat->Option Zd} {op:Op} {r:Out} (b:Z42 E call nid ρ h op=some (some r)):Z7N E call nid ρ h op=some r:=by
 unfold Z42 at b;unfold Z7N;split at b
 ·rename_i hc;obtain⟨r',d,a⟩:=Z0 b;cases a;rw[hc];exact d
 ·rename_i c hc;obtain⟨tgt,d,a⟩:=Z0 b;rw[hc];cases hp:Ze0 E tgt with
  | true =>
   rw[hp]at a;obtain⟨r',e,f⟩:=Z0 a;cases f;exact e
  | false=>rw[hp]at a;cases a
theorem Zb9 {df:Bool} {ρ:Nat->Option DV} {op:Op} (a:Z5k E df ρ op=true):∃c f g caps,op=.defer c/\df=true/\c.args = #[]/\c.callee=.value f/\Y0 ρ f=some (.fn (.func g) [] caps)/\E.dfr g=true:=by
 unfold Z5k at a;split at a
 ·rename_i c;simp only[jn]at a;obtain⟨⟨d,i⟩,b⟩:=a;split at b
  ·rename_i f e;split at b
   ·rename_i g caps h;exact⟨c,f,g,caps,rfl,d,by simpa using i,e,h,b⟩
   ·cases b
  ·cases b
 ·cases a
theorem Z41 (hE:∀t ti,E.ty t=some ti->ZW P t ti) {df:Bool} (s:df=true->ro=none) {call:Nat->List DV->Option DV} (hp:Z37 P E call) {callH callY:Yi} (hH:YX P E callH) (hY:Z1f P E callY) {ops:Array Oper} {b:Nat} {Q:Exit->Act->World->Prop} :
  ∀(os:List Oper) (k:Nat) (m mf:Mid) (a:Act) (w:World) (β:Bi) (G:Gh),Z2N E df call callH callY V nt ops b k os m=some mf->b+k+os.length<=m.next →
   (∀j,k<=j->j<k+os.length->ZR β m.objs.get (b+j))->MM E w0 G0 outer V nt own m a w β G →
   (∀a' w' β' G',m.next<=mf.next->MM E w0 G0 outer V nt own mf a' w' β' G'->Go2 b β G β' G' m.objs.get mf.objs.get->Q .normal a' w')->wpListIn (fw ro) n P ops Q os a w
 | [],k,m,mf,a,w,β,G,e,_,_,hm,hq=>by
  simp only[Z2N,jh]at e;subst e;exact hq a w β G (Nat.le_refl _) hm (Go2.refl _ _ _ _)
 | o::os,k,m,mf,a,w,β,G,e,hle,hfr,hm,hq=>by
  simp only[Z2N]at e;obtain⟨want,hw,e⟩:=Z0 e;have hwt:=Z30 hm.fr hw;simp only[List.length_cons]at hle hfr;simp only[wpListIn];rw[hwt];cases want with
  | false =>
   simp only[jA]at e;simp only[jg,if_false];obtain⟨u,x⟩:=Z3Q V nt m o.dst (some (.tup []));have p:MM E w0 G0 outer V nt own (m.put V nt o.dst (some (.tup []))) (a.put o.dst undef) w β G :=
    MM.put (objs:=m.objs) (nx:=m.next) hm (Ext.refl β G) (fun d e=>by cases e;exact Z3W) hm.hr hm.fresh
   refine⟨fun f _=>trivial,Z41 hE s hp hH hY os (k+1) _ mf _ w β G e (by rw[x];omega) (fun j hj hl=>by rw[u];exact hfr j (by omega) (by omega)) p fun a' w' β' G' hn hm2 hgo=>?_⟩
   exact hq a' w' β' G' (by rw[x]at hn;exact hn) hm2 (by rw[u]at hgo;exact hgo)
  | true =>
   simp only[jB]at e;simp only[if_true];cases hdd:Z5k E df (ZZ V m.base m.loc) o.op with
   | true =>
    rw[hdd]at e;simp only[jB]at e;obtain⟨c,f,g,caps,ho,hdt,z,hcal,hop,hg⟩:=Zb9 hdd;have hro:(fw ro).round=none:=s hdt;obtain⟨as,cs,hev,has,_⟩:=Zby.1 (Zq hm.fr hop);rw[Zm]at has;subst has;have a0:(o.semAt (fw ro).round a.eval).run P w=.ok (.defer { target:=.fn (.func g) cs.toArray,args := #[] }) w:=by
     rw[hro,Oper.semAt_none];unfold execOp;rw[ho];simp[resolve,hcal,z,hev,Deferred.ofValue]
    refine⟨fun f _=>trivial,?_⟩;rw[a0,Oper.uponIn_defer];obtain⟨u,x⟩:=Z3Q V nt m o.dst (some (.tup []));have hm0:MM E w0 G0 outer V nt own m { a with defers:={ target:=.fn (.func g) cs.toArray,args := #[] }::a.defers } w β G:=⟨hm.fr,hm.dom,hm.sz,hm.hr,hm.fresh,⟨.fn _ hg hm.df.1,hm.df.2⟩⟩
    have p:MM E w0 G0 outer V nt own (m.put V nt o.dst (some (.tup []))) (({ a with defers:={ target:=.fn (.func g) cs.toArray,args := #[] }::a.defers }:Act).put o.dst undef) w β G :=
     MM.put (objs:=m.objs) (nx:=m.next) hm0 (Ext.refl β G) (fun d e=>by cases e;exact Z3W) hm.hr hm.fresh
    refine Z41 hE s hp hH hY os (k+1) _ mf _ w β G e (by rw[x];omega) (fun j hj hl=>by rw[u];exact hfr j (by omega) (by omega)) p fun a' w' β' G' hn hm2 hgo=>?_
    exact hq a' w' β' G' (by rw[x]at hn;exact hn) hm2 (by rw[u]at hgo;exact hgo)
   | false =>
   rw[hdd]at e;simp only[jA]at e;obtain⟨so,hso,e⟩:=Z0 e;cases so with
   | some r =>
    have hr:=ZaD hso;refine Z7O hE hp hm.fr hm.hr (hfr k (Nat.le_refl _) (by omega)) hr _ _ fun v w' β' G' hv hx hh hkp=>?_
    obtain⟨u,x⟩:=Z3Q V nt ({ m with objs:=Ya m.objs r.upd }:Mid) o.dst r.val
    have i:∀id,(Ya m.objs r.upd).get id=ZJ m.objs.get r.upd id:=Z2B _ _;have q:∀id,id≠b+k->Z15 β β' m.objs.get (Ya m.objs r.upd).get id:=fun id l hf=>by
     obtain⟨q1,q2,q3⟩:=hkp id l hf;exact⟨by rw[i];exact q1,q2,q3⟩
    have p:MM E w0 G0 outer V nt own (({ m with objs:=Ya m.objs r.upd }:Mid).put V nt o.dst r.val) (a.put o.dst v) w' β' G' :=
     MM.put (objs:=Ya m.objs r.upd) (nx:=m.next) hm hx hv (hh.eq i) (fun id l=>(q id (by omega)).fresh (hm.fresh id l))
    refine Z41 hE s hp hH hY os (k+1) _ mf _ w' β' G' e (by rw[x];show b+(k+1)+os.length<=m.next;omega) (fun j hj hl=>by rw[u];exact(q _ (by omega)).fresh (hfr j (by omega) (by omega))) p fun a' w'' β'' G'' hn hm2 hgo=>?_
    refine hq a' w'' β'' G'' (by rw[x]at hn;exact hn) hm2 (Go2.trans ⟨hx,fun id hi=>?_⟩ hgo)
    rw[u];exact q id (by omega)
   | none =>
    obtain⟨cl,hcl,e⟩:=Z0 e;obtain⟨tgt,htg,e⟩:=Z0 e;obtain⟨⟨out,T,nx'⟩,hx1,e⟩:=Z0 e;refine Z5z hE hH hY hm.fr hcl htg hm.hr hx1 (fun _ _ _ h=>h) hm.fresh fun v w' β' G' hv hle' hx hkp hh hff=>?_;obtain⟨u,x⟩:=Z3Q V nt ({ m with objs:=Ya m.objs out.upd,next:=nx' }:Mid) o.dst out.val
    have i:∀id,(Ya m.objs out.upd).get id=ZJ m.objs.get out.upd id:=Z2B _ _;have y:∀id,id<m.next->Z15 β β' m.objs.get (Ya m.objs out.upd).get id:=fun id l hf=>by
     obtain⟨q1,q2,q3⟩:=hkp id l hf;exact⟨by rw[i];exact q1,q2,q3⟩
    have p:MM E w0 G0 outer V nt own (({ m with objs:=Ya m.objs out.upd,next:=nx' }:Mid).put V nt o.dst out.val) (a.put o.dst v) w' β' G' :=
     MM.put (objs:=Ya m.objs out.upd) (nx:=nx') hm hx hv (hh.eq i) (fun id l=>by
      have:=hff id l;exact⟨this.blk,this.hdr,by rw[i];exact this.h⟩)
    refine Z41 hE s hp hH hY os (k+1) _ mf _ w' β' G' e (by rw[x];show b+(k+1)+os.length<=nx';omega) (fun j hj hl=>by rw[u];exact(y _ (by omega)).fresh (hfr j (by omega) (by omega))) p fun a'' w'' β'' G'' hn hm2 hgo2=>?_
    refine hq a'' w'' β'' G'' (by rw[x]at hn;exact Nat.le_trans hle' hn) hm2 (Go2.trans ⟨hx,fun id hi=>?_⟩ hgo2)
    rw[u];exact y id (by omega)
end
end Go.Ab
namespace Go.Ab
open Go.RowKit
structure Z4C (n0:Nat) (β β':Bi):Prop where
 blk:∀id,id<n0->β'.blk id=β.blk id
 hdr:∀id,id<n0->∀u,β'.hdr id u=β.hdr id u
section bddm
variable {n0:Nat} {β β':Bi} {G:Gh}
mutual
theorem Rep.bd (e:Z4C n0 β β'):∀(d:DV) (v:Value),bdd n0 d=true->Rep β G d v->Rep β' G d v
 | .bool _,_,_,h=>by unfold Rep at h⊢;exact h
 | .int _ _,_,_,h=>by unfold Rep at h⊢;exact h
 | .str _,_,_,h=>by unfold Rep at h⊢;exact h
 | .nilp,_,_,h=>by unfold Rep at h⊢;exact h
 | .ptr i _,_,hb,h=>by
  simp only[bdd,Tr.blt_dec,jl]at hb;unfold Rep at h⊢;rw[e.blk i hb];exact h
 | .rptr i _ _ _ _,_,hb,h=>by
  simp only[bdd,Tr.blt_dec,jl]at hb;unfold Rep at h⊢;rw[e.hdr i hb];exact h
 | .pub cs,_,_,h=>by
  unfold Rep at h⊢;obtain⟨k,b,o,f,g⟩:=h;exact⟨k,b,o,f,Pub.free cs b o k g⟩
 | .nils,_,_,h=>by unfold Rep at h⊢;exact h
 | .sl es,v,_,h=>Rep.free _ v rfl h
 | .rs i _,_,hb,h=>by
  simp only[bdd,Tr.blt_dec,jl]at hb;unfold Rep at h⊢;rw[e.hdr i hb];exact h
 | .rv i _ _ _ _,_,hb,h=>by
  simp only[bdd,Tr.blt_dec,jl]at hb;unfold Rep at h⊢;rw[e.hdr i hb];exact h
 | .slen _,_,_,h=>by unfold Rep at h⊢;exact h
 | .agg cs,_,hb,h=>by unfold Rep at h⊢;obtain⟨vs,f,g⟩:=h;exact⟨vs,f,Zi.bd e cs vs (by simpa[bdd]using hb) g⟩
 | .tup cs,_,hb,h=>by unfold Rep at h⊢;obtain⟨vs,f,g⟩:=h;exact⟨vs,f,Zi.bd e cs vs (by simpa[bdd]using hb) g⟩
 | .fn _ a c,_,hb,h=>by
  unfold Rep at h⊢;obtain⟨as,cs,f,g,l⟩:=h;have j:Z1P n0 a=true/\Z1P n0 c=true:=by simpa[bdd]using hb
  exact⟨as,cs,f,Zi.bd e a as j.1 g,Zi.bd e c cs j.2 l⟩
 | .nilfn,_,_,h=>by unfold Rep at h⊢;exact h
 | .map i,_,hb,h=>by
  simp only[bdd,Tr.blt_dec,jl]at hb;unfold Rep at h⊢;rw[e.blk i hb];exact h
 | .nilmap,_,_,h=>by unfold Rep at h⊢;exact h
 | .iface _ d,_,hb,h=>by unfold Rep at h⊢;obtain⟨u,f,g⟩:=h;exact⟨u,f,Rep.bd e d u (by simpa[bdd]using hb) g⟩
 | .nilif,_,_,h=>by unfold Rep at h⊢;exact h
 | .iter i,_,hb,h=>by
  simp only[bdd,Tr.blt_dec,jl]at hb;unfold Rep at h⊢;rw[e.blk i hb];exact h
 | .yld i,_,hb,h=>by
  simp only[bdd,Tr.blt_dec,jl]at hb;unfold Rep at h⊢;rw[e.blk i hb];exact h
theorem Zi.bd (b:Z4C n0 β β'):∀(ds:List DV) (vs:List Value),Z1P n0 ds=true->Zi β G ds vs->Zi β' G ds vs
 | [],_,_,h=>by unfold Zi at h⊢;exact h
 | d::ds,_,hb,h=>by
  unfold Zi at h⊢;have a:bdd n0 d=true/\Z1P n0 ds=true:=by simpa[Z1P]using hb
  obtain⟨v,vs',c,e,f⟩:=h;exact⟨v,vs',c,Rep.bd b d v a.1 e,Zi.bd b ds vs' a.2 f⟩
end
end bddm
theorem Z5W {id v:Nat}:∀{L:List (Option (Nat×Nat))} {j0 j:Nat},Z5A id v j0 L=some j->j0<=j/\L[j-j0]? = some (some (id,v))
 | [],_,_,h=>by cases h
 | none::L,j0,j,h=>by
  simp only[Z5A]at h;obtain⟨b,a⟩:=Z5W h;refine⟨by omega,?_⟩
  rw[show j-j0=(j-(j0+1))+1 by omega];simpa using a
 | some (i,u)::L,j0,j,h=>by
  simp only[Z5A]at h
  by_cases e:(Nat.beq i id&&Nat.beq u v)=true
  ·rw[e]at h;cases h;simp only[jn]at e;have e1:i=id:=jf e.1;have e2:u=v:=jf e.2;subst e1 e2;exact⟨Nat.le_refl _,by simp⟩
  ·have e':(Nat.beq i id&&Nat.beq u v)=false:=Bool.eq_false_iff.2 e;rw[e']at h;obtain⟨b,a⟩:=Z5W h;refine⟨by omega,?_⟩
   rw[show j-j0=(j-(j0+1))+1 by omega];simpa using a
def Z1i (n0:Nat) (L:List (Option (Nat×Nat))) (β:Bi):Bi where
 blk i:=if i<n0 then β.blk i else none
 hdr i u:=if i<n0 then β.hdr i u else if u=0 then(match L[i-n0]? with|some (some (id,v))=>β.hdr id v|_=>none)else none
theorem Z54 (n0:Nat) (L:List (Option (Nat×Nat))) (β:Bi):Z4C n0 β (Z1i n0 L β):=⟨fun id h=>by simp[Z1i,h],fun id h u=>by simp[Z1i,h]⟩
section
variable {n0:Nat} {L:List (Option (Nat×Nat))} {β:Bi} {G:Gh}
theorem Zat {j id v:Nat} (h:L[j]? = some (some (id,v))):(Z1i n0 L β).hdr (n0+j) 0=β.hdr id v:=by
 have:¬n0+j<n0:=by omega
 simp[Z1i,h,this]
theorem Z1R {d d':DV} {v:Value} (h:(bif bdd n0 d then some d else none)=some d') (hr:Rep β G d v):Rep (Z1i n0 L β) G d' v/\ZH d'=ZH d:=by
 obtain⟨a,h⟩:=Z3 h;cases h;exact⟨Rep.bd (Z54 n0 L β) _ v a hr,rfl⟩
mutual
theorem Zbx:∀{d d':DV} {v:Value},ren n0 L d=some d'->Rep β G d v->Rep (Z1i n0 L β) G d' v/\ZH d'=ZH d
 | .rs id ver,d',v,h,hr=>by
  simp only[ren]at h;cases hj:Z5A id ver 0 L with
  | none =>
   rw[hj]at h;obtain⟨c,h⟩:=Z3 h;cases h;simp only[jn,Tr.blt_dec]at c;exact⟨Rep.bd (Z54 n0 L β) _ v (by simp only[bdd,Tr.blt_dec];exact c.1) hr,rfl⟩
  | some j =>
   rw[hj]at h;cases h;obtain⟨_,a⟩:=Z5W hj;rw[Z2K]at hr⊢;exact⟨⟨(Zat (by simpa using a)).trans hr.1,hr.2⟩,rfl⟩
 | .agg cs,d',v,h,hr=>by
  simp only[ren]at h;obtain⟨cs',b,h⟩:=Z0 h;cases h;obtain⟨vs,rfl,a⟩:=YL.1 hr;exact⟨YL.2 ⟨vs,rfl,(Z6K b a).1⟩,rfl⟩
 | .tup cs,d',v,h,hr=>by
  simp only[ren]at h;obtain⟨cs',b,h⟩:=Z0 h;cases h;obtain⟨vs,rfl,a⟩:=YM.1 hr;exact⟨YM.2 ⟨vs,rfl,(Z6K b a).1⟩,rfl⟩
 | .bool _,d',v,h,hr=>Z1R (d:=.bool _) h hr
 | .int _ _,d',v,h,hr=>Z1R (d:=.int _ _) h hr
 | .str _,d',v,h,hr=>Z1R (d:=.str _) h hr
 | .nilp,d',v,h,hr=>Z1R (d:=.nilp) h hr
 | .ptr _ _,d',v,h,hr=>Z1R (d:=.ptr _ _) h hr
 | .rptr _ _ _ _ _,d',v,h,hr=>Z1R (d:=.rptr _ _ _ _ _) h hr
 | .pub _,d',v,h,hr=>Z1R (d:=.pub _) h hr
 | .nils,d',v,h,hr=>Z1R (d:=.nils) h hr
 | .sl _,d',v,h,hr=>Z1R (d:=.sl _) h hr
 | .rv _ _ _ _ _,d',v,h,hr=>Z1R (d:=.rv _ _ _ _ _) h hr
 | .slen _,d',v,h,hr=>Z1R (d:=.slen _) h hr
 | .fn _ _ _,d',v,h,hr=>Z1R (d:=.fn _ _ _) h hr
 | .nilfn,d',v,h,hr=>Z1R (d:=.nilfn) h hr
 | .map _,d',v,h,hr=>Z1R (d:=.map _) h hr
 | .nilmap,d',v,h,hr=>Z1R (d:=.nilmap) h hr
 | .iface _ _,d',v,h,hr=>Z1R (d:=.iface _ _) h hr
 | .nilif,d',v,h,hr=>Z1R (d:=.nilif) h hr
 | .iter _,d',v,h,hr=>Z1R (d:=.iter _) h hr
 | .yld _,d',v,h,hr=>Z1R (d:=.yld _) h hr
theorem Z6K:∀{ds ds':List DV} {vs:List Value},Z2y n0 L ds=some ds'->Zi β G ds vs->Zi (Z1i n0 L β) G ds' vs/\ds'.all ZH=ds.all ZH
 | [],ds',vs,h,hr=>by simp only[Z2y,jh]at h;subst h;rw[Zm]at hr;subst hr;exact⟨Zm.2 rfl,rfl⟩
 | d::ds,ds',vs,h,hr=>by
  simp only[Z2y]at h;obtain⟨c,e,h⟩:=Z0 h;obtain⟨cs,f,h⟩:=Z0 h;cases h;obtain⟨v,vs',rfl,b,a⟩:=Zb.1 hr;obtain⟨k1,k2⟩:=Zbx e b;obtain⟨k3,k4⟩:=Z6K f a;exact⟨Zb.2 ⟨v,vs',rfl,k1,k3⟩,by simp[k2,k4]⟩
end
theorem Z2Q {o:Tr Zd}:∀{L:List (Option (Nat×Nat))} {j0:Nat} {no no':Tr Zd},Z2c o n0 j0 L no=some no'->∀i,
  (no'.get i=no.get i/\∀j id v,i=n0+j0+j->L[j]? ≠ some (some (id,v)))\/∃j id v e es p,i=n0+j0+j/\L[j]? = some (some (id,v))/\o.get id=some (.row e es p v)/\no'.get i=some (.row e es p 0)
 | [],j0,no,no',h,i=>by simp only[Z2c,jh]at h;subst h;exact .inl ⟨rfl,fun j id v _=>by simp⟩
 | none::L,j0,no,no',h,i=>by
  simp only[Z2c]at h;rcases Z2Q h i with⟨a,b⟩|⟨j,id,v,e,es,p,a,b,d,f⟩
  ·refine .inl ⟨a,fun j id v hi=>?_⟩;cases j with
   | zero=>simp
   | succ j=>simpa using b j id v (by omega)
  ·exact .inr ⟨j+1,id,v,e,es,p,by omega,by simpa using b,d,f⟩
 | some (id,v)::L,j0,no,no',h,i=>by
  simp only[Z2c]at h;split at h
  ·rename_i e es p u g;have c:=(Z3 h).1;replace h:=(Z3 h).2;have c:u=v:=jf c;subst c;rcases Z2Q h i with⟨a,b⟩|⟨j,id',v',e',es',p',a,b,d,f⟩
   ·rw[Tr.get_set]at a
    by_cases hi:i=n0+j0
    ·rw[if_pos hi]at a;exact .inr ⟨0,id,u,e,es,p,by omega,by simp,g,a⟩
    ·rw[if_neg hi]at a;refine .inl ⟨a,fun j id' v' k=>?_⟩;cases j with
     | zero=>omega
     | succ j=>simpa using b j id' v' (by omega)
   ·exact .inr ⟨j+1,id',v',e',es',p',by omega,by simpa using b,d,f⟩
  ·cases h
theorem Z7G:∀{L:List (Option (Nat×Nat))} {j k id v w:Nat},Zdi L=true->L[j]? = some (some (id,v))->L[k]? = some (some (id,w))->j=k
 | [],_,_,_,_,_,_,h,_=>by simp at h
 | none::L,j,k,id,v,w,hu,h1,h2=>by
  cases j with
  | zero=>simp at h1
  | succ j=>cases k with
   | zero=>simp at h2
   | succ k=>exact congrArg (· + 1) (Z7G (L:=L) (j:=j) (k:=k) (id:=id) (v:=v) (w:=w) (by simpa[Zdi]using hu) (by simpa using h1) (by simpa using h2))
 | some (i,u)::L,j,k,id,v,w,hu,h1,h2=>by
  simp only[Zdi,jn,List.all_eq_true]at hu;have a:∀{k x:Nat},L[k]? = some (some (i,x))->False:=fun {k x} hk=>by
   have:=hu.1 _ (List.mem_of_getElem? hk);simp at this
  cases j with
  | zero =>
   have e1:i=id:=by
    have:i=id/\u=v:=by simpa using h1
    exact this.1
   subst e1;cases k with
   | zero=>rfl
   | succ k=>exact(a (by simpa using h2)).elim
  | succ j =>
   replace h1:L[j]? = some (some (id,v)):=by simpa using h1
   cases k with
   | zero =>
    have e1:i=id:=by
     have:i=id/\u=w:=by simpa using h2
     exact this.1
    subst e1;exact(a h1).elim
   | succ k=>rw[Z7G hu.2 h1 (by simpa using h2)]
end
section
variable {P:Program} {E:Env} {w0:World} {G0:Gh} {D:DD} {w:World} {β:Bi} {G:Gh} {n0:Nat} {L:List (Option (Nat×Nat))} {base:Nat} {h:Nat->Option Zd}
theorem Z2G:∀{es:List (List DV)},(∀c∈es,Zc c=true)->Zc es.flatten=true
 | [],_=>rfl
 | c::es,h=>by
  have a:∀(xs ys:List DV),Zc xs=true->Zc ys=true->Zc (xs++ys)=true:=fun xs=>by
   induction xs with
   | nil=>intro ys _ h;exact h
   | cons x xs ih =>
    intro ys b d;simp only[Zc,jn,List.cons_append]at b⊢;exact⟨b.1,ih ys b.2 d⟩
  rw[List.flatten_cons];exact a _ _ (h c (by simp)) (Z2G fun x e=>h x (by simp[e]))
theorem ZdM {k:DV} (h:keyOk k=true):Zh k=true:=by
 cases k with
 | agg cs =>
  simp only[keyOk,List.all_eq_true]at h;simp only[Zh];exact Z1b.2 fun c hc=>by have:=h c hc;cases c<;>first|rfl|cases this
 | _=>first|rfl|cases h
theorem Z7i {β':Bi}:∀{es:List (DV×DV)} {ms:List MapEntry},Z70 β G es ms->Z70 β' G es ms
 | [],_,h=>h
 | (k,v)::es,_,⟨m,ms',h1,h2,h3,h4,h5,h6⟩=>⟨m,ms',h1,Rep.free k m.key (ZdM h4) h2,Rep.free v m.val h5 h3,h4,h5,Z7i h6⟩
theorem Zbv {id:Nat} {x x':Zd} (f:id<n0) (h:Z3E n0 L x=some x') (g:Z2p E base w β G id x):Z2p E base w (Z1i n0 L β) G id x'/\∀b,Yu (Z1i n0 L β) id x' b↔Yu β id x b:=by
 have a:(Z1i n0 L β).blk id=β.blk id:=by simp[Z1i,f]
 have hh:∀u,(Z1i n0 L β).hdr id u=β.hdr id u:=fun u=>by simp[Z1i,f]
 cases x with
 | cells t cs =>
  simp only[Z3E]at h;obtain⟨cs',i,h⟩:=Z0 h;cases h;obtain⟨b,vs,k1,k2,k3,k4,k5⟩:=g;obtain⟨m1,m2⟩:=Z6K (β:=β) i k3;exact⟨⟨b,vs,by rw[a];exact k1,k2,m1,by rw[m2];exact k4,k5⟩,fun b=>by simp[Yu,a]⟩
 | row t es p u =>
  cases h;obtain⟨hdr,vals,k1,k2,k3,k4,k5,k6,k7⟩:=g;refine⟨⟨hdr,vals,by rw[hh];exact k1,k2,Zi.free _ _ ?_ k3,k4,k5,k6,fun u' o=>by rw[hh];exact k7 u' o⟩,fun b=>by simp[Yu,hh]⟩
  exact Z2G fun c hc=>(k4 c hc).2.1
 | map es =>
  cases h;obtain⟨b,ms,clock,k1,k2,k3⟩:=g;exact⟨⟨b,ms,clock,by rw[a];exact k1,k2,Z7i k3⟩,fun b=>by simp[Yu,a]⟩
 | siter s pos =>
  cases h;obtain⟨b,k1,k2⟩:=g;exact⟨⟨b,by rw[a];exact k1,k2⟩,fun b=>by simp[Yu,a]⟩
 | loop fid bs ps as bo bid ex =>
  simp only[Z3E]at h;obtain⟨bs',i,h⟩:=Z0 h;cases h;obtain⟨b,tmps,df,fn,F,k1,k2,k3,k4,k5,k6⟩:=g;refine⟨⟨b,tmps,df,fn,F,by rw[a];exact k1,k2,fun t d ht=>?_,k4,k5,fun t d ht=>?_⟩,fun b=>by simp[Yu,a]⟩
  ·rcases Tr.tm_get1 i t with⟨_,e⟩|⟨x,y,e,k,j⟩
   ·rw[e]at ht;cases ht
   ·obtain⟨d',m,l⟩:=Z0 k;cases l;rw[j]at ht;cases ht;obtain⟨v,q,n⟩:=k3 t x e;exact⟨v,q,(Zbx m n).1⟩
  ·rcases Tr.tm_get1 i t with⟨_,e⟩|⟨x,y,e,k,j⟩
   ·rw[e]at ht;cases ht
   ·exact k6 t x e
theorem Z60 {id:Nat}:∀{L:List (Option (Nat×Nat))},Z3f id L=false->∀(j v:Nat),L[j]? ≠ some (some (id,v))
 | [],_,j,v=>by simp
 | none::L,h,j,v=>by
  cases j with
  | zero=>simp
  | succ j=>simpa using Z60 (L:=L) (by simpa[Z3f]using h) j v
 | some (i,w)::L,h,j,v=>by
  simp only[Z3f,Bool.or_eq_false_iff]at h;cases j with
  | zero =>
   intro e;simp only[List.getElem?_cons_zero,jh,Prod.mk.injEq]at e;rw[e.1,Tr.beq_dec]at h;simp at h
  | succ j=>simpa using Z60 (L:=L) h.2 j v
theorem ZgQ (hh:HR E w0 G0 D w β G h) (hu:Zdi L=true) {h':Nat->Option Zd}
  (hs:∀i x',h' i=some x'->((i<n0/\∀(j v:Nat),L[j]? ≠ some (some (i,v)))/\∃x,h i=some x/\Z3E n0 L x=some x')\/(∃j id v e es p,i=n0+j/\L[j]? = some (some (id,v))/\h id=some (.row e es p v)/\x'=.row e es p 0)) :
  HR E w0 G0 D w (Z1i n0 L β) G h':=by
 have a:∀i x',h' i=some x'->∃k x,h k=some x/\Z2p E w0.heap.size w (Z1i n0 L β) G i x'/\(∀b,Yu (Z1i n0 L β) i x' b->Yu β k x b)/\(((i<n0/\∀(j v:Nat),L[j]? ≠ some (some (i,v)))/\k=i)\/∃j v,i=n0+j/\L[j]? = some (some (k,v))):=fun i x' hi=>by
  rcases hs i x' hi with⟨f,x,r,hr⟩|⟨j,id,v,e,es,p,rfl,n,r,rfl⟩
  ·obtain⟨k1,k2⟩:=Zbv f.1 hr (hh.obj i x r);exact⟨i,x,r,k1,fun b d=>(k2 b).1 d,.inl ⟨f,rfl⟩⟩
  ·obtain⟨hdr,vals,k1,k2,k3,k4,k5,k6,k7⟩:=hh.obj id _ r;have g:=Zat (n0:=n0) (β:=β) n;refine⟨id,_,r,⟨hdr,vals,by rw[g];exact k1,k2,Zi.free _ _ (Z2G fun c hc=>(k4 c hc).2.1) k3,k4,k5,k6,fun u' hu'=>?_⟩,fun b d=>?_,.inr ⟨j,v,rfl,n⟩⟩
   ·have o:¬n0+j<n0:=by omega
    have h2:u'≠0:=by omega
    simp[Z1i,o,h2]
   ·obtain⟨m,c,d⟩:=d;exact⟨m,c,by rw[<-g];exact d⟩
 refine⟨hh.below,hh.g0,hh.agree,fun i x' hi=>?_,fun i x' b hi d=>?_,fun i i' x y b hi s d t=>?_,hh.marks,hh.inv0⟩
 ·obtain⟨k,x,_,h2,_⟩:=a i x' hi;exact h2
 ·obtain⟨k,x,o,_,h3,_⟩:=a i x' hi;exact hh.own k x b o (h3 b d)
 ·obtain⟨k,z,o,_,h3,h4⟩:=a i x hi;obtain⟨k',z',a1,_,u,a0⟩:=a i' y s;have hk:k=k':=hh.inj k k' z z' b o a1 (h3 b d) (u b t);subst hk;rcases h4 with⟨f,rfl⟩|⟨j,v,rfl,n⟩<;>rcases a0 with⟨q,e'⟩|⟨j',v',rfl,l⟩
  ·exact e'
  ·exact absurd l (f.2 _ _)
  ·subst e';exact absurd n (q.2 _ _)
  ·rw[Z7G hu n l]
theorem HR.rebi (hh:HR E w0 G0 D w β G h) {β':Bi} (e:Ext β G β' G) (a:∀i o,h i=some o->β'.blk i=β.blk i/\∀u,β'.hdr i u=β.hdr i u):HR E w0 G0 D w β' G h:=by
 refine⟨hh.below,hh.g0,hh.agree,fun i o hi=>?_,fun i o b hi c=>?_,fun i k o p b hi d c hc=>?_,hh.marks,hh.inv0⟩
 ·exact Z2p.keep e (a i o hi).2 (fun _ _=>⟨rfl,fun _=>rfl⟩) (hh.obj i o hi)
 ·exact hh.own i o b hi ((Z1w (a i o hi).1 (a i o hi).2 o b).1 c)
 ·exact hh.inj i k o p b hi d ((Z1w (a i o hi).1 (a i o hi).2 o b).1 c) ((Z1w (a k p d).1 (a k p d).2 p b).1 hc)
theorem ZcS:∀{cs:List DV} {vs:List Value} {off:Nat} {d:DV} {v:Value},Zi β G cs vs->vs[off]? = some v->Rep β G d v->Zi β G (cs.set off d) vs
 | [],_,_,_,_,h,_,_=>h
 | c::cs,_,off,d,v,h,hv,hr=>by
  obtain⟨u,vs',rfl,b,a⟩:=Zb.1 h;cases off with
  | zero=>simp at hv;subst hv;exact Zb.2 ⟨u,vs',rfl,hr,a⟩
  | succ off=>exact Zb.2 ⟨u,vs',rfl,b,ZcS a (by simpa using hv) hr⟩
theorem Zet:∀{cs:List DV} {off:Nat} {d:DV},cs.all ZH=true->ZH d=true->(cs.set off d).all ZH=true
 | [],_,_,h,_=>h
 | c::cs,off,d,h,hd=>by
  simp only[jt,jn]at h;cases off with
  | zero=>simp[hd];simpa using h.2
  | succ off=>simp[h.1];simpa using Zet (off:=off) h.2 hd
theorem Z2g (tm:Array Value) (V:Nat):∀(as:List Acc) (j:Nat) (b:Tr DV) (no:Tr Zd) (β:Bi) (r:Tr DV×Tr Zd),Ym E n0 j as (b,no)=some r →
  HR E w0 G0 D w β G no.get->FrM β G b.get tm->(∀t d,b.get t=some d->Nat.testBit V t=true)->(∀i,n0<=i->no.get i=none->ZR β no.get i)->(∀i,n0+j+as.length<=i->no.get i=none) →
  ∃β',Ext β G β' G/\Z4C n0 β β'/\HR E w0 G0 D w β' G r.2.get/\FrM β' G r.1.get tm/\(∀t d,r.1.get t=some d->Nat.testBit V t=true)/\(∀i,n0+j+as.length<=i->ZR β' r.2.get i) ∧
   ∀i,i<n0->no.get i=none->r.2.get i=none
 | [],j,b,no,β,r,h,hh,f,hd,hfr,hn=>by
  simp only[Ym,jh]at h;subst h;exact⟨β,Ext.refl β G,⟨fun _ _=>rfl,fun _ _ _=>rfl⟩,hh,f,hd,fun i hi=>hfr i (by simp at hi;omega) (hn i hi),fun _ _ h=>h⟩
 | ac::as,j,b,no,β,r,h,hh,f,hd,hfr,hn=>by
  simp only[List.length_cons]at hn⊢;have skip:Ym E n0 (j+1) as (b,no)=some r->∃β',Ext β G β' G/\Z4C n0 β β'/\HR E w0 G0 D w β' G r.2.get/\FrM β' G r.1.get tm/\(∀t d,r.1.get t=some d->Nat.testBit V t=true)/\(∀i,n0+j+(as.length+1)<=i->ZR β' r.2.get i) ∧
   ∀i,i<n0->no.get i=none->r.2.get i=none:=fun h=>by
   obtain⟨β',k1,k2,k3,k4,k5,k6,k7⟩:=Z2g tm V as (j+1) b no β r h hh f hd hfr (fun i hi=>hn i (by omega))
   exact⟨β',k1,k2,k3,k4,k5,fun i hi=>k6 i (by omega),k7⟩
  have add:∀(b1:Tr DV) (no1:Tr Zd) (e:TypeId) (ei:TI),E.ty e=some ei->0<ei.size->no.get (n0+j)=none->Ym E n0 (j+1) as (b1,no1.set (n0+j) (some (.row e [] 0 0)))=some r →
    (∀i,i≠n0+j->(no1.get i=none↔no.get i=none)) →
    (∀β1,Ext β G β1 G->Z4C n0 β β1->(∀i,i≠n0+j->β1.blk i=β.blk i/\∀u,β1.hdr i u=β.hdr i u)->β1.hdr (n0+j) 0=some (.slice none 0 0)->FrM β1 G b1.get tm/\(∀t d,b1.get t=some d->Nat.testBit V t=true)/\HR E w0 G0 D w β1 G (fun i=>if i=n0+j then none else no1.get i)) →
    ∃β',Ext β G β' G/\Z4C n0 β β'/\HR E w0 G0 D w β' G r.2.get/\FrM β' G r.1.get tm/\(∀t d,r.1.get t=some d->Nat.testBit V t=true)/\(∀i,n0+j+(as.length+1)<=i->ZR β' r.2.get i) ∧
     ∀i,i<n0->no.get i=none->r.2.get i=none:=fun b1 no1 e ei z hpos a2 hrec y hb1=>by
   have p:=hfr (n0+j) (by omega) a2
   let β1:Bi:={ β with hdr:=fun i u=>if i=n0+j/\u=0 then some (.slice none 0 0)else β.hdr i u }
   have k:Ext β G β1 G:=⟨fun _ _ _ h=>h,fun _ _ h=>h,fun i u v hv=>by
    by_cases e1:i=n0+j/\u=0
    ·rw[e1.1,p.hdr]at hv;cases hv
    ·simp only[β1,if_neg e1];exact hv⟩
   have g:Z4C n0 β β1:=⟨fun _ _=>rfl,fun i hi u=>by
    have:¬(i=n0+j/\u=0):=by omega
    simp only[β1,if_neg this]⟩
   have a:∀i,i≠n0+j->β1.blk i=β.blk i/\∀u,β1.hdr i u=β.hdr i u:=fun i hi=>⟨rfl,fun u=>by simp[β1,hi]⟩
   obtain⟨hf1,hd1,n⟩:=hb1 β1 k g a (by simp[β1])
   have hh2:HR E w0 G0 D w β1 G (no1.set (n0+j) (some (.row e [] 0 0))).get:=by
    refine(n.move (fun _=>False) (n0+j) (.row e [] 0 0) (Ext.refl _ _) n.below (fun _ _ _=>rfl) (fun _ _=>rfl) (Nat.le_refl _) (fun _ f=>f.elim) (fun _ _ _ f=>f.elim) (fun _ f=>f.elim) ?_ ?_ ?_ (fun _ _=>⟨rfl,fun _=>rfl⟩)).eq fun i=>?_
    ·refine⟨.slice none 0 0,[],by simp[β1],⟨by simp,.inl ⟨rfl,rfl⟩⟩,Zm.2 rfl,by simp,⟨by rw[Z6q z];exact hpos,Nat.le_refl _⟩,fun b hb=>by simp[Value.ownBlock]at hb,fun u' hu'=>?_⟩
     have:¬(u'=0):=by omega
     simp[β1,this,p.hdr]
    ·rintro x ⟨m,c,hb⟩;simp[β1]at hb
    ·rintro x ⟨m,c,hb⟩;simp[β1]at hb
    ·rw[ZU,Tr.get_set]
     by_cases e1:i=n0+j<;>simp[e1]
   have hs1:∀i,n0<=i->(no1.set (n0+j) (some (.row e [] 0 0))).get i=none->ZR β1 (no1.set (n0+j) (some (.row e [] 0 0))).get i:=fun i hi l=>by
    have hq0:=l;rw[Tr.get_set]at l
    by_cases e1:i=n0+j
    ·rw[if_pos e1]at l;cases l
    ·rw[if_neg e1]at l;have:=hfr i hi ((y i e1).1 l);exact⟨(a i e1).1.trans this.blk,fun u=>((a i e1).2 u).trans (this.hdr u),hq0⟩
   have hs2:∀i,n0+(j+1)+as.length<=i->(no1.set (n0+j) (some (.row e [] 0 0))).get i=none:=fun i hi=>by
    rw[Tr.get_set,if_neg (by omega)]
    exact(y i (by omega)).2 (hn i (by omega))
   obtain⟨β',k1,k2,k3,k4,k5,k6,k7⟩:=Z2g tm V as (j+1) b1 _ β1 r hrec hh2 hf1 hd1 hs1 hs2;refine⟨β',k.trans k1,⟨fun i hi=>(k2.blk i hi).trans (g.blk i hi),fun i hi u=>(k2.hdr i hi u).trans (g.hdr i hi u)⟩,k3,k4,k5,fun i hi=>k6 i (by omega),fun i hi l=>k7 i hi ?_⟩
   rw[Tr.get_set,if_neg (by omega)];exact(y i (by omega)).2 l
  cases ac with
  | slot t e =>
   simp only[Ym]at h;split at h
   ·rename_i a1;obtain⟨ei,z,h⟩:=Z0 h;obtain⟨l,h⟩:=Z3 h;simp only[jn,Option.isNone_iff_eq_none]at l;refine add _ no e ei z (je l.1) l.2 h (fun _ _=>Iff.rfl) fun β1 k g a hn1=>⟨fun t' d ht=>?_,fun t' d ht=>?_,?_⟩
    ·rw[Tr.get_set]at ht
     by_cases e1:t'=t
     ·subst e1;rw[if_pos rfl]at ht;cases ht;obtain⟨v,h1,h2⟩:=f t' _ a1;rw[Z1U]at h2;exact⟨v,h1,Z2K.2 ⟨by rw[hn1,h2],_,_,_,h2⟩⟩
     ·rw[if_neg e1]at ht;obtain⟨v,h1,h2⟩:=f t' d ht;exact⟨v,h1,Rep.mono k d v h2⟩
    ·rw[Tr.get_set]at ht
     by_cases e1:t'=t
     ·subst e1;exact hd t' _ a1
     ·rw[if_neg e1]at ht;exact hd t' d ht
    ·exact HR.rebi (hh.less fun i o hi=>by
      by_cases e1:i=n0+j
      ·rw[if_pos e1]at hi;cases hi
      ·rw[if_neg e1]at hi;exact hi) k fun i o hi=>by
      by_cases e1:i=n0+j
      ·rw[if_pos e1]at hi;cases hi
      ·exact a i e1
   ·exact skip h
  | cell t off e =>
   simp only[Ym]at h;split at h
   ·split at h
    ·split at h
     ·rename_i q a1 _ ct cs s _ hcs;obtain⟨ei,z,h⟩:=Z0 h;obtain⟨l,h⟩:=Z3 h;simp only[jn,Option.isNone_iff_eq_none]at l;have a0:q≠n0+j:=fun e1=>by rw[e1,l.2]at s;cases s
      refine add b _ e ei z (je l.1) l.2 h (fun i hi=>?_) fun β1 k g a hn1=>⟨f.mono k,hd,?_⟩
      ·rw[Tr.get_set]
       by_cases e1:i=q
       ·subst e1;simp[s]
       ·rw[if_neg e1]
      ·have n:HR E w0 G0 D w β1 G (fun i=>if i=n0+j then none else no.get i):=HR.rebi (hh.less fun i o hi=>by
        by_cases e1:i=n0+j
        ·rw[if_pos e1]at hi;cases hi
        ·rw[if_neg e1]at hi;exact hi) k fun i o hi=>by
        by_cases e1:i=n0+j
        ·rw[if_pos e1]at hi;cases hi
        ·exact a i e1
       obtain⟨bk,vs,m1,m2,m3,m4,m5⟩:=n.obj q (.cells ct cs) (by rw[if_neg a0];exact s)
       obtain⟨v,m6,m7⟩:=Z3T m3 hcs;rw[Z1U]at m7;subst m7;refine(n.move (fun _=>False) q (.cells ct (cs.set off (.rs (n0+j) 0))) (Ext.refl _ _) n.below (fun _ _ _=>rfl) (fun _ _=>rfl) (Nat.le_refl _) (fun _ f=>f.elim) (fun _ _ _ f=>f.elim) (fun _ f=>f.elim) ?_ ?_ ?_ (fun _ _=>⟨rfl,fun _=>rfl⟩)).eq fun i=>?_
       ·exact⟨bk,vs,m1,m2,ZcS m3 m6 (Z2K.2 ⟨hn1,_,_,_,rfl⟩),Zet m4 rfl,m5⟩
       ·intro x hx;exact .inr ⟨.cells ct cs,by rw[if_neg a0];exact s,hx⟩
       ·intro x hx;exact(n.own q (.cells ct cs) x (by rw[if_neg a0];exact s) hx).2.1
       ·rw[ZU,Tr.get_set]
        by_cases e1:i=q
        ·subst e1;simp[a0]
        ·simp[e1]
     ·exact skip h
    ·exact skip h
   ·exact skip h
end
end Go.Ab
namespace Go.Ab
open Go.RowKit
section
variable {P:Program} {E:Env} {w0:World} {G0:Gh} {outer:DD} {own:List Nat} {V nt:Nat} {a:Act} {w:World} {β:Bi} {G:Gh} {n0:Nat}
abbrev SS (E:Env) (w0:World) (G0:Gh) (outer:DD) (V nt:Nat) (own:List Nat) (s:St) (a:Act) (w:World) (β:Bi) (G:Gh):Prop :=
 MI E w0 G0 outer V nt own s.base.get s.base s.objs.get s.next a w β G
theorem Zgy {id:Nat} {x:Zd} (h:Z2p E w0.heap.size w β G id x):Z2p E w0.heap.size w β G id (Z4U x):=by
 cases x with
 | row t es p u =>
  obtain⟨hdr,vals,k1,k2,k3,k4,k5,k6,k7⟩:=h;exact⟨hdr,vals,k1,k2,k3,k4,⟨k5.1,Z9g _ _⟩,fun b a o c=>k6 b a o (Nat.le_trans (Nat.mul_le_mul_right _ (Z9g _ _)) c),k7⟩
 | _=>exact h
theorem Z7h {id:Nat} {x:Zd} {b:Nat}:Yu β id (Z4U x) b↔Yu β id x b:=by cases x<;>exact Iff.rfl
theorem Tr.mapv_get1 {α γ:Type} (f:α->γ):∀(t:Tr α) (k:Nat),(t.mapv f).get k=(t.get k).map f
 | .leaf,_=>rfl
 | .node l v r,k=>by
  simp only[Tr.mapv,Tr.get];cases Nat.beq k 0 with
  | true=>rfl
  | false =>
   simp only[jA];cases Nat.beq (k % 2) 1 with
   | true=>exact mapv_get1 f l _
   | false=>exact mapv_get1 f r _
theorem HR.lift {h:Nat->Option Zd} {D:DD} (hh:HR E w0 G0 D w β G h) {h':Nat->Option Zd} (d:∀i,h' i=(h i).map Z4U):HR E w0 G0 D w β G h':=by
 have key:∀i x',h' i=some x'->∃x,h i=some x/\x'=Z4U x:=fun i x' hi=>by
  rw[d i]at hi;cases hq:h i with
  | none=>rw[hq]at hi;cases hi
  | some x=>rw[hq]at hi;cases hi;exact⟨x,rfl,rfl⟩
 refine⟨hh.below,hh.g0,hh.agree,fun i x' hi=>?_,fun i x' b hi c=>?_,fun i j x y b hi f c hc=>?_,hh.marks,hh.inv0⟩
 ·obtain⟨x,a,rfl⟩:=key i x' hi;exact Zgy (hh.obj i x a)
 ·obtain⟨x,a,rfl⟩:=key i x' hi;exact hh.own i x b a (Z7h.1 c)
 ·obtain⟨x',a,rfl⟩:=key i x hi;obtain⟨y',e,rfl⟩:=key j y f;exact hh.inj i j x' y' b a e (Z7h.1 c) (Z7h.1 hc)
theorem ZcI {c:Z3G} {s s':St} (k:ZcH E c n0 s=some s') (hm:SS E w0 G0 outer V nt own s a w β G) :
  ∃β',SS E w0 G0 outer V nt own s' a w β' G/\Z4C n0 β β'/\(∀i,i<n0->s.objs.get i=none->s'.objs.get i=none)/\n0<=s'.next:=by
 unfold ZcH at k;simp only at k;obtain⟨hu,k⟩:=Z3 k;obtain⟨b,hb,k⟩:=Z0 k;obtain⟨o1,q,k⟩:=Z0 k;obtain⟨o2,o,k⟩:=Z0 k;obtain⟨r,hr,k⟩:=Z0 k;cases k;generalize Zb3 s.objs s.base n0 c.keep (c.accs.map (Z5R s.objs s.base))=XL at hu hb q o hr;generalize hLdef:XL.map some++c.accs.map (Z5R s.objs s.base)=L at hu hb q o;have hLlen:L.length=XL.length+c.accs.length:=by rw[<-hLdef,List.length_append,List.length_map,List.length_map]
 have g:∀i x',o2.get i=some x'->((i<n0/\∀(j v:Nat),L[j]? ≠ some (some (i,v)))/\∃x,s.objs.get i=some x/\Z3E n0 L x=some x')\/(∃j id v e es p,i=n0+j/\L[j]? = some (some (id,v))/\s.objs.get id=some (.row e es p v)/\x'=.row e es p 0):=fun i x' hi=>by
  rcases Z2Q o i with⟨h,m⟩|⟨j,id,v,e,es,p,h,m,n,f⟩
  ·rw[h]at hi;rcases Tr.tm_get1 q i with⟨_,f⟩|⟨x,y,n,f,h5⟩
   ·rw[f]at hi;cases hi
   ·rw[h5]at hi;cases hl:(Nat.blt i n0 && !Z3f i L)with
    | true =>
     rw[hl]at f;simp only[jB]at f;obtain⟨z,h6,h7⟩:=Z0 f;cases h7;cases hi;simp only[jn,Bool.not_eq_true',Tr.blt_dec,jl]at hl;exact .inl ⟨⟨hl.1,Z60 hl.2⟩,x,n,h6⟩
    | false =>
     rw[hl]at f;simp only[jA]at f;cases f;cases hi
  ·rw[f]at hi;cases hi;exact .inr ⟨j,id,v,e,es,p,by omega,m,n,rfl⟩
 have hh1:=ZgQ hm.hr hu g
 have l:∀t d',b.get t=some d'->∃d,s.base.get t=some d/\ren n0 L d=some d':=fun t d' ht=>by
  rcases Tr.tm_get1 hb t with⟨_,f⟩|⟨x,y,n,f,h5⟩
  ·rw[f]at ht;cases ht
  ·rw[h5]at ht;subst ht;cases hk:Nat.testBit c.keep t with
   | true =>
    rw[hk]at f;simp only[jB]at f;obtain⟨z,h6,h7⟩:=Z0 f;cases h7;exact⟨x,n,h6⟩
   | false =>
    rw[hk]at f;simp only[jA]at f;cases f
 have hf1:FrM (Z1i n0 L β) G b.get a.tmps:=fun t d' ht=>by
  obtain⟨d,h,m⟩:=l t d' ht;obtain⟨v,n,f⟩:=hm.fr t d h;exact⟨v,n,(Zbx m f).1⟩
 have hd1:∀t d,b.get t=some d->Nat.testBit V t=true:=fun t d' ht=>by
  obtain⟨d,h,_⟩:=l t d' ht;exact hm.dom t d h
 have hfr1:∀i,n0<=i->o2.get i=none->ZR (Z1i n0 L β) o2.get i:=fun i hi hq=>by
  have h:¬i<n0:=by omega
  refine⟨by simp[Z1i,h],fun u=>?_,hq⟩
  simp only[Z1i,h,if_false]
  by_cases hu0:u=0
  ·rw[if_pos hu0];split
   ·rename_i id v hj;rcases Z2Q o i with⟨m,n⟩|⟨j,id',v',e,es,p,m,n,f,h5⟩
    ·exact absurd hj (n (i-n0) id v (by omega))
    ·rw[h5]at hq;cases hq
   ·rfl
  ·rw[if_neg hu0]
 have hn1:∀i,n0+XL.length+c.accs.length<=i->o2.get i=none:=fun i hi=>by
  cases hq:o2.get i with
  | none=>rfl
  | some x =>
   rcases g i x hq with⟨h,_⟩|⟨j,id,v,e,es,p,h,m,_⟩
   ·have:=h.1;omega
   ·have:=(jc.1 m).1;omega
 obtain⟨β',k1,k2,k3,k4,k5,k6,k7⟩:=Z2g a.tmps V c.accs XL.length b o2 _ r hr hh1 hf1 hd1 hfr1 hn1;have hag:=Z54 n0 L β;refine⟨β',⟨k4,k5,hm.sz,k3,fun i hi=>k6 i hi,hm.df⟩,⟨fun i hi=>(k2.blk i hi).trans (hag.blk i hi),fun i hi u=>(k2.hdr i hi u).trans (hag.hdr i hi u)⟩,fun i hi hq=>k7 i hi ?_,by show n0<=n0+XL.length+c.accs.length;omega⟩
 cases hz:o2.get i with
 | none=>rfl
 | some x =>
  rcases g i x hz with⟨_,x',m,_⟩|⟨j,id,v,e,es,p,h,_⟩
  ·rw[hq]at m;cases m
  ·omega
theorem ZdU {b:Z3G} {s s':St} (c:ZcG E b n0 s=some s') (j:SS E w0 G0 outer V nt own s a w β G) :
  ∃β',SS E w0 G0 outer V nt own s' a w β' G/\Z4C n0 β β'/\(∀i,i<n0->s.objs.get i=none->s'.objs.get i=none)/\n0<=s'.next:=by
 unfold ZcG at c;obtain⟨s1,f,c⟩:=Z0 c;cases c;obtain⟨β',k1,k2,k3,k4⟩:=ZcI f j;cases b.raw with
 | true=>exact⟨β',k1,k2,k3,k4⟩
 | false =>
  simp only[jA];have e:∀i,(s1.objs.mapv Z4U).get i=(s1.objs.get i).map Z4U:=Tr.mapv_get1 Z4U _;refine⟨β',⟨k1.fr,k1.dom,k1.sz,k1.hr.lift e,fun i hi=>?_,k1.df⟩,k2,fun i hi g=>?_,k4⟩
  ·have d:=k1.fresh i hi;exact⟨d.blk,d.hdr,by show(s1.objs.mapv Z4U).get i=none;rw[e,d.h];rfl⟩
  ·show(s1.objs.mapv Z4U).get i=none;rw[e,k3 i hi g];rfl
end
end Go.Ab
namespace Go.Ab
open Go.RowKit
theorem Z3e {i:Nat}:∀{l:List Nat},Z3D i l=true↔i∈l
 | []=>by simp[Z3D]
 | j::l=>by
  simp only[Z3D,Tr.beq_dec,jr]
  by_cases e:i=j
  ·simp[e]
  ·simp[e,Z3e (l:=l)]
theorem Z5i {i:Nat}:∀{l:List Nat},i∈l->Z1Q i l<Z2t l
 | j::l,h=>by
  simp only[Z1Q,Z2t,Tr.beq_dec]
  by_cases e:i=j
  ·simp[e]
  ·have:=Z5i (l:=l) (by simpa[e]using h)
   simp[e,this]
theorem Z4g {d i:Nat}:∀{l:List Nat},i∈l->Z61 d (Z1Q i l) l=i
 | j::l,h=>by
  simp only[Z1Q,Tr.beq_dec]
  by_cases e:i=j
  ·simp[e,Z61]
  ·have:=Z4g (d:=d) (l:=l) (by simpa[e]using h)
   simp[e,Z61,this]
theorem Zbl {d:Nat}:∀{l:List Nat} {j:Nat},j<Z2t l->Z61 d j l∈l
 | [],j,h=>by simp[Z2t]at h
 | i::l,0,_=>by simp[Z61]
 | i::l,j+1,h=>by
  simp only[Z2t]at h;simp only[Z61,jr];exact .inr (Zbl (by omega))
theorem Z8j {d:Nat}:∀{l:List Nat} {j:Nat},Z9K l=true->j<Z2t l->Z1Q (Z61 d j l) l=j
 | [],j,_,h=>by simp[Z2t]at h
 | i::l,0,_,_=>by simp[Z61,Z1Q]
 | i::l,j+1,hu,h=>by
  simp only[Z2t]at h;simp only[Z9K,jn,Bool.not_eq_true']at hu;have b:=Zbl (d:=d) (l:=l) (j:=j) (by omega)
  have a:¬Z61 d j l=i:=fun e=>by
   have:=Z3e.2 b;rw[e,hu.1]at this;cases this
  simp only[Z61,Z1Q,Tr.beq_dec,a,decide_false,jA,Z8j hu.2 (by omega:j<Z2t l)]
theorem Z5n {j:Nat}:∀{n i:Nat},j∈upN i n↔i<=j/\j<i+n
 | 0,i=>by simp[upN]
 | n+1,i=>by
  simp only[upN,jr,Z5n];omega
theorem Zbj {k i:Nat}:∀{l:List Nat},i∈geN k l↔i∈l/\k<=i
 | []=>by simp[geN]
 | j::l=>by
  simp only[geN];cases hb:Nat.ble k j with
  | true =>
   have:=je hb;simp only[jB,jr,Zbj (l:=l)];constructor
   ·rintro(e|⟨b,a⟩)
    ·subst e;exact⟨.inl rfl,this⟩
    ·exact⟨.inr b,a⟩
   ·rintro⟨e|e,a⟩
    ·exact .inl e
    ·exact .inr ⟨e,a⟩
  | false =>
   have:¬k<=j:=fun h=>by rw[Nat.ble_eq_true_of_le h]at hb;cases hb
   simp only[jA,jr,Zbj (l:=l)];constructor
   ·rintro⟨b,a⟩;exact⟨.inr b,a⟩
   ·rintro⟨e|e,a⟩
    ·subst e;exact absurd a this
    ·exact⟨e,a⟩
theorem Tr.allV_get {α:Type} {p:α->Bool}:∀{t:Tr α},t.allV p=true->∀{k:Nat} {x:α},t.get k=some x->p x=true
 | .leaf,_,k,x,h=>by cases h
 | .node l v r,ha,k,x,h=>by
  simp only[Tr.allV,jn]at ha;rw[Tr.get_node]at h
  by_cases e0:k=0
  ·rw[if_pos e0]at h;subst h;exact ha.2.1
  ·rw[if_neg e0]at h
   by_cases e1:k % 2=1
   ·rw[if_pos e1]at h;exact Tr.allV_get ha.1 h
   ·rw[if_neg e1]at h;exact Tr.allV_get ha.2.2 h
theorem Tr.mapv_get' {α β:Type} (f:α->β):∀(t:Tr α) (k:Nat),(t.mapv f).get k=(t.get k).map f
 | .leaf,_=>rfl
 | .node l v r,k=>by
  simp only[Tr.mapv];rw[Tr.get_node,Tr.get_node]
  by_cases e0:k=0
  ·rw[if_pos e0,if_pos e0]
  ·rw[if_neg e0,if_neg e0]
   by_cases e1:k % 2=1
   ·rw[if_pos e1,if_pos e1];exact Tr.mapv_get' f l _
   ·rw[if_neg e1,if_neg e1];exact Tr.mapv_get' f r _
theorem Tr.ents_get {α:Type}:∀(t:Tr α) (a b k:Nat) (x:α),t.get k=some x->(a*k+b,x)∈t.ents a b
 | .leaf,_,_,_,_,h=>by cases h
 | .node l v r,a,b,k,x,h=>by
  rw[Tr.get_node]at h;simp only[Tr.ents,List.mem_append]
  by_cases e0:k=0
  ·rw[if_pos e0]at h;subst h;subst e0;exact .inr (.inl (by simp))
  ·rw[if_neg e0]at h
   by_cases e1:k % 2=1
   ·rw[if_pos e1]at h;have:=Tr.ents_get l (2*a) (a+b) _ _ h;rw[show 2*a*(k / 2)+(a+b)=a*k+b by
     have:k=2*(k / 2)+1:=by omega
     generalize k / 2=m at this;subst this;rw[Nat.mul_add,<-Nat.mul_assoc,Nat.mul_comm a 2];omega]at this
    exact .inl this
   ·rw[if_neg e1]at h;have:=Tr.ents_get r (2*a) (2*a+b) _ _ h;rw[show 2*a*(k / 2-1)+(2*a+b)=a*k+b by
     have:k=2*(k / 2-1)+2:=by omega
     generalize k / 2-1=m at this;subst this;rw[Nat.mul_add,<-Nat.mul_assoc,Nat.mul_comm a 2];omega]at this
    exact .inr (.inr this)
theorem Z4m (h:Nat->Option Zd):∀(n:Nat) (todo acc:List Nat) (i:Nat),i∈Z1h h n todo acc->(∀j∈acc,∃x,h j=some x)->∃x,h i=some x
 | 0,_,acc,i,hi,ha=>ha i hi
 | n+1,[],acc,i,hi,ha=>ha i hi
 | n+1,j::todo,acc,i,hi,ha=>by
  simp only[Z1h]at hi;cases hq:acc.any (Nat.beq j)with
  | true=>rw[hq]at hi;exact Z4m h n _ _ i hi ha
  | false =>
   rw[hq]at hi;simp only[jA]at hi;cases hj:h j with
   | none=>rw[hj]at hi;exact Z4m h n _ _ i hi ha
   | some o =>
    rw[hj]at hi;refine Z4m h n _ _ i hi fun k a=>?_;rcases jr.1 a with e|e
    ·exact e▸⟨o,hj⟩
    ·exact ha k e
theorem Zbn {p:Nat->Bool} {h:Nat->Option Zd}:∀{is:List Nat},okH p h is=true->∀i∈is,∀o,h i=some o->okO p o=true
 | [],_,i,hi,_,_=>by cases hi
 | j::is,hb,i,hi,o,ho=>by
  simp only[okH,jn]at hb;rcases jr.1 hi with e|e
  ·subst e;rw[ho]at hb;exact hb.1
  ·exact Zbn hb.2 i e o ho
mutual
theorem Z6E:∀d:DV,okD (fun _=>true) d=true
 | .ptr _ _ | .rptr _ _ _ _ _ | .rs _ _ | .rv _ _ _ _ _ | .map _ | .iter _ | .yld _=>by simp[okD]
 | .agg cs=>by simp only[okD];exact Z34 cs
 | .tup cs=>by simp only[okD];exact Z34 cs
 | .fn _ a b=>by simp only[okD,Z34 a,Z34 b,ju]
 | .iface _ v=>by simp only[okD];exact Z6E v
 | .bool _ | .int _ _ | .str _ | .nilp | .pub _ | .nils | .sl _ | .slen _ | .nilfn | .nilmap | .nilif=>by simp[okD]
theorem Z34:∀ds:List DV,Z1l (fun _=>true) ds=true
 | []=>by simp[Z1l]
 | d::ds=>by simp only[Z1l,Z6E d,Z34 ds,ju]
end
theorem Z73 {α:Type} {p:α->Bool} (a:∀x,p x=true):∀t:Tr α,t.allV p=true
 | .leaf=>rfl
 | .node l v r=>by
  simp only[Tr.allV,Z73 a l,Z73 a r,Bool.true_and,Bool.and_true];cases v with
  | none=>rfl
  | some x=>exact a x
theorem ZgJ (o:Zd):okO (fun _=>true) o=true:=by
 cases o<;>simp only[okO]
 ·exact Z34 _
 ·exact Z73 Z6E _
def Z7I (p:Nat->Bool) (f:Nat->Nat) (β β':Bi):Prop:=∀i,p i=true->β'.blk (f i)=β.blk i/\∀u,β'.hdr (f i) u=β.hdr i u
section
variable {P:Program} {E:Env} {w0:World} {G0:Gh} {D:DD} {w:World} {β β':Bi} {G:Gh} {h:Nat->Option Zd} {p:Nat->Bool} {f:Nat->Nat}
mutual
theorem Rep.rn (e:Z7I p f β β'):∀(d:DV) (v:Value),okD p d=true->Rep β G d v->Rep β' G (rn f d) v
 | .bool _,_,_,h=>by unfold Ab.rn;unfold Rep at h⊢;exact h
 | .int _ _,_,_,h=>by unfold Ab.rn;unfold Rep at h⊢;exact h
 | .str _,_,_,h=>by unfold Ab.rn;unfold Rep at h⊢;exact h
 | .nilp,_,_,h=>by unfold Ab.rn;unfold Rep at h⊢;exact h
 | .ptr i _,_,hb,h=>by
  unfold Ab.rn;unfold Rep at h⊢;rw[(e i hb).1];exact h
 | .rptr i _ _ _ _,_,hb,h=>by
  unfold Ab.rn;unfold Rep at h⊢;simp only[(e i hb).2];exact h
 | .pub cs,_,_,h=>by
  unfold Ab.rn;unfold Rep at h⊢;obtain⟨l,b,o,g,j⟩:=h;exact⟨l,b,o,g,Pub.free cs b o l j⟩
 | .nils,_,_,h=>by unfold Ab.rn;unfold Rep at h⊢;exact h
 | .sl es,v,_,h=>by unfold Ab.rn;exact Rep.free _ v rfl h
 | .rs i _,_,hb,h=>by
  unfold Ab.rn;unfold Rep at h⊢;rw[(e i hb).2];exact h
 | .rv i _ _ _ _,_,hb,h=>by
  unfold Ab.rn;unfold Rep at h⊢;rw[(e i hb).2];exact h
 | .slen _,_,_,h=>by unfold Ab.rn;unfold Rep at h⊢;exact h
 | .agg cs,_,hb,h=>by unfold Ab.rn;unfold Rep at h⊢;obtain⟨vs,g,j⟩:=h;exact⟨vs,g,Zi.rn e cs vs (by simpa[okD]using hb) j⟩
 | .tup cs,_,hb,h=>by unfold Ab.rn;unfold Rep at h⊢;obtain⟨vs,g,j⟩:=h;exact⟨vs,g,Zi.rn e cs vs (by simpa[okD]using hb) j⟩
 | .fn _ a c,_,hb,h=>by
  unfold Ab.rn;unfold Rep at h⊢;obtain⟨as,cs,g,j,m⟩:=h;have k:Z1l p a=true/\Z1l p c=true:=by simpa[okD]using hb
  exact⟨as,cs,g,Zi.rn e a as k.1 j,Zi.rn e c cs k.2 m⟩
 | .nilfn,_,_,h=>by unfold Ab.rn;unfold Rep at h⊢;exact h
 | .map i,_,hb,h=>by
  unfold Ab.rn;unfold Rep at h⊢;rw[(e i hb).1];exact h
 | .nilmap,_,_,h=>by unfold Ab.rn;unfold Rep at h⊢;exact h
 | .iface _ d,_,hb,h=>by unfold Ab.rn;unfold Rep at h⊢;obtain⟨u,g,j⟩:=h;exact⟨u,g,Rep.rn e d u (by simpa[okD]using hb) j⟩
 | .nilif,_,_,h=>by unfold Ab.rn;unfold Rep at h⊢;exact h
 | .iter i,_,hb,h=>by
  unfold Ab.rn;unfold Rep at h⊢;rw[(e i hb).1];exact h
 | .yld i,_,hb,h=>by
  unfold Ab.rn;unfold Rep at h⊢;rw[(e i hb).1];exact h
theorem Zi.rn (b:Z7I p f β β'):∀(ds:List DV) (vs:List Value),Z1l p ds=true->Zi β G ds vs->Zi β' G (rns f ds) vs
 | [],_,_,h=>by unfold rns;unfold Zi at h⊢;exact h
 | d::ds,_,hb,h=>by
  unfold rns;unfold Zi at h⊢;have a:okD p d=true/\Z1l p ds=true:=by simpa[Z1l]using hb
  obtain⟨v,vs',c,e,g⟩:=h;exact⟨v,vs',c,Rep.rn b d v a.1 e,Zi.rn b ds vs' a.2 g⟩
end
theorem ZhQ (f:Nat->Nat) (d:DV):ZH (rn f d)=ZH d:=by cases d<;>simp[rn,ZH]
theorem ZcY (f:Nat->Nat):∀ds:List DV,(rns f ds).all ZH=ds.all ZH
 | []=>by simp[rns]
 | d::ds=>by simp only[rns,jt,ZhQ,ZcY f ds]
theorem Z6y:∀{es:List (List DV)},(∀c∈es,Zc c=true)->Zc es.flatten=true
 | [],_=>rfl
 | c::es,h=>by
  have d:∀(a b:List DV),Zc a=true->Zc b=true->Zc (a++b)=true:=fun a b e f=>by
   induction a with
   | nil=>exact f
   | cons x a ih =>
    simp only[Zc,jn,List.cons_append]at e⊢;exact⟨e.1,ih e.2⟩
  rw[List.flatten_cons];exact d _ _ (h c (by simp)) (Z6y fun c hc=>h c (by simp[hc]))
theorem Z2p.rn (h:Z7I p f β β') {id base:Nat} (a:p id=true):∀{o:Zd},okO p o=true->Z2p E base w β G id o->Z2p E base w β' G (f id) (rnO f o)
 | .cells t cs,hb,hr=>by
  obtain⟨b,vs,e,g,i,j,k⟩:=hr;exact⟨b,vs,by rw[(h id a).1];exact e,g,Zi.rn h cs _ hb i,by rw[ZcY];exact j,k⟩
 | .row t es q u,_,hr=>by
  obtain⟨hdr,vals,e,g,i,j,k,m,l⟩:=hr;exact⟨hdr,vals,by rw[(h id a).2];exact e,g,Zi.free _ _ (Z6y fun c hc=>(j c hc).2.1) i,j,k,m,fun u' n=>by rw[(h id a).2];exact l u' n⟩
 | .map es,_,hr=>by
  obtain⟨b,ms,clock,e,g,i⟩:=hr;exact⟨b,ms,clock,by rw[(h id a).1];exact e,g,Z7i i⟩
 | .siter s pos,_,hr=>by
  obtain⟨b,e,g⟩:=hr;exact⟨b,by rw[(h id a).1];exact e,g⟩
 | .loop fid bs ps as bo bid ex,hb,hr=>by
  obtain⟨b,tmps,df,fn,F,e,g,i,j,k,m⟩:=hr;refine⟨b,tmps,df,fn,F,by rw[(h id a).1];exact e,g,fun t d ht=>?_,j,k,fun t d ht=>?_⟩
  ·rw[Tr.mapv_get']at ht;cases hq:bs.get t with
   | none=>rw[hq]at ht;cases ht
   | some d0 =>
    rw[hq]at ht;cases ht;obtain⟨v,l,r⟩:=i t d0 hq;exact⟨v,l,Rep.rn h d0 v (Tr.allV_get hb hq) r⟩
  ·rw[Tr.mapv_get']at ht;cases hq:bs.get t with
   | none=>rw[hq]at ht;cases ht
   | some d0=>exact m t d0 hq
theorem Zbr (c:Z7I p f β β') {id:Nat} (a:p id=true) (o:Zd) (b:Nat):Yu β' (f id) (rnO f o) b↔Yu β id o b:=by
 cases o<;>simp only[rnO,Yu,(c id a).1,(c id a).2]
theorem HR.rn (e:Z7I p f β β') (n:∀i j,p i=true->p j=true->f i=f j->i=j) (hh:HR E w0 G0 D w β G h) {h':Nat->Option Zd}
  (hi:∀i y,h' i=some y->∃j x,p j=true/\f j=i/\h j=some x/\y=rnO f x/\okO p x=true):HR E w0 G0 D w β' G h' :=
 ⟨hh.below,hh.g0,hh.agree,fun i o c=>by
   obtain⟨j,x,a,rfl,d,rfl,m⟩:=hi i o c;exact Z2p.rn e a m (hh.obj j x d),
  fun i o b c l=>by
   obtain⟨j,x,a,rfl,d,rfl,m⟩:=hi i o c;exact hh.own j x b d ((Zbr e a x b).1 l),
  fun i i' o o' b c g l k=>by
   obtain⟨j,x,a,rfl,d,rfl,m⟩:=hi i o c;obtain⟨j',x',g1,rfl,g3,rfl,g5⟩:=hi i' o' g;rw[hh.inj j j' x x' b d g3 ((Zbr e a x b).1 l) ((Zbr e g1 x' b).1 k)],hh.marks,hh.inv0⟩
theorem Z3X:∀{is:List Nat} {i:Nat} {y:Zd},(Z3k f h is).get i=some y->∃j∈is,∃x,f j=i/\h j=some x/\y=rnO f x
 | [],i,y,hy=>by cases hy
 | j::is,i,y,hy=>by
  simp only[Z3k,Tr.get_set]at hy
  by_cases e:i=f j
  ·rw[if_pos e]at hy;cases hj:h j with
   | none=>rw[hj]at hy;cases hy
   | some x=>rw[hj]at hy;cases hy;exact⟨j,by simp,x,e.symm,hj,rfl⟩
  ·rw[if_neg e]at hy;obtain⟨k,a,x,b⟩:=Z3X hy;exact⟨k,by simp[a],x,b⟩
theorem ZbC:∀{is:List Nat} {j:Nat},j∈is->(∀i∈is,f i=f j->i=j)->(Z3k f h is).get (f j)=(h j).map (rnO f)
 | i::is,j,b,hinj=>by
  simp only[Z3k,Tr.get_set]
  by_cases e:f j=f i
  ·rw[if_pos e];rw[hinj i (by simp) e.symm]
  ·rw[if_neg e];have a:j∈is:=by
    rcases jr.1 b with q|q
    ·subst q;exact absurd rfl e
    ·exact q
   exact ZbC a fun i hi=>hinj i (by simp[hi])
theorem Z6d:∀{is:List Nat} {i:Nat},(∀j∈is,f j≠i)->Zw i (Z3Y f h is)=none
 | [],_,_=>rfl
 | j::is,i,hn=>by
  have a:Zw i (Z3Y f h is)=none:=Z6d fun k b=>hn k (List.mem_cons_of_mem _ b);have:=hn j (by simp)
  simp only[Z3Y,Zw,a,Tr.beq_dec];simp[this]
theorem ZcW:∀{is:List Nat} {j:Nat},j∈is->(∀i∈is,f i=f j->i=j)->Zw (f j) (Z3Y f h is)=some ((h j).map (rnO f))
 | i::is,j,c,hinj=>by
  simp only[Z3Y,Zw]
  by_cases hm:j∈is
  ·rw[ZcW hm fun i hi=>hinj i (by simp[hi])]
  ·have e:j=i:=by
    rcases jr.1 c with q|q
    ·exact q
    ·exact absurd q hm
   subst e;have b:Zw (f j) (Z3Y f h is)=none:=Z6d fun k a q=>by
    have:=hinj k (by simp[a]) q
    subst this;exact hm a
   rw[b];simp
theorem Zcj {h':Nat->Option Zd} {G':Gh} (b:Ext β G β G') (a:∀i t es p u,h i=some (.row t es p u)->∃p',h' i=some (.row t es p' u)) :
  ∀{ds:List DV} {vs:List Value},(∀i∈Zk ds,Z2M E β G' h' i)->Zi β G ds vs->Zi β G' (ds.map fun d=>(frz h d).getD d) vs
 | [],vs,_,hr=>by rw[Zm]at hr;exact Zm.2 hr
 | d::ds,vs,hs,hr=>by
  obtain⟨v,vs',rfl,c,e⟩:=Zb.1 hr;refine Zb.2 ⟨v,vs',rfl,?_,Zcj b a (fun i hi=>hs i (by simp[Zk,hi])) e⟩
  show Rep β G' ((frz h d).getD d) v;cases hq:frz h d with
  | none=>exact Rep.mono b _ _ c
  | some d'=>exact(Z5g b a hq (fun i hi=>hs i (by simp[Zk,hi])) c).1
theorem Zhq {D:DD} {s:Tr Zd} {k:Nat} {β0:Bi} {G1:Gh} {r:DV} {o:Tr Zd} {n:Nat} {e:Ending} {w':World} (hfr:∀id,k<=id->ZR β0 s.get id) (hp:Z1o E w0 G0 D β0 G1 s k r o n e w')
  {y:DV×Tr Zd×Nat} (hy:Z7P k (r,o,n)=some y):Z1o E w0 G0 D β0 G1 s k y.1 y.2.1 y.2.2 e w':=by
 obtain⟨v,β',G',rfl,hle,w,hhr,hf',hv⟩:=hp;unfold Z7P at hy;simp only at hy;generalize hR:geN k (Z1h o.get 4096 (rid r++upN 0 k) [])=R at hy;obtain⟨hb,hy⟩:=Z3 hy;cases hy;simp only[jn]at hb;obtain⟨hu,hr1,hr2⟩:=hb;have hge:∀i∈R,k<=i:=fun i hi=>by rw[<-hR]at hi;exact(Zbj.1 hi).2
 have l:∀j,(Nat.blt j k||Z3D j R)=true↔j<k\/j∈R:=fun j=>by
  simp only[Bool.or_eq_true,Tr.blt_dec,jl,Z3e]
 have m:∀j,j<k->Z2s k R j=j:=fun j c=>by simp[Z2s,Tr.blt_dec,c]
 have p:∀j,j∈R->Z2s k R j=k+Z1Q j R:=fun j c=>by
  have:=hge j c;simp[Z2s,Tr.blt_dec,show ¬j<k by omega]
 have a0:∀i j,(Nat.blt i k||Z3D i R)=true->(Nat.blt j k||Z3D j R)=true->Z2s k R i=Z2s k R j->i=j:=fun i j hi c he=>by
  rcases(l i).1 hi with hi|hi<;>rcases(l j).1 c with c|c
  ·rw[m i hi,m j c]at he;exact he
  ·rw[m i hi,p j c]at he;omega
  ·rw[p i hi,m j c]at he;omega
  ·rw[p i hi,p j c]at he;have:Z1Q i R=Z1Q j R:=by omega
   rw[<-Z4g (d:=0) hi,this,Z4g c]
 have hin:∀j,j∈upN 0 k++R↔j<k\/j∈R:=fun j=>by
  rw[List.mem_append,Z5n];simp
 have t:∀i y,(Z3k (Z2s k R) o.get (upN 0 k++R)).get i=some y->∃j x,(Nat.blt j k||Z3D j R)=true/\Z2s k R j=i/\o.get j=some x/\y=rnO (Z2s k R) x/\okO (fun j=>Nat.blt j k||Z3D j R) x=true:=fun i y hy=>by
  obtain⟨j,c,x,h1,h2,h3⟩:=Z3X hy;exact⟨j,x,(l j).2 ((hin j).1 c),h1,h2,h3,Zbn hr2 j c x h2⟩
 let β3:Bi:=⟨fun i=>if i<k then β'.blk i else if i<k+Z2t R then β'.blk (Z61 0 (i-k) R)else none,fun i u=>if i<k then β'.hdr i u else if i<k+Z2t R then β'.hdr (Z61 0 (i-k) R) u else none⟩
 have z:Z7I (fun j=>Nat.blt j k||Z3D j R) (Z2s k R) β' β3:=fun j c=>by
  rcases(l j).1 c with c|c
  ·rw[m j c];simp only[β3,if_pos c];exact⟨trivial,fun _=>trivial⟩
  ·rw[p j c];have:=Z5i c;simp only[β3,show ¬k+Z1Q j R<k by omega,if_false,show k+Z1Q j R<k+Z2t R by omega,if_true,show k+Z1Q j R-k=Z1Q j R by omega,Z4g c]
   exact⟨trivial,fun _=>trivial⟩
 refine⟨v,β3,G',rfl,Nat.le_add_right _ _,⟨⟨w.ext.g,fun id b a=>?_,fun id u x a=>?_⟩,fun id a hn=>?_⟩,HR.rn z a0 hhr t,fun id a=>⟨?_,fun u=>?_,?_⟩,Rep.rn z r v hr1 hv⟩
 ·by_cases q:id<k
  ·simp only[β3,if_pos q];exact w.ext.blk id b a
  ·rw[(hfr id (by omega)).blk]at a;cases a
 ·by_cases q:id<k
  ·simp only[β3,if_pos q];exact w.ext.hdr id u x a
  ·rw[(hfr id (by omega)).hdr]at a;cases a
 ·obtain⟨k1,k2,k3⟩:=w.keep id a hn;refine⟨?_,?_,fun u=>?_⟩
  ·have:=ZbC (f:=Z2s k R) (h:=o.get) (is:=upN 0 k++R) (j:=id) ((hin id).2 (.inl a)) (fun i hi he=>a0 i id ((l i).2 ((hin i).1 hi)) ((l id).2 (.inl a)) he);rw[m id a,k1]at this;exact this
  ·simp only[β3,if_pos a];exact k2
  ·simp only[β3,if_pos a];exact k3 u
 ·have q:k+Z2t R<=id:=a;simp only[β3,show ¬id<k by omega,if_false,show ¬id<k+Z2t R by omega]
 ·have q:k+Z2t R<=id:=a;simp only[β3,show ¬id<k by omega,if_false,show ¬id<k+Z2t R by omega]
 ·have q:k+Z2t R<=id:=a;cases hq:(Z3k (Z2s k R) o.get (upN 0 k++R)).get id with
  | none=>rfl
  | some y =>
   obtain⟨j,x,h1,h2,_⟩:=t id y hq;rcases(l j).1 h1 with c|c
   ·rw[m j c]at h2;omega
   ·rw[p j c]at h2;have:=Z5i c;omega
theorem Zfj {callH:Yi} (hH:YX P E callH):YX P E (Z48 E callH):=fun g as o nx r o' nx' s=>by
 unfold Z48 at s;obtain⟨F,hF,s⟩:=Z0 s;cases hc:F.can with
 | false=>rw[hc]at s;exact hH g as o nx r o' nx' s
 | true =>
  rw[hc]at s;simp only[jB]at s;generalize hfs:(as.map fun d=>(frz o.get d).getD d)=fs at s;generalize ho1:Ya o (Zu o.get (Zk as))=o1 at s;generalize hR:Z1h o1.get 4096 (Z1u fs) []=R at s;generalize hk:Z2t R=k at s;obtain⟨hb,s⟩:=Z3 s;obtain⟨⟨r1,o2,n2⟩,hcall,s⟩:=Z0 s;obtain⟨⟨r3,o3,n3⟩,hexit,s⟩:=Z0 s;cases s;simp only[jn]at hb;obtain⟨hu,hb1,hb2⟩:=hb;obtain⟨hent,hcs⟩:=hH _ _ _ _ _ _ _ hcall;refine⟨hent,fun w0 G0 D w β G vs hh hfr hrep=>?_⟩
  obtain⟨G1,hx1,a7,hs1⟩:=Z1L hh (Zk as);have hrep1:Zi β G1 fs vs.toList:=by rw[<-hfs];exact Zcj hx1 (Z2a _ _) hs1 hrep
  have a6:∀i,o1.get i=ZJ o.get (Zu o.get (Zk as)) i:=fun i=>by rw[<-ho1];exact Z2B _ _ _
  have a7:HR E w0 G0 D w β G1 o1.get:=a7.eq a6;have hk1:∀i,o.get i=none->o1.get i=none:=fun i hi=>by
   rw[a6];unfold ZJ;cases z:Zw i (Zu o.get (Zk as))with
   | none=>exact hi
   | some y =>
    obtain⟨t',es',p',u',k1,_⟩:=Ye o.get _ i y z;rw[hi]at k1;cases k1
  have a1:∀id,nx<=id->ZR β o1.get id:=fun id a=>⟨(hfr id a).blk,(hfr id a).hdr,hk1 id (hfr id a).h⟩;have hRs:∀i∈R,∃x,o1.get i=some x:=fun i hi=>Z4m _ _ _ _ _ (by rw[<-hR]at hi;exact hi) (fun _ z=>by cases z)
  have hRlt:∀i∈R,i<nx:=fun i hi=>by
   obtain⟨x,hx⟩:=hRs i hi;rcases Nat.lt_or_ge i nx with q|q
   ·exact q
   ·rw[(a1 i q).h]at hx;cases hx
  have hs:∀i x,(Z2z o1.get R).get i=some x->o1.get i=some x:=fun i x hi=>by
   rw[Z2b]at hi;split at hi
   ·exact hi
   ·cases hi
  have hsR:∀i x,(Z2z o1.get R).get i=some x->i∈R:=fun i x hi=>by
   rw[Z2b]at hi;split at hi
   ·assumption
   ·cases hi
  have hcut:=ZdC (D:=D) a7 hs
  have a3:∀j,j<k->ZM k nx R j=Z61 0 j R:=fun j c=>by simp[ZM,Tr.blt_dec,c]
  have n:∀j,k<=j->ZM k nx R j=nx+(j-k):=fun j c=>by simp[ZM,Tr.blt_dec,show ¬j<k by omega]
  have a9:∀i,i∈R->ZM k nx R (Z1Q i R)=i:=fun i hi=>by
   rw[a3 _ (by rw[<-hk];exact Z5i hi),Z4g hi]
  let β0:Bi:=⟨fun j=>β.blk (ZM k nx R j),fun j u=>β.hdr (ZM k nx R j) u⟩
  have a2:Z7I (fun i=>Z3D i R) (Z4z R) β β0:=fun i hi=>by
   have hi:=Z3e.1 hi;show β.blk (ZM k nx R (Z1Q i R))=_/\∀u,β.hdr (ZM k nx R (Z1Q i R)) u=_;rw[a9 i hi];exact⟨rfl,fun _=>rfl⟩
  have hinj0:∀i j,Z3D i R=true->Z3D j R=true->Z4z R i=Z4z R j->i=j:=fun i j hi c p=>by
   have hi:=Z3e.1 hi;have c:=Z3e.1 c;have p:Z1Q i R=Z1Q j R:=p;rw[<-Z4g (d:=0) hi,p,Z4g c]
  have hh0:HR E w0 G0 (Z76 D w β G1 o1.get (Z2z o1.get R).get) w β0 G1 (Z3k (Z4z R) o1.get R).get:=HR.rn a2 hinj0 hcut fun i y hy=>by
   obtain⟨j,c,x,l,h2,h3⟩:=Z3X hy;exact⟨j,x,Z3e.2 c,l,by rw[Z2b,if_pos c];exact h2,h3,Zbn hb2 j c x h2⟩
  have hfr0:∀j,k<=j->ZR β0 (Z3k (Z4z R) o1.get R).get j:=fun j c=>by
   have z:=hfr (nx+(j-k)) (by omega)
   refine⟨?_,fun u=>?_,?_⟩
   ·show β.blk (ZM k nx R j)=none;rw[n j c];exact z.blk
   ·show β.hdr (ZM k nx R j) u=none;rw[n j c];exact z.hdr u
   ·cases z:(Z3k (Z4z R) o1.get R).get j with
    | none=>rfl
    | some y =>
     obtain⟨i,hi,x,l,_⟩:=Z3X z;have:Z1Q i R<Z2t R:=Z5i hi;have l:Z1Q i R=j:=l;omega
  refine Calls.mono (hcs w0 G0 _ w β0 G1 vs hh0 hfr0 (Zi.rn a2 _ _ hb1 hrep1)) fun e w' p=>?_;obtain⟨v,β3,G',rfl,hle,a8,hhr,hf3,hv⟩:=Zhq hfr0 p hexit;simp only at hle a8 hhr hf3 hv
  let β4:Bi:=⟨fun i=>if i∈R then β3.blk (Z1Q i R)else if nx<=i then β3.blk (i-nx+k)else β.blk i,fun i u=>if i∈R then β3.hdr (Z1Q i R) u else if nx<=i then β3.hdr (i-nx+k) u else β.hdr i u⟩
  have m:∀j,j<k->ZM k nx R j∈R:=fun j c=>by rw[a3 j c];exact Zbl (by omega)
  have a5:∀j,k<=j->ZM k nx R j∉R:=fun j c t=>by
   rw[n j c]at t;have:=hRlt _ t;omega
  have a4:Z7I (fun _=>true) (ZM k nx R) β3 β4:=fun j _=>by
   by_cases q:j<k
   ·have t:=m j q;simp only[β4,if_pos t];rw[a3 j q,Z8j hu (by omega)]
    exact⟨rfl,fun _=>rfl⟩
   ·have t:=a5 j (by omega)
    simp only[β4,if_neg t];rw[n j (by omega),if_pos (by omega),show nx+(j-k)-nx+k=j by omega]
    refine⟨rfl,fun u=>?_⟩;rw[if_pos (by omega)]
  have a0:∀i j,ZM k nx R i=ZM k nx R j->i=j:=fun i j p=>by
   by_cases qi:i<k<;>by_cases qj:j<k
   ·have l:=Z8j (d:=0) hu (by omega:i<Z2t R)
    rw[<-a3 i qi,p,a3 j qj,Z8j hu (by omega)]at l
    exact l.symm
   ·have:=m i qi;rw[p]at this;exact absurd this (a5 j (by omega))
   ·have:=m j qj;rw[<-p]at this;exact absurd this (a5 i (by omega))
   ·rw[n i (by omega),n j (by omega)]at p
    omega
  have f:∀i y,(Z3k (ZM k nx R) o3.get (upN 0 n3)).get i=some y->∃j x,j<n3/\ZM k nx R j=i/\o3.get j=some x/\y=rnO (ZM k nx R) x:=fun i y hy=>by
   obtain⟨j,c,x,l,h2,h3⟩:=Z3X hy;exact⟨j,x,by rw[Z5n]at c;omega,l,h2,h3⟩
  have hat4:∀j,j<n3->(Z3k (ZM k nx R) o3.get (upN 0 n3)).get (ZM k nx R j)=(o3.get j).map (rnO (ZM k nx R)):=fun j c =>
   ZbC (Z5n.2 ⟨by omega,by omega⟩) fun i _ p=>a0 i j p
  have hpost:Z1o E w0 G0 (Z76 D w β G1 o1.get (Z2z o1.get R).get) β G1 (Z2z o1.get R) nx (rn (ZM k nx R) r3) (Z3k (ZM k nx R) o3.get (upN 0 n3)) (nx+(n3-k)) (.returned v) w':=by
   refine⟨v,β4,G',rfl,Nat.le_add_right _ _,⟨⟨a8.ext.g,fun id b a=>?_,fun id u x a=>?_⟩,fun id a hn=>?_⟩,?_,fun id a=>?_,Rep.rn a4 _ _ (Z6E _) hv⟩
   ·simp only[β4]
    by_cases q:id∈R
    ·rw[if_pos q];refine a8.ext.blk _ b ?_;show β.blk (ZM k nx R (Z1Q id R))=some b;rw[a9 id q];exact a
    ·rw[if_neg q]
     by_cases q2:nx<=id
     ·rw[(hfr id q2).blk]at a;cases a
     ·rw[if_neg q2];exact a
   ·simp only[β4]
    by_cases q:id∈R
    ·rw[if_pos q];refine a8.ext.hdr _ u x ?_;show β.hdr (ZM k nx R (Z1Q id R)) u=some x;rw[a9 id q];exact a
    ·rw[if_neg q]
     by_cases q2:nx<=id
     ·rw[(hfr id q2).hdr]at a;cases a
     ·rw[if_neg q2];exact a
   ·by_cases q:id∈R
    ·rw[Z2b,if_pos q]at hn;obtain⟨x,hx⟩:=hRs id q;rw[hn]at hx;cases hx
    ·refine⟨?_,?_,fun u=>?_⟩
     ·cases z:(Z3k (ZM k nx R) o3.get (upN 0 n3)).get id with
      | none=>rfl
      | some y =>
       obtain⟨j,x,_,l,_⟩:=f id y z
       by_cases qj:j<k
       ·exact absurd (l▸m j qj) q
       ·rw[n j (by omega)]at l;omega
     ·simp only[β4,if_neg q,show ¬nx<=id by omega,if_false]
     ·simp only[β4,if_neg q,show ¬nx<=id by omega,if_false]
   ·refine HR.rn a4 (fun i j _ _ p=>a0 i j p) hhr fun i y hy=>?_;obtain⟨j,x,_,l,h2,h3⟩:=f i y hy;exact⟨j,x,rfl,l,h2,h3,ZgJ x⟩
   ·have t:id∉R:=fun t=>by have:=hRlt id t;omega
    have hf:=hf3 (id-nx+k) (by omega)
    refine⟨?_,fun u=>?_,?_⟩
    ·simp only[β4,if_neg t,show nx<=id by omega,if_true];exact hf.blk
    ·simp only[β4,if_neg t,show nx<=id by omega,if_true];exact hf.hdr u
    ·cases z:(Z3k (ZM k nx R) o3.get (upN 0 n3)).get id with
     | none=>rfl
     | some y =>
      obtain⟨j,x,h0,l,_⟩:=f id y z
      by_cases qj:j<k
      ·exact absurd (l▸m j qj) t
      ·rw[n j (by omega)]at l;omega
  obtain⟨v2,β2,G2,e2,hle2,hx2,hkp,hh2,hf2,hv2⟩:=ZaW a7 hs hsR a1 hpost;have heq:∀i,(Ya o1 (Z3Y (ZM k nx R) o3.get (upN 0 n3))).get i=ZJ o1.get (Z4L (Z3k (ZM k nx R) o3.get (upN 0 n3)) R nx) i:=fun i=>by
   rw[Z2B,Z6Z]
   by_cases hi:∃j,j<n3/\ZM k nx R j=i
   ·obtain⟨j,c,rfl⟩:=hi;have l:ZJ o1.get (Z3Y (ZM k nx R) o3.get (upN 0 n3)) (ZM k nx R j)=(o3.get j).map (rnO (ZM k nx R)):=by
     unfold ZJ;rw[ZcW (Z5n.2 ⟨by omega,by omega⟩) fun i _ p=>a0 i j p]
    rw[l,<-hat4 j c];split
    ·rfl
    ·rename_i t;have hm1:ZM k nx R j∉R:=fun q=>t (List.mem_append_left _ q);have hkj:¬j<k:=fun q=>hm1 (m j q);have hge:nx<=ZM k nx R j:=by rw[n j (by omega)];omega
     rw[(a1 _ hge).h];cases z:(Z3k (ZM k nx R) o3.get (upN 0 n3)).get (ZM k nx R j)with
     | none=>rfl
     | some y =>
      refine absurd ?_ t;refine List.mem_append_right _ (List.mem_filter.2 ⟨List.mem_map.2 ⟨(1*ZM k nx R j+0,y),Tr.ents_get _ 1 0 _ y z,by simp⟩,Nat.ble_eq_true_of_le hge⟩)
   ·have l:ZJ o1.get (Z3Y (ZM k nx R) o3.get (upN 0 n3)) i=o1.get i:=by
     unfold ZJ;rw[Z6d fun j c p=>hi ⟨j,by rw[Z5n]at c;omega,p⟩]
    have h2:(Z3k (ZM k nx R) o3.get (upN 0 n3)).get i=none:=by
     cases z:(Z3k (ZM k nx R) o3.get (upN 0 n3)).get i with
     | none=>rfl
     | some y =>
      obtain⟨j,x,h0,l,_⟩:=f i y z;exact absurd ⟨j,h0,l⟩ hi
    rw[l,h2];split
    ·rename_i t;rcases Zgd t with q|q
     ·refine absurd ⟨Z1Q i R,?_,a9 i q⟩ hi;have:=Z5i q;omega
     ·exact(a1 i q).h
    ·rfl
  refine⟨v2,β2,G2,e2,hle2,⟨hx1.trans hx2,fun id a hn=>?_⟩,hh2.eq heq,fun id a=>?_,hv2⟩
  ·obtain⟨k1,k2,k3⟩:=hkp id a (hk1 id hn);exact⟨by rw[heq];exact k1,k2,k3⟩
  ·have:=hf2 id a;exact⟨this.blk,this.hdr,by rw[heq];exact this.h⟩
end
end Go.Ab
namespace Go.Ab
def Le (h h':Nat->Option Zd) (d:DV):Prop:=∀id,id∈ZA d->∀o,h id=some o->h' id=some o
section
variable {E:Env} {ρ ρ':Nat->Option DV} {h h':Nat->Option Zd} {nid:Nat}
def OkX (ρ ρ':Nat->Option DV) (h h':Nat->Option Zd) (x:Operand):Prop:=∀d,Y0 ρ x=some d->Y0 ρ' x=some d/\Le h h' d
mutual
theorem Z9r:∀(d:DV) (i:Nat),i∈Zj d->i∈ZA d
 | .rs _ _,_,h=>by simpa[Zj,ZA]using h
 | .rv _ _ _ _ _,_,h=>by simpa[Zj,ZA]using h
 | .slen _,_,h=>by simp[Zj]at h
 | .agg cs,i,h=>by simp only[Zj,ZA]at h⊢;exact Z35 cs i h
 | .tup cs,i,h=>by simp only[Zj,ZA]at h⊢;exact Z35 cs i h
 | .iface _ v,i,h=>by simp only[Zj,ZA]at h⊢;exact Z9r v i h
 | .bool _,_,h=>by simp[Zj]at h
 | .int _ _,_,h=>by simp[Zj]at h
 | .str _,_,h=>by simp[Zj]at h
 | .nilp,_,h=>by simp[Zj]at h
 | .ptr _ _,_,h=>by simp[Zj]at h
 | .rptr _ _ _ _ _,_,h=>by simp[Zj]at h
 | .pub _,_,h=>by simp[Zj]at h
 | .nils,_,h=>by simp[Zj]at h
 | .sl _,_,h=>by simp[Zj]at h
 | .fn _ _ _,_,h=>by simp[Zj]at h
 | .nilfn,_,h=>by simp[Zj]at h
 | .map _,_,h=>by simp[Zj]at h
 | .nilmap,_,h=>by simp[Zj]at h
 | .nilif,_,h=>by simp[Zj]at h
 | .iter _,_,h=>by simp[Zj]at h
 | .yld _,_,h=>by simp[Zj]at h
theorem Z35:∀(ds:List DV) (i:Nat),i∈Zk ds->i∈ZI ds
 | [],_,h=>by simp[Zk]at h
 | d::ds,i,h=>by
  simp only[Zk,ZI,List.mem_append]at h⊢;rcases h with h|h
  ·exact .inl (Z9r d i h)
  ·exact .inr (Z35 ds i h)
end
mutual
theorem Z7a:∀(d d':DV),frz h d=some d'->∀i∈Zj d,∃o,h i=some o
 | .rs id v,_,hd,i,hi=>by
  simp only[frz]at hd;obtain⟨o,b,_⟩:=Z0 hd;simp only[Zj,List.mem_singleton]at hi;subst hi;exact⟨o,b⟩
 | .rv _ _ _ _ _,_,hd,_,_=>by simp[frz,Zh]at hd
 | .slen _,_,hd,i,hi=>by simp[Zj]at hi
 | .agg cs,_,hd,i,hi=>by
  simp only[frz]at hd;obtain⟨cs',a,_⟩:=Z0 hd;exact Z4e cs cs' a i (by simpa[Zj]using hi)
 | .tup cs,_,hd,i,hi=>by
  simp only[frz]at hd;obtain⟨cs',a,_⟩:=Z0 hd;exact Z4e cs cs' a i (by simpa[Zj]using hi)
 | .iface _ v,_,hd,i,hi=>by
  simp only[frz]at hd;obtain⟨v',a,_⟩:=Z0 hd;exact Z7a v v' a i (by simpa[Zj]using hi)
 | .bool _,_,_,_,h=>by simp[Zj]at h
 | .int _ _,_,_,_,h=>by simp[Zj]at h
 | .str _,_,_,_,h=>by simp[Zj]at h
 | .nilp,_,_,_,h=>by simp[Zj]at h
 | .ptr _ _,_,_,_,h=>by simp[Zj]at h
 | .rptr _ _ _ _ _,_,_,_,h=>by simp[Zj]at h
 | .pub _,_,_,_,h=>by simp[Zj]at h
 | .nils,_,_,_,h=>by simp[Zj]at h
 | .sl _,_,_,_,h=>by simp[Zj]at h
 | .fn _ _ _,_,_,_,h=>by simp[Zj]at h
 | .nilfn,_,_,_,h=>by simp[Zj]at h
 | .map _,_,_,_,h=>by simp[Zj]at h
 | .nilmap,_,_,_,h=>by simp[Zj]at h
 | .nilif,_,_,_,h=>by simp[Zj]at h
 | .iter _,_,_,_,h=>by simp[Zj]at h
 | .yld _,_,_,_,h=>by simp[Zj]at h
theorem Z4e:∀(ds ds':List DV),Z1N h ds=some ds'->∀i∈Zk ds,∃o,h i=some o
 | [],_,_,i,hi=>by simp[Zk]at hi
 | d::ds,_,a,i,hi=>by
  simp only[Z1N]at a;obtain⟨c,b,a⟩:=Z0 a;obtain⟨cs,e,_⟩:=Z0 a;simp only[Zk,List.mem_append]at hi;rcases hi with hi|hi
  ·exact Z7a d c b i hi
  ·exact Z4e ds cs e i hi
end
mutual
theorem Z8X:∀(d d':DV),Le h h' d->frz h d=some d'->frz h' d=some d'
 | .rs id v,d',hl,hd=>by
  simp only[frz]at hd⊢;obtain⟨o,e,b⟩:=Z0 hd;rw[hl id (by simp[ZA]) o e];exact b
 | .rv _ _ _ _ _,_,_,hd=>by simpa only[frz]using hd
 | .slen _,_,_,hd=>by simpa only[frz]using hd
 | .agg cs,d',hl,hd=>by
  simp only[frz]at hd⊢;obtain⟨cs',c,b⟩:=Z0 hd;rw[Z5h cs cs' (fun id a=>hl id (by simpa[ZA]using a)) c];exact b
 | .tup cs,d',hl,hd=>by
  simp only[frz]at hd⊢;obtain⟨cs',c,b⟩:=Z0 hd;rw[Z5h cs cs' (fun id a=>hl id (by simpa[ZA]using a)) c];exact b
 | .iface _ v,d',hl,hd=>by
  simp only[frz]at hd⊢;obtain⟨v',c,b⟩:=Z0 hd;rw[Z8X v v' (fun id a=>hl id (by simpa[ZA]using a)) c];exact b
 | .bool _,_,_,hd=>by simpa only[frz]using hd
 | .int _ _,_,_,hd=>by simpa only[frz]using hd
 | .str _,_,_,hd=>by simpa only[frz]using hd
 | .nilp,_,_,hd=>by simpa only[frz]using hd
 | .ptr _ _,_,_,hd=>by simpa only[frz]using hd
 | .rptr _ _ _ _ _,_,_,hd=>by simpa only[frz]using hd
 | .pub _,_,_,hd=>by simpa only[frz]using hd
 | .nils,_,_,hd=>by simpa only[frz]using hd
 | .sl _,_,_,hd=>by simpa only[frz]using hd
 | .fn _ _ _,_,_,hd=>by simpa only[frz]using hd
 | .nilfn,_,_,hd=>by simpa only[frz]using hd
 | .map _,_,_,hd=>by simpa only[frz]using hd
 | .nilmap,_,_,hd=>by simpa only[frz]using hd
 | .nilif,_,_,hd=>by simpa only[frz]using hd
 | .iter _,_,_,hd=>by simpa only[frz]using hd
 | .yld _,_,_,hd=>by simpa only[frz]using hd
theorem Z5h:∀(ds ds':List DV),(∀id,id∈ZI ds->∀o,h id=some o->h' id=some o)->Z1N h ds=some ds'->Z1N h' ds=some ds'
 | [],_,_,hd=>hd
 | d::ds,d',hl,hd=>by
  simp only[Z1N]at hd⊢;obtain⟨c,b,e⟩:=Z0 hd;obtain⟨cs,f,g⟩:=Z0 e;rw[Z8X d c (fun id a=>hl id (by simp[ZI,a])) b]
  simp only[jm];rw[Z5h ds cs (fun id a=>hl id (by simp[ZI,a])) f]
  exact g
end
theorem ZdI {d d':DV} (a:Z8W E h d=some d'):∀i∈Zj d,∃o,h i=some o:=by
 unfold Z8W at a;split at a
 ·obtain⟨o,b,_⟩:=Z0 a;intro i hi;simp only[Zj,List.mem_singleton]at hi;subst hi;exact⟨o,b⟩
 ·exact Z7a _ _ a
theorem Z7S:∀(ds ds':List DV),Z3M E h ds=some ds'->∀i∈Zk ds,∃o,h i=some o
 | [],_,_,i,hi=>by simp[Zk]at hi
 | d::ds,_,a,i,hi=>by
  simp only[Z3M]at a;obtain⟨c,b,a⟩:=Z0 a;obtain⟨cs,e,_⟩:=Z0 a;simp only[Zk,List.mem_append]at hi;rcases hi with hi|hi
  ·exact ZdI b i hi
  ·exact Z7S ds cs e i hi
theorem Zfu {d d':DV} (b:Le h h' d) (a:Z8W E h d=some d'):Z8W E h' d=some d':=by
 unfold Z8W at a⊢;split at a
 ·obtain⟨o,e,c⟩:=Z0 a;rw[b _ (by simp[ZA]) o e];exact c
 ·exact Z8X _ _ b a
theorem Z8Y:∀(ds ds':List DV),(∀id,id∈ZI ds->∀o,h id=some o->h' id=some o)->Z3M E h ds=some ds'->Z3M E h' ds=some ds'
 | [],_,_,a=>a
 | d::ds,d',hl,a=>by
  simp only[Z3M]at a⊢;obtain⟨c,e,a⟩:=Z0 a;obtain⟨cs,f,a⟩:=Z0 a;rw[Zfu (fun id b=>hl id (by simp[ZI,b])) e,Z8Y ds cs (fun id b=>hl id (by simp[ZI,b])) f];exact a
theorem Z59:∀(is:List Nat),(∀i∈is,h i=h' i)->Zu h is=Zu h' is
 | [],_=>rfl
 | i::is,hs=>by
  simp only[Zu];rw[hs i (by simp),Z59 is (fun j a=>hs j (by simp[a]))]
theorem Z2X:∀(is:List Nat) (u:Nat×Option Zd),u∈Zu h is->u.1∈is
 | [],u,a=>by simp[Zu]at a
 | i::is,u,a=>by
  simp only[Zu,List.mem_append]at a;rcases a with a|a
  ·split at a
   ·rename_i p _ _;cases hp:Nat.beq p 1 with
    | true=>rw[hp]at a;cases a
    | false=>rw[hp]at a;simp only[jA,List.mem_singleton]at a;subst a;simp
   ·cases a
  ·exact List.mem_cons_of_mem _ (Z2X is u a)
theorem Z7A {ds:List DV} (b:∀id,id∈ZI ds->∀o,h id=some o->h' id=some o) (c:∀i∈Zk ds,∃o,h i=some o):Zu h' (Zk ds)=Zu h (Zk ds) :=
 (Z59 _ fun i hi=>by
  obtain⟨o,a⟩:=c i hi;rw[a,b i (Z35 ds i hi) o a]).symm
theorem Zcq {d:DV} {es:List (List DV)} (c:Le h h' d) (a:Y4 h d=some es):Z39 h' d=Z39 h d:=by
 cases d with
 | rs id v =>
  simp only[Y4]at a;obtain⟨o,b,_⟩:=Z0 a;simp only[Z39,b,c id (by simp[ZA]) o b]
 | _=>rfl
theorem Z5V {d:DV} {es:List (List DV)} (f:Le h h' d) (a:Y4 h d=some es):Y4 h' d=some es:=by
 cases d with
 | rs id v =>
  simp only[Y4]at a⊢;obtain⟨o,c,b⟩:=Z0 a;rw[f id (by simp[ZA]) o c];exact b
 | rv id v i n e =>
  simp only[Y4]at a⊢;obtain⟨o,c,b⟩:=Z0 a;rw[f id (by simp[ZA]) o c];exact b
 | nils=>exact a
 | sl es=>exact a
 | _=>cases a
theorem Zc7 {d:DV} {es:List (List DV)} (a:Y4 h d=some es):∀i∈Zk [d],∃o,h i=some o:=fun i hi=>by
 cases d with
 | rs id v =>
  simp only[Y4]at a;obtain⟨o,b,_⟩:=Z0 a;simp[Zk,Zj]at hi;subst hi;exact⟨o,b⟩
 | rv id v i n e =>
  simp only[Y4]at a;obtain⟨o,b,_⟩:=Z0 a;simp[Zk,Zj]at hi;subst hi;exact⟨o,b⟩
 | nils=>simp[Zk,Zj]at hi
 | sl es=>simp[Zk,Zj]at hi
 | _=>cases a
theorem ZfB {ti:TI} {a d:DV} (g:Le h h' a) (b:Z3d ti h a=some d):Z3d ti h' a=some d:=by
 cases a with
 | ptr id off =>
  simp only[Z3d]at b⊢;obtain⟨o,f,c⟩:=Z0 b;rw[g id (by simp[ZA]) o f];exact c
 | rptr id v i e off =>
  simp only[Z3d]at b⊢;obtain⟨o,f,c⟩:=Z0 b;rw[g id (by simp[ZA]) o f];exact c
 | pub cs=>exact b
 | _=>cases b
theorem Zeh {ti:TI} {a v:DV} {us:List (Nat×Option Zd)} (j:Le h h' a) (c:Z5a ti h a v=some us):Z5a ti h' a v=some us/\∀u∈us,u.1∈ZA a:=by
 unfold Z5a at c⊢;obtain⟨k,c⟩:=Z3 c;rw[k];cases a with
 | ptr id off =>
  simp only[jB]at c⊢;obtain⟨o,g,b⟩:=Z0 c;rw[j id (by simp[ZA]) o g]
  refine⟨b,?_⟩;split at b
  ·obtain⟨_,f⟩:=Z3 b;cases f;intro u d;simp only[List.mem_singleton]at d;subst d;simp[ZA]
  ·cases b
 | rptr id v i e off =>
  simp only[jB]at c⊢;obtain⟨o,g,b⟩:=Z0 c;rw[j id (by simp[ZA]) o g]
  refine⟨b,?_⟩;split at b
  ·obtain⟨_,_,b⟩:=Z0 b;obtain⟨_,f⟩:=Z3 b;cases f;intro u d;simp only[List.mem_singleton]at d;subst d;simp[ZA]
  ·cases b
 | _=>cases c
theorem Zgv {k:TK} {d r:DV} (c:Le h h' d) (a:Z5v k h d=some r):Z5v k h' d=some r:=by
 unfold Z5v at a⊢;split at a
 ·exact a
 ·exact a
 ·rename_i id;obtain⟨o,f,b⟩:=Z0 a;rw[c id (by simp[ZA]) o f];exact b
 ·exact a
 ·obtain⟨es,e,b⟩:=Z0 a;rw[Z5V c e];exact b
 ·exact a
 ·cases a
theorem Zdu {t t':TypeId} {x:DV} {xs:List (List DV)} (b:Le h h' x) (a:Z8w E h t t' x=some xs):Z8w E h' t t' x=some xs:=by
 unfold Z8w at a⊢;cases hq:Nat.beq t t' with
 | true=>rw[hq]at a;exact Z5V b a
 | false=>rw[hq]at a;exact a
theorem ZbW {t t':TypeId} {s x:DV} {r:Out} (k:Le h h' s) (m:Le h h' x) (a:Z3t E nid h t t' s x=some r):Z3t E nid h' t t' s x=some r/\∀u∈r.upd,u.1=nid\/u.1∈ZA s:=by
 unfold Z3t at a⊢;obtain⟨ti,e,a⟩:=Z0 a;rw[e];simp only[jm];split at a
 ·obtain⟨ei,f,a⟩:=Z0 a;obtain⟨xs,g,a⟩:=Z0 a;rw[f];simp only[jm,Zdu m g];obtain⟨i,a⟩:=Z3 a;rw[i];simp only[jB];cases s with
  | nils =>
   refine⟨a,?_⟩;cases xs with
   | nil=>cases a;simp
   | cons c cs =>
    obtain⟨_,a⟩:=Z3 a;cases a;intro u b;simp only[List.mem_singleton]at b;subst b;exact .inl rfl
  | rs id v =>
   simp only at a⊢;obtain⟨o,j,d⟩:=Z0 a;rw[k id (by simp[ZA]) o j]
   refine⟨d,?_⟩;split at d
   ·obtain⟨_,l⟩:=Z3 d;cases l;intro u b;simp only[List.mem_singleton]at b;subst b;exact .inr (by simp[ZA])
   ·cases d
  | _=>cases a
 ·cases a
theorem Z1A:∀{xs:List Operand} {ds:List DV},(∀x∈xs,OkX ρ ρ' h h' x)->Z1s ρ xs=some ds->Z1s ρ' xs=some ds/\∀id,id∈ZI ds->(∀o,h id=some o->h' id=some o)/\∃x∈xs,∃d,Y0 ρ x=some d/\id∈ZA d
 | [],ds,_,b=>by simp only[Z1s,jh]at b;subst b;exact⟨rfl,fun id a=>by simp[ZI]at a⟩
 | x::xs,ds,ho,b=>by
  simp only[Z1s]at b⊢;obtain⟨d,c,b⟩:=Z0 b;obtain⟨ds',e,b⟩:=Z0 b;cases b;obtain⟨k1,k2⟩:=ho x (by simp) d c
  obtain⟨k3,k4⟩:=Z1A (fun y hy=>ho y (by simp[hy])) e
  refine⟨by rw[k1,k3];rfl,fun id a=>?_⟩
  simp only[ZI,List.mem_append]at a;rcases a with a|a
  ·exact⟨k2 id a,x,by simp,d,c,a⟩
  ·obtain⟨m1,y,m2,m3⟩:=k4 id a;exact⟨m1,y,by simp[m2],m3⟩
theorem Z62:∀{ps:List (Nat×Operand)} {vs:List (Nat×DV)},(∀x∈ps.map (·.2),OkX ρ ρ' h h' x)->Z27 ρ ps=some vs->Z27 ρ' ps=some vs/\∀id,id∈ZI (vs.map (·.2))->(∀o,h id=some o->h' id=some o)/\∃x∈ps.map (·.2),∃d,Y0 ρ x=some d/\id∈ZA d
 | [],vs,_,b=>by simp only[Z27,jh]at b;subst b;exact⟨rfl,fun id a=>by simp[ZI]at a⟩
 | (i,x)::ps,vs,ho,b=>by
  simp only[Z27]at b⊢;obtain⟨d,c,b⟩:=Z0 b;obtain⟨vs',e,b⟩:=Z0 b;cases b;obtain⟨k1,k2⟩:=ho x (by simp) d c
  obtain⟨k3,k4⟩:=Z62 (fun y hy=>ho y (by simp at hy⊢;exact .inr hy)) e
  refine⟨by rw[k1,k3];rfl,fun id a=>?_⟩
  simp only[jv,ZI,List.mem_append]at a;rcases a with a|a
  ·exact⟨k2 id a,x,by simp,d,c,a⟩
  ·obtain⟨m1,y,m2,m3⟩:=k4 id a;exact⟨m1,y,by simp at m2⊢;exact .inr m2,m3⟩
theorem Zfw (d:DV):ZI (cellsOf d)=ZA d:=by
 cases d<;>simp[cellsOf,ZI,ZA]
theorem Z9q {size:Nat}:∀{ps:List (Nat×DV)} {k:Nat} {es:List (List DV)},(∀id,id∈ZI (ps.map (·.2))->∀o,h id=some o->h' id=some o)->Z5J h size k ps=some es->Z5J h' size k ps=some es/\∀i∈Zk (ps.map (·.2)),∃o,h i=some o
 | [],k,es,_,a=>⟨a,fun i hi=>by simp[Zk]at hi⟩
 | (i,v)::ps,k,es,hl,a=>by
  simp only[Z5J]at a⊢;obtain⟨g,a⟩:=Z3 a;obtain⟨c,f,a⟩:=Z0 a;obtain⟨e,a⟩:=Z3 a;obtain⟨r,l,a⟩:=Z0 a;obtain⟨k1,k2⟩:=Z9q (fun id b=>hl id (by simp[ZI,b])) l
  refine⟨?_,fun j d=>?_⟩
  ·rw[g];simp only[jB];rw[Z5h _ _ (fun id b=>hl id (by rw[Zfw]at b;simp[ZI,b])) f]
   simp only[jm,e,jB];rw[k1];exact a
  ·simp only[jv,Zk,List.mem_append]at d;rcases d with d|d
   ·exact Z4e _ _ f j (by rw[Z6P];exact d)
   ·exact k2 j d
end
end Go.Ab
namespace Go.Ab
section
variable {E:Env} {ρ ρ':Nat->Option DV} {h h':Nat->Option Zd} {nid:Nat}
theorem YF {x:Option DV} {r:Out} (a:x.bind ret=some r):r.upd=[]:=by
 obtain⟨d,_,h⟩:=Z0 a;cases h;rfl
def Ups (ρ:Nat->Option DV) (nid:Nat) (xs:Array Operand) (r:Out):Prop:=∀u∈r.upd,u.1=nid\/∃x∈xs,∃d,Y0 ρ x=some d/\u.1∈ZA d
theorem ZO {xs:Array Operand} {r:Out} (h:r.upd=[]):Ups ρ nid xs r:=fun u a=>by rw[h]at a;cases a
theorem ZfC {c:Call} {r:Out} (m:∀x∈c.operands,OkX ρ ρ' h h' x) (a:ZE E nid ρ h (.call c)=some r):ZE E nid ρ' h' (.call c)=some r/\Ups ρ nid c.operands r:=by
 have b:∀x∈c.args.toList,x∈c.operands:=fun x w=>by simp[Call.operands];exact .inr (by simpa using w)
 simp only[ZE]at a⊢;split at a
 ·split at a
  ·rename_i x t ts f _;obtain⟨ti,p,a⟩:=Z0 a;obtain⟨d,g,a⟩:=Z0 a;have w:=b x (by rw[f];simp)
   obtain⟨k1,k2⟩:=m x w d g;obtain⟨q,i,j⟩:=Z0 a;rw[p];simp only[jm];rw[k1];simp only[jm];rw[Zgv k2 i];exact⟨j,ZO (YF a)⟩
  ·cases a
 ·split at a
  ·rename_i s x t t' f _;obtain⟨ds,g,a⟩:=Z0 a;obtain⟨dx,i,a⟩:=Z0 a;have y:=b s (by rw[f];simp)
   obtain⟨k1,k2⟩:=m s y ds g;obtain⟨k3,k4⟩:=m x (b x (by rw[f];simp)) dx i
   obtain⟨k5,k6⟩:=ZbW k2 k4 a;simp only[jB,k1,k3,jm];refine⟨k5,fun u hu=>?_⟩;rcases k6 u hu with e|e
   ·exact .inl e
   ·exact .inr ⟨s,y,ds,g,e⟩
  ·cases a
 ·split at a
  ·rename_i x f;obtain⟨d,g,a⟩:=Z0 a;obtain⟨k1,k2⟩:=m x (b x (by rw[f];simp)) d g
   rw[k1];simp only[jm];split at a
   ·exact⟨a,ZO (by obtain rfl:=Z1t a;rfl)⟩
   ·rename_i id v;obtain⟨o,ho,i⟩:=Z0 a;simp only[k2 id (by simp[ZA]) o ho,jm]
    refine⟨i,?_⟩;split at i
    ·obtain⟨_,j⟩:=Z3 i;obtain rfl:=Z1t j;exact ZO rfl
    ·cases i
   ·cases a
  ·cases a
 ·split at a
  ·rename_i x n t t' f _;obtain⟨dx,g,a⟩:=Z0 a;obtain⟨dn,i,a⟩:=Z0 a;obtain⟨ti,p,a⟩:=Z0 a;have z:=b x (by rw[f];simp)
   obtain⟨k1,k2⟩:=m x z dx g;obtain⟨k3,_⟩:=m n (b n (by rw[f];simp)) dn i
   simp only[k1,k3,p,jm];split at a
   ·exact⟨a,ZO (by obtain rfl:=Z1t a;rfl)⟩
   ·rename_i id v k e _ _ _ _;obtain⟨o,ho,j⟩:=Z0 a;simp only[k2 id (by simp[ZA]) o ho,jm]
    refine⟨j,?_⟩;split at j
    ·obtain⟨_,h4⟩:=Z3 j;obtain⟨l,_,h5⟩:=Z0 h4;cases h5;intro u hu;simp only[List.mem_singleton]at hu;subst hu;exact .inr ⟨x,z,_,g,by simp[ZA]⟩
    ·cases j
   ·cases a
  ·cases a
 ·obtain⟨vs,g,a⟩:=Z0 a;obtain⟨k1,_⟩:=Z1A (h:=h) (h':=h') (fun x w=>m x (b x w)) g;rw[k1];refine⟨a,?_⟩;split at a
  ·exact ZO (YF a)
  ·cases a
 ·obtain⟨vs,g,a⟩:=Z0 a;obtain⟨k1,_⟩:=Z1A (h:=h) (h':=h') (fun x w=>m x (b x w)) g;rw[k1];refine⟨a,?_⟩;split at a
  ·exact ZO (YF a)
  ·cases a
 ·cases a
theorem Zam {x:Option Operand} {d:Option DV} (e:∀y,x=some y->OkX ρ ρ' h h' y) (a:Z2h ρ x=some d):Z2h ρ' x=some d:=by
 cases x with
 | none=>exact a
 | some y =>
  simp only[Z2h]at a⊢;obtain⟨v,b,c⟩:=Z0 a;rw[(e y rfl v b).1];exact c
theorem ZhG {op:Op} {r:Out} (hx:∀x∈op.operands,OkX ρ ρ' h h' x) (p:ZE E nid ρ h op=some r):ZE E nid ρ' h' op=some r/\Ups ρ nid op.operands r:=by
 cases op with
 | call c=>exact ZfC hx p
 | move x =>
  simp only[ZE]at p⊢;obtain⟨d,h1,g⟩:=Z0 p;rw[(hx x (by simp[Op.operands]) d h1).1]
  exact⟨g,ZO (YF p)⟩
 | assign x =>
  simp only[ZE]at p⊢;obtain⟨d,h1,g⟩:=Z0 p;rw[(hx x (by simp[Op.operands]) d h1).1]
  exact⟨g,ZO (YF p)⟩
 | pick c x y =>
  simp only[ZE]at p⊢;obtain⟨d,h1,g⟩:=Z0 p;rw[(hx c (by simp[Op.operands]) d h1).1]
  simp only[jm];split at g
  ·rename_i b;cases b
   ·obtain⟨e,a,h4⟩:=Z0 g;simp only[jA];rw[show Y0 ρ' y=some e from(hx y (by simp[Op.operands]) e a).1]
    exact⟨h4,ZO (YF g)⟩
   ·obtain⟨e,a,h4⟩:=Z0 g;simp only[jB];rw[show Y0 ρ' x=some e from(hx x (by simp[Op.operands]) e a).1]
    exact⟨h4,ZO (YF g)⟩
  ·cases g
 | alloc t =>
  simp only[ZE]at p⊢;refine⟨p,?_⟩;obtain⟨ti,_,g⟩:=Z0 p;cases g;intro u hu;simp only[List.mem_singleton]at hu;subst hu;exact .inl rfl
 | box t x =>
  simp only[ZE]at p⊢;obtain⟨d,h1,g⟩:=Z0 p;rw[(hx x (by simp[Op.operands]) d h1).1]
  refine⟨g,?_⟩;obtain⟨_,a⟩:=Z3 g;cases a;intro u hu;simp only[List.mem_singleton]at hu;subst hu;exact .inl rfl
 | build t ps =>
  simp only[ZE]at p⊢;obtain⟨ti,w,h1⟩:=Z0 p;obtain⟨vs,g,a⟩:=Z0 h1;rw[w];simp only[jm];rw[(Z62 (h:=h) (h':=h') (fun x hm=>hx x (by simpa[Op.operands]using hm)) g).1]
  refine⟨a,?_⟩;split at a
  ·obtain⟨cs,_,h5⟩:=Z0 a;cases h5;exact ZO rfl
  ·obtain⟨ei,_,h4⟩:=Z0 a;obtain⟨cs,_,h5⟩:=Z0 h4;cases h5;exact ZO rfl
  ·cases a
 | buildSlice t n ps =>
  simp only[ZE]at p⊢;obtain⟨ti,w,h1⟩:=Z0 p;rw[w];simp only[jm];cases hk:ti.k with
  | slice e =>
   rw[hk]at h1;simp only at h1⊢;obtain⟨ei,hei,g⟩:=Z0 h1;obtain⟨vs,a,h4⟩:=Z0 g;obtain⟨es,h5,h6⟩:=Z0 h4;obtain⟨k1,k2⟩:=Z62 (h:=h) (h':=h') (fun x hm=>hx x (by simpa[Op.operands]using hm)) a
   obtain⟨k3,k4⟩:=Z9q (fun id hid=>(k2 id hid).1) h5;have k5:=Z7A (fun id hid=>(k2 id hid).1) k4;rw[hei];simp only[jm];rw[k1];simp only[jm];rw[k3];simp only[jm];rw[k5];refine⟨h6,?_⟩;obtain⟨_,h7⟩:=Z3 h6;cases h7;intro u hu;rcases jr.1 hu with rfl|hu
   ·exact .inl rfl
   ·obtain⟨_,x,m1,d,m2,m3⟩:=k2 u.1 (Z35 _ _ (Z2X _ u hu));exact .inr ⟨x,by simpa[Op.operands]using m1,d,m2,m3⟩
  | _=>rw[hk]at h1;cases h1
 | load t x =>
  simp only[ZE]at p⊢;obtain⟨ti,w,h1⟩:=Z0 p;obtain⟨d,g,a⟩:=Z0 h1;obtain⟨v,h4,h5⟩:=Z0 a;obtain⟨k1,k2⟩:=hx x (by simp[Op.operands]) d g
  rw[w];simp only[jm];rw[k1];simp only[jm];rw[ZfB k2 h4];exact⟨h5,ZO (YF a)⟩
 | store t x y =>
  simp only[ZE]at p⊢;obtain⟨ti,w,h1⟩:=Z0 p;obtain⟨d,g,a⟩:=Z0 h1;obtain⟨v,h4,h5⟩:=Z0 a;obtain⟨us,h6,h7⟩:=Z0 h5;obtain⟨k1,k2⟩:=hx x (by simp[Op.operands]) d g
  obtain⟨k3,_⟩:=hx y (by simp[Op.operands]) v h4
  obtain⟨k5,k6⟩:=Zeh k2 h6;rw[w];simp only[jm];rw[k1];simp only[jm];rw[k3];simp only[jm];rw[k5];refine⟨h7,?_⟩;cases h7;intro u hu;exact .inr ⟨x,by simp[Op.operands],d,g,k6 u hu⟩
 | nilCheck x =>
  simp only[ZE]at p⊢;obtain⟨d,h1,g⟩:=Z0 p;rw[(hx x (by simp[Op.operands]) d h1).1]
  refine⟨g,?_⟩;split at g<;>first|(cases g;exact ZO rfl)|cases g
 | binOp op t x y z =>
  simp only[ZE]at p⊢;obtain⟨d,h1,g⟩:=Z0 p;obtain⟨e,a,h4⟩:=Z0 g;rw[(hx x (by simp[Op.operands]) d h1).1];simp only[jm];rw[(hx y (by simp[Op.operands]) e a).1]
  exact⟨h4,ZO (YF h4)⟩
 | unOp op t x =>
  simp only[ZE]at p⊢;obtain⟨d,h1,g⟩:=Z0 p;rw[(hx x (by simp[Op.operands]) d h1).1]
  exact⟨g,ZO (YF g)⟩
 | convert s t x =>
  simp only[ZE]at p⊢;obtain⟨si,hsi,h0⟩:=Z0 p;obtain⟨ti,w,h1⟩:=Z0 h0;obtain⟨d,g,a⟩:=Z0 h1;rw[hsi];simp only[jm];rw[w];simp only[jm];rw[(hx x (by simp[Op.operands]) d g).1]
  refine⟨a,?_⟩;split at a<;>first|(cases a;exact ZO rfl)|cases a
 | makeInterface t x =>
  simp only[ZE]at p⊢;obtain⟨ti,w,h1⟩:=Z0 p;obtain⟨d,g,a⟩:=Z0 h1;rw[w];simp only[jm];rw[(hx x (by simp[Op.operands]) d g).1]
  refine⟨a,?_⟩;cases hk:ti.k<;>rw[hk]at a<;>first|(cases a;exact ZO rfl)|cases a
 | typeAssert x xt t ok =>
  simp only[ZE]at p⊢;obtain⟨ti,w,h1⟩:=Z0 p;obtain⟨d,g,a⟩:=Z0 h1;rw[w];simp only[jm];rw[(hx x (by simp[Op.operands]) d g).1]
  refine⟨a,?_⟩;have fin:∀{r:Out},(bif ok then(Z1e ti).bind fun z=>ret (.tup [z,.bool false])else none)=some r->r.upd=[]:=fun h=>by
   obtain⟨_,h⟩:=Z3 h;obtain⟨z,_,h⟩:=Z0 h;cases h;rfl
  have fin2:∀{v:DV} {q:Bool} {r:Out},(bif q then ret v else bif ok then(Z1e ti).bind fun z=>ret (.tup [z,.bool false])else none)=some r->r.upd=[]:=fun {v q r} h=>by
   cases q with
   | true=>cases h;rfl
   | false=>exact fin h
  cases d with
  | nilif=>cases hk:ti.k<;>rw[hk]at a<;>first|exact ZO (fin a)|cases a
  | iface t' v=>cases hk:ti.k<;>rw[hk]at a<;>first|exact ZO (fin2 a)|cases a
  | _=>cases hk:ti.k<;>rw[hk]at a<;>cases a
 | makeSlice t l c =>
  simp only[ZE]at p⊢;obtain⟨ti,w,h1⟩:=Z0 p;obtain⟨dl,g,a⟩:=Z0 h1;obtain⟨dc,h4,h5⟩:=Z0 a;rw[w];simp only[jm];rw[(hx l (by simp[Op.operands]) dl g).1];simp only[jm];rw[(hx c (by simp[Op.operands]) dc h4).1]
  refine⟨h5,?_⟩;split at h5
  ·obtain⟨ei,_,h6⟩:=Z0 h5;obtain⟨_,h7⟩:=Z3 h6;cases h7;intro u hu;simp only[List.mem_singleton]at hu;subst hu;exact .inl rfl
  ·cases h5
 | makeFunc f x y =>
  simp only[ZE]at p⊢;obtain⟨d,h1,g⟩:=Z0 p;obtain⟨e,a,h4⟩:=Z0 g;rw[(Z1A (h:=h) (h':=h') (fun z hm=>hx z (by simp[Op.operands];exact .inl (by simpa using hm))) h1).1];simp only[jm]
  rw[(Z1A (h:=h) (h':=h') (fun z hm=>hx z (by simp[Op.operands];exact .inr (by simpa using hm))) a).1]
  refine⟨h4,?_⟩;cases h4;exact ZO rfl
 | makeMap t x =>
  cases x with
  | some x=>simp[ZE]at p
  | none =>
   refine⟨by simpa only[ZE]using p,?_⟩
   simp only[ZE]at p;cases p;intro u hu;simp only[List.mem_singleton]at hu;subst hu;exact .inl rfl
 | slice t x lo hi mx =>
  cases mx with
  | some m=>simp[ZE]at p
  | none =>
   simp only[ZE]at p⊢;obtain⟨ti,w,h1⟩:=Z0 p;obtain⟨d,g,a⟩:=Z0 h1;obtain⟨dl,h4,h5⟩:=Z0 a;obtain⟨dh,h6,h7⟩:=Z0 h5;obtain⟨k1,k2⟩:=hx x (by simp[Op.operands]) d g
   rw[w];simp only[jm];rw[k1];simp only[jm];rw[Zam (h:=h) (h':=h') (fun y hy=>hx y (by subst hy;simp[Op.operands])) h4];simp only[jm]
   rw[Zam (h:=h) (h':=h') (fun y hy=>hx y (by subst hy;simp[Op.operands])) h6];simp only[jm]
   cases hk:ti.k with
   | string =>
    rw[hk]at h7;cases d with
    | str s=>exact⟨h7,ZO (YF h7)⟩
    | _=>cases h7
   | array n e =>
    rw[hk]at h7;cases d with
    | ptr id off =>
     simp only at h7⊢;obtain⟨ei,hei,h8⟩:=Z0 h7;obtain⟨ob,h9,h10⟩:=Z0 h8;rw[hei];simp only[jm];rw[k2 id (by simp[ZA]) _ h9];simp only[jm]
     refine⟨h10,?_⟩;cases ob with
     | cells ct cs =>
      obtain⟨_,h11⟩:=Z3 h10;obtain⟨q,_,h12⟩:=Z0 h11;cases h12;intro u hu;simp only[List.mem_singleton]at hu;subst hu;exact .inr ⟨x,by simp[Op.operands],.ptr id off,g,by simp[ZA]⟩
     | _=>cases h10
    | _=>cases h7
   | slice e =>
    rw[hk]at h7;simp only at h7⊢;obtain⟨ei,hei,h8⟩:=Z0 h7;obtain⟨es,h9,h10⟩:=Z0 h8;have k5:=Z7A (h:=h) (h':=h') (ds:=[d]) (fun id hid=>k2 id (by simpa[ZI]using hid)) (Zc7 h9)
    simp only[Zk,jp]at k5;have k6:Z39 h' d=Z39 h d:=Zcq k2 h9;rw[hei];simp only[jm];rw[Z5V k2 h9];simp only[jm];rw[k5,k6];refine⟨h10,?_⟩;obtain⟨_,h11⟩:=Z3 h10;cases hvw:ti.view&&Z39 h d with
    | true =>
     rw[hvw]at h11;simp only[jB]at h11;exact ZO (YF h11)
    | false =>
    rw[hvw]at h11;simp only[jA]at h11;obtain⟨q,_,h12⟩:=Z0 h11;cases h12;intro u hu;exact .inr ⟨x,by simp[Op.operands],d,g,Z9r d _ (Z2X _ u hu)⟩
   | _=>rw[hk]at h7;cases h7
 | fieldAddr s x f =>
  simp only[ZE]at p⊢;obtain⟨ti,w,h1⟩:=Z0 p;obtain⟨d,g,a⟩:=Z0 h1;rw[w];simp only[jm];rw[(hx x (by simp[Op.operands]) d g).1]
  refine⟨a,?_⟩;split at a
  ·obtain⟨q,_,h4⟩:=Z0 a;obtain⟨fi,_,h5⟩:=Z0 h4;obtain⟨_,h6⟩:=Z3 h5;exact ZO (YF h6)
  ·cases a
 | field s x f =>
  simp only[ZE]at p⊢;obtain⟨ti,w,h1⟩:=Z0 p;obtain⟨d,g,a⟩:=Z0 h1;rw[w];simp only[jm];rw[(hx x (by simp[Op.operands]) d g).1]
  refine⟨a,?_⟩;split at a
  ·obtain⟨q,_,h4⟩:=Z0 a;obtain⟨fi,_,h5⟩:=Z0 h4;exact ZO (YF h5)
  ·cases a
 | indexAddr t x i =>
  simp only[ZE]at p⊢;obtain⟨ti,w,h1⟩:=Z0 p;obtain⟨d,g,a⟩:=Z0 h1;obtain⟨di,h4,h5⟩:=Z0 a;obtain⟨k1,k2⟩:=hx x (by simp[Op.operands]) d g
  rw[w];simp only[jm];rw[k1];simp only[jm];rw[(hx i (by simp[Op.operands]) di h4).1];simp only[jm]
  cases hk:ti.k with
  | array len e =>
   rw[hk]at h5;refine⟨h5,?_⟩;obtain⟨ei,_,h6⟩:=Z0 h5;obtain⟨j,_,h7⟩:=Z0 h6;exact ZO (YF h7)
  | slice e =>
   rw[hk]at h5;simp only at h5⊢;obtain⟨ei,hei,h6⟩:=Z0 h5;rw[hei];simp only[jm];cases d with
   | sl es =>
    refine⟨h6,?_⟩;obtain⟨j,_,h7⟩:=Z0 h6;obtain⟨c,_,h8⟩:=Z0 h7;obtain⟨_,h9⟩:=Z3 h8;cases h9;exact ZO rfl
   | rs id v =>
    simp only at h6⊢;obtain⟨o,ho,h7⟩:=Z0 h6;rw[k2 id (by simp[ZA]) o ho]
    refine⟨h7,?_⟩;split at h7
    ·obtain⟨j,_,h8⟩:=Z0 h7;obtain⟨_,h9⟩:=Z3 h8;cases h9;exact ZO rfl
    ·cases h7
   | _=>cases h6
  | _=>rw[hk]at h5;cases h5
 | index t x i =>
  simp only[ZE]at p⊢;obtain⟨ti,w,h1⟩:=Z0 p;obtain⟨d,g,a⟩:=Z0 h1;obtain⟨di,h4,h5⟩:=Z0 a;rw[w];simp only[jm];rw[(hx x (by simp[Op.operands]) d g).1];simp only[jm];rw[(hx i (by simp[Op.operands]) di h4).1]
  refine⟨h5,?_⟩;split at h5
  ·obtain⟨ei,_,h6⟩:=Z0 h5;obtain⟨j,_,h7⟩:=Z0 h6;exact ZO (YF h7)
  ·obtain⟨j,_,h7⟩:=Z0 h5;obtain⟨c,_,h8⟩:=Z0 h7;cases h8;exact ZO rfl
  ·cases h5
 | lookup t m k ok =>
  simp only[ZE]at p⊢;obtain⟨ti,w,h1⟩:=Z0 p;obtain⟨dm,g,a⟩:=Z0 h1;obtain⟨dk,h4,h5⟩:=Z0 a;obtain⟨k1,k2⟩:=hx m (by simp[Op.operands]) dm g
  rw[w];simp only[jm];rw[k1];simp only[jm];rw[(hx k (by simp[Op.operands]) dk h4).1];simp only[jm]
  cases hk:ti.k with
  | map kt e =>
   rw[hk]at h5;simp only at h5⊢;obtain⟨ei,hei,h6⟩:=Z0 h5;obtain⟨ki,hki,h7⟩:=Z0 h6;obtain⟨hq,h8⟩:=Z3 h7;obtain⟨es,h9,h10⟩:=Z0 h8;rw[hei];simp only[jm];rw[hki];simp only[jm];rw[hq];simp only[jB];have k3:∀(z:Option (List (DV×DV))),z=some es->(z.bind fun es=>(Z2V dk es).bind fun r=>match r,ei.zero with
     | some v,_=>ret (bif ok then .tup [v,.bool true]else v)
     | none,z::_=>ret (bif ok then .tup [z,.bool false]else z)
     | _,_=>none)=some r:=fun z hz=>by rw[hz];exact h10
   refine⟨k3 _ ?_,?_⟩
   ·cases dm with
    | nilmap=>exact h9
    | map id =>
     simp only at h9⊢;obtain⟨o,ho,h11⟩:=Z0 h9;rw[k2 id (by simp[ZA]) o ho];exact h11
    | _=>cases h9
   ·obtain⟨q,_,h12⟩:=Z0 h10;split at h12<;>first|(cases h12;exact ZO rfl)|cases h12
  | _=>rw[hk]at h5;cases h5
 | mapUpdate t m k x =>
  simp only[ZE]at p⊢;obtain⟨ti,w,h1⟩:=Z0 p;obtain⟨dm,g,a⟩:=Z0 h1;obtain⟨dk,h4,h5⟩:=Z0 a;obtain⟨dx,h6,h7⟩:=Z0 h5;obtain⟨k1,k2⟩:=hx m (by simp[Op.operands]) dm g
  rw[w];simp only[jm];rw[k1];simp only[jm];rw[(hx k (by simp[Op.operands]) dk h4).1];simp only[jm];rw[(hx x (by simp[Op.operands]) dx h6).1];simp only[jm]
  cases hk:ti.k with
  | map kt e =>
   rw[hk]at h7;cases dm with
   | map id =>
    simp only at h7⊢;obtain⟨ki,hki,h8⟩:=Z0 h7;obtain⟨o,ho,h9⟩:=Z0 h8;rw[hki];simp only[jm];rw[k2 id (by simp[ZA]) o ho]
    refine⟨h9,?_⟩;split at h9
    ·obtain⟨_,h10⟩:=Z3 h9;obtain⟨es,_,h11⟩:=Z0 h10;cases h11;intro u hu;simp only[List.mem_singleton]at hu;subst hu;exact .inr ⟨m,by simp[Op.operands],.map id,g,by simp[ZA]⟩
    ·cases h9
   | _=>cases h7
  | _=>rw[hk]at h7;cases h7
 | range t x =>
  simp only[ZE]at p⊢;obtain⟨ti,w,h1⟩:=Z0 p;obtain⟨d,g,a⟩:=Z0 h1;rw[w];simp only[jm];rw[(hx x (by simp[Op.operands]) d g).1]
  refine⟨a,?_⟩;split at a
  ·cases a;intro u hu;simp only[List.mem_singleton]at hu;subst hu;exact .inl rfl
  ·cases a
 | next it s =>
  cases s with
  | false=>simp[ZE]at p
  | true =>
   simp only[ZE]at p⊢;obtain⟨d,h1,g⟩:=Z0 p;obtain⟨k1,k2⟩:=hx it (by simp[Op.operands]) d h1
   rw[k1];simp only[jm];cases d with
   | iter id =>
    simp only at g⊢;obtain⟨o,ho,a⟩:=Z0 g;rw[k2 id (by simp[ZA]) o ho]
    refine⟨a,?_⟩;split at a
    ·rename_i s pos
     by_cases hp:pos<s.size
     ·simp only[hp,decide_true,jB]at a;cases a;intro u hu;simp only[List.mem_singleton]at hu;subst hu;exact .inr ⟨it,by simp[Op.operands],.iter id,h1,by simp[ZA]⟩
     ·simp only[hp,decide_false,jA]at a;cases a;exact ZO rfl
    ·cases a
   | _=>cases g
 | extract t i =>
  simp only[ZE]at p⊢;obtain⟨d,h1,g⟩:=Z0 p;rw[(hx t (by simp[Op.operands]) d h1).1]
  refine⟨g,?_⟩;split at g
  ·exact ZO (YF g)
  ·cases g
 | _=>simp[ZE]at p
theorem Zb7:∀(xs ys:List DV) (i:Nat),i∈ZI (xs++ys)↔i∈ZI xs\/i∈ZI ys
 | [],ys,i=>by simp[ZI]
 | x::xs,ys,i=>by simp[ZI,Zb7 xs ys i,or_assoc]
theorem Zdf {c:Call} {g:FuncId} {x y as:List DV} (q:∀z∈c.operands,OkX ρ ρ' h h' z) (l:target E ρ c=some (.fn (.func g) x y,as)) :
  target E ρ' c=some (.fn (.func g) x y,as)/\∀id,id∈ZI as->(∀o,h id=some o->h' id=some o)/\∃z∈c.operands,∃d,Y0 ρ z=some d/\id∈ZA d:=by
 unfold target at l⊢;split at l
 ·rename_i f hc;have j:f∈c.operands:=by simp[Call.operands,hc]
  have b:∀z∈c.args.toList,z∈c.operands:=fun z i=>by simp[Call.operands];exact .inr (by simpa using i)
  obtain⟨d,k,e⟩:=Z0 l;obtain⟨k1,k2⟩:=q f j d k;rw[k1];simp only[jm];split at e
  ·rename_i g' first caps
   obtain⟨as',p,n⟩:=Z0 e;obtain⟨k3,k4⟩:=Z1A (h:=h) (h':=h') (fun z i=>q z (b z i)) p;rw[k3];cases n;refine⟨rfl,fun id a=>?_⟩;rw[Zb7,Zb7]at a;rcases a with(a|a)|a
   ·have:id∈ZA (.fn (.func g) first caps):=by simp only[ZA,List.mem_append];exact .inl a
    exact⟨k2 id this,f,j,_,k,this⟩
   ·obtain⟨m1,z,m2,m3⟩:=k4 id a;exact⟨m1,z,b z m2,m3⟩
   ·have:id∈ZA (.fn (.func g) first caps):=by simp only[ZA,List.mem_append];exact .inr a
    exact⟨k2 id this,f,j,_,k,this⟩
  ·obtain⟨as',p,n⟩:=Z0 e;cases n
  ·cases e
 ·rename_i f m hc;have j:f∈c.operands:=by simp[Call.operands,hc]
  have b:∀z∈c.args.toList,z∈c.operands:=fun z i=>by simp[Call.operands];exact .inr (by simpa using i)
  obtain⟨d,k,e⟩:=Z0 l;obtain⟨k1,k2⟩:=q f j d k;rw[k1];simp only[jm];split at e
  ·rename_i t v;obtain⟨ti,r,e⟩:=Z0 e;obtain⟨g',s,e⟩:=Z0 e;obtain⟨as',p,n⟩:=Z0 e;obtain⟨k3,k4⟩:=Z1A (h:=h) (h':=h') (fun z i=>q z (b z i)) p;simp only[r,s,k3,jm];cases n;refine⟨rfl,fun id a=>?_⟩;simp only[ZI,List.mem_append]at a;rcases a with a|a
   ·have:id∈ZA (.iface t v):=by simpa only[ZA]using a
    exact⟨k2 id this,f,j,_,k,this⟩
   ·obtain⟨m1,z,m2,m3⟩:=k4 id a;exact⟨m1,z,b z m2,m3⟩
  ·cases e
 ·cases l
theorem ZgF {call:Nat->List DV->Option DV} {op:Op} {r:Out} (k:∀x∈op.operands,OkX ρ ρ' h h' x) (d:Z7N E call nid ρ h op=some r):Z7N E call nid ρ' h' op=some r/\Ups ρ nid op.operands r:=by
 unfold Z7N at d⊢;split at d
 ·rename_i c hc;have f:=Z3u hc;subst f;unfold Z4M at d⊢;obtain⟨tg,l,i⟩:=Z0 d;split at i
  ·rename_i g x y as;obtain⟨fs,j,o⟩:=Z0 i;obtain⟨q,m,b⟩:=Z0 o;have e:∀z∈c.operands,OkX ρ ρ' h h' z:=k;obtain⟨k1,k2⟩:=Zdf e l;rw[k1];simp only[jm];rw[Z8Y as fs (fun id a=>(k2 id a).1) j];simp only[jm];rw[m];simp only[jm];cases hrv:as.any Zgr with
   | true =>
    rw[hrv]at b;simp only[jB]at b⊢;exact⟨b,ZO (YF b)⟩
   | false =>
   rw[hrv]at b;simp only[jA]at b⊢;cases b;rw[Z7A (fun id a=>(k2 id a).1) (Z7S as fs j)];refine⟨rfl,fun u n=>?_⟩;obtain⟨_,z,m1,m2⟩:=k2 u.1 (Z35 as _ (Z2X _ u n));exact .inr ⟨z,m1,m2⟩
  ·cases i
 ·exact ZhG k d
end
end Go.Ab
namespace Go.Ab
open Go.RowKit
section
variable {E:Env} {call:Nat->List DV->Option DV} {callH callY:Yi} {V nt:Nat} {ops:Array Oper} {b:Nat}
structure Z43 (E:Env) (call:Nat->List DV->Option DV) (callH callY:Yi) (V nt:Nat) (ops:Array Oper) (b:Nat) (m:Mid) (k nx nx2:Nat) (o:Oper) (d:YJ) (ds:List (Nat×YJ)):Prop where
 op:ops[k]? = some o
 dst:d.dst=o.dst
 anc:d.anc=Z1O ops ds o k
 edges:∀e∈o.after,Region.binds .any e=true->e.on<k
 fits:∀t,o.dst=some t->t<nt
 apart:∀e∈ds,Nat.testBit d.anc e.1=true\/∀t,o.dst=some t->t∉(ops.getD e.1 o).looksAt ops/\e.2.dst≠some t
 ups:∀e∈ds,Nat.testBit d.anc e.1=true\/((d.new≠none->e.2.new=none)/\∀u∈d.out.upd,u.1∉e.2.touch/\Zw u.1 e.2.out.upd=none)
 run:(Z1y ops (Z6e d.anc (ZZ V m.base m.loc) ds) o=some true/\Z7N E call (b+k) (Z6e d.anc (ZZ V m.base m.loc) ds) (Z5L d.anc m.objs.get ds) o.op=some d.out/\d.touch=touch (Z6e d.anc (ZZ V m.base m.loc) ds) o.op/\d.new=none/\nx2=nx) ∨
  (Z1y ops (Z6e d.anc (ZZ V m.base m.loc) ds) o=some false/\d.touch=[]/\d.out=⟨some (.tup []),[]⟩/\d.new=none/\nx2=nx) ∨
  (Z1y ops (Z6e d.anc (ZZ V m.base m.loc) ds) o=some true/\d.new=some (nx,nx2)/\∃cl tgt,Z3b o.op=some cl/\target E (Z6e d.anc (ZZ V m.base m.loc) ds) cl=some tgt/\YY callH callY (Z5L d.anc m.objs.get ds) nx tgt=some (d.out,d.touch,nx2))
def Z38 (E:Env) (call:Nat->List DV->Option DV) (callH callY:Yi) (V nt:Nat) (ops:Array Oper) (b:Nat) (m:Mid):Nat->Nat->List (Nat×YJ)->Prop
 | k,nx,[]=>k=0/\nx=m.next
 | k,nx,(j,d)::ds=>k=j+1/\∃nx0,(∃o,Z43 E call callH callY V nt ops b m j nx0 nx o d ds)/\Z38 E call callH callY V nt ops b m j nx0 ds
theorem Zfo {k:Nat} {o:Oper} {os:List Oper} (h:o::os=ops.toList.drop k):ops[k]? = some o/\os=ops.toList.drop (k+1):=by
 have a:k<ops.toList.length:=by
  rcases Nat.lt_or_ge k ops.toList.length with b|b
  ·exact b
  ·rw[jd b]at h;cases h
 rw[jb a]at h;simp only[List.cons.injEq]at h;refine⟨?_,h.2⟩;rw[h.1,<-Array.getElem?_toList];exact List.getElem?_eq_getElem a
theorem Z4a {m:Mid}:∀(os:List Oper) (k:Nat) (mf:Mid) (nx:Nat) (ds:List (Nat×YJ)),Z19 E call callH callY V nt ops b k os { m with next:=nx } ds=some mf->os=ops.toList.drop k->Z38 E call callH callY V nt ops b m k nx ds->k<=ops.size →
  ∃nx2 ds2,Z38 E call callH callY V nt ops b m ops.size nx2 ds2/\mf=YV V nt ds2 { m with next:=nx2 }
 | [],k,mf,nx,ds,a,ho,hs,hk=>by
  simp only[Z19,jh]at a;have:=List.drop_eq_nil_iff.1 ho.symm;simp at this;have:k=ops.size:=by omega
  subst this;exact⟨nx,ds,hs,a.symm⟩
 | o::os,k,mf,nx,ds,a,ho,hs,hk=>by
  obtain⟨g,p⟩:=Zfo ho;have n:k<ops.size:=(ja.1 g).1;simp only[Z19]at a;obtain⟨v,a⟩:=Z3 a;simp only[jn,List.all_eq_true,Bool.or_eq_true]at v;obtain⟨⟨q1,q2⟩,q4⟩:=v;have c:∀e∈o.after,Region.binds .any e=true->e.on<k:=fun e j hb=>by
   have:=(Array.all_eq_true_iff_forall_mem.1 q1) e j;simp only[hb,Bool.not_true,Bool.false_or,Tr.blt_dec,jl]at this;exact this
  have d:∀t,o.dst=some t->t<nt:=fun t ht=>by
   rw[ht]at q2;simpa[Tr.blt_dec]using q2
  have l:∀e∈ds,Nat.testBit (Z1O ops ds o k) e.1=true\/∀t,o.dst=some t->t∉(ops.getD e.1 o).looksAt ops/\e.2.dst≠some t:=fun e j=>by
   rcases q4 e j with h|h
   ·exact .inl h
   ·refine .inr fun t ht=>?_;rw[ht]at h;simp only[jn,Bool.not_eq_true']at h;refine⟨by simpa using h.1,fun w=>?_⟩
    have x:=h.2;rw[w]at x;simp at x
  obtain⟨want,y,a⟩:=Z0 a;cases want with
  | false =>
   simp only[jA]at a;exact Z4a os (k+1) mf nx _ a p ⟨rfl,nx,⟨o,g,rfl,rfl,c,d,l,fun e _=>.inr ⟨fun h=>absurd rfl h,fun u q=>by cases q⟩,.inr (.inl ⟨y,rfl,rfl,rfl,rfl⟩)⟩,hs⟩ n
  | true =>
   simp only[jB]at a;obtain⟨so,z,a⟩:=Z0 a;cases so with
   | some r =>
    have hr:=ZaD z;obtain⟨s,a⟩:=Z3 a;have f:∀e∈ds,Nat.testBit (Z1O ops ds o k) e.1=true\/(((none:Option (Nat×Nat))≠none->e.2.new=none)/\∀u∈r.upd,u.1∉e.2.touch/\Zw u.1 e.2.out.upd=none):=fun e j=>by
     simp only[List.all_eq_true,Bool.or_eq_true,jn,Bool.not_eq_true',Option.isNone_iff_eq_none]at s
     by_cases v:Nat.testBit (Z1O ops ds o k) e.1=true
     ·exact .inl v
     ·refine .inr ⟨fun h=>absurd rfl h,fun u q=>?_⟩;rcases s u q e j with h|h
      ·exact absurd h v
      ·exact⟨by simpa using h.1,h.2⟩
    exact Z4a os (k+1) mf nx _ a p ⟨rfl,nx,⟨o,g,rfl,rfl,c,d,l,f,.inl ⟨y,hr,rfl,rfl,rfl⟩⟩,hs⟩ n
   | none =>
    obtain⟨cl,h1,a⟩:=Z0 a;obtain⟨tgt,x,a⟩:=Z0 a;obtain⟨⟨out,T,nx2⟩,h3,a⟩:=Z0 a;obtain⟨i,a⟩:=Z3 a;simp only[List.all_eq_true,Bool.or_eq_true,jn,Bool.not_eq_true',Option.isNone_iff_eq_none]at i;have f:∀e∈ds,Nat.testBit (Z1O ops ds o k) e.1=true\/((some (nx,nx2)≠none->e.2.new=none)/\∀u∈out.upd,u.1∉e.2.touch/\Zw u.1 e.2.out.upd=none):=fun e j=>by
     rcases i e j with h|⟨h,h'⟩
     ·exact .inl h
     ·exact .inr ⟨fun _=>h,fun u q=>⟨by simpa using (h' u q).1,(h' u q).2⟩⟩
    exact Z4a os (k+1) mf nx2 _ a p ⟨rfl,nx,⟨o,g,rfl,rfl,c,d,l,f,.inr (.inr ⟨y,rfl,cl,tgt,h1,x,h3⟩)⟩,hs⟩ n
theorem Zg5 {ds:List (Nat×YJ)} {o:Oper} {k i:Nat} (h:Nat.testBit (Z1O ops ds o k) i=true):∃e∈o.after,Region.binds .any e=true/\e.on<k/\(i=e.on\/∃d,(e.on,d)∈ds/\Nat.testBit d.anc i=true):=by
 unfold Z1O at h;have key:∀(es:List Edge) (x:Nat),Nat.testBit (es.foldl (fun m e=>bif Region.binds .any e&&Nat.blt e.on k then m ||| (1 <<< e.on) ||| ((ds.find? (fun d=>Nat.beq d.1 e.on)).map (·.2.anc)).getD 0 else m) x) i=true →
   Nat.testBit x i=true\/∃e∈es,Region.binds .any e=true/\e.on<k/\(i=e.on\/∃d,(e.on,d)∈ds/\Nat.testBit d.anc i=true):=by
  intro es
  induction es with
  | nil=>intro x b;exact .inl b
  | cons e es ih =>
   intro x b;rw[List.foldl_cons]at b;rcases ih _ b with a|⟨e',a,c⟩
   ·cases hq:(Region.binds .any e&&Nat.blt e.on k)with
    | false=>rw[hq]at a;exact .inl a
    | true =>
     rw[hq]at a;simp only[jn,Tr.blt_dec,jl]at hq;simp only[jB,Nat.testBit_or,Bool.or_eq_true]at a;rcases a with(a|a)|a
     ·exact .inl a
     ·refine .inr ⟨e,by simp,hq.1,hq.2,.inl ?_⟩
      rw[Nat.one_shiftLeft,Nat.testBit_two_pow]at a;simpa using (of_decide_eq_true a).symm
     ·refine .inr ⟨e,by simp,hq.1,hq.2,.inr ?_⟩
      cases hf:ds.find? (fun d=>Nat.beq d.1 e.on)with
      | none=>rw[hf]at a;simp at a
      | some p =>
       rw[hf]at a;obtain⟨j,d⟩:=p;have f:=List.find?_some hf;have f:j=e.on:=jf f;subst f;exact⟨d,List.mem_of_find?_eq_some hf,a⟩
   ·exact .inr ⟨e',by simp[a],c⟩
 rcases key _ _ h with a|⟨e,a,c⟩
 ·simp at a
 ·exact⟨e,by simpa using a,c⟩
def Z1K (L:Nat->Bool) (ρ:Nat->Option DV):List (Nat×YJ)->Nat->Option DV
 | [],t=>ρ t
 | (j,d)::ds,t=>if L j=true/\d.dst=some t then d.out.val else Z1K L ρ ds t
def hL (L:Nat->Bool) (h:Nat->Option Zd):List (Nat×YJ)->Nat->Option Zd
 | [],id=>h id
 | (j,d)::ds,id=>if L j=true then(match Zw id d.out.upd with|some x=>x|none=>hL L h ds id)else hL L h ds id
theorem Z86 {id:Nat}:∀{us:List (Nat×Option Zd)} {x:Option Zd},Zw id us=some x->∃u∈us,u.1=id
 | [],_,h=>by cases h
 | (i,y)::us,x,h=>by
  simp only[Zw]at h;cases hq:Zw id us with
  | some z =>
   obtain⟨u,a,b⟩:=Z86 hq;exact⟨u,by simp[a],b⟩
  | none =>
   rw[hq]at h;simp only[Tr.beq_dec]at h
   by_cases e:i=id
   ·exact⟨(i,y),by simp,e⟩
   ·simp[e]at h
variable {m:Mid}
theorem ZbI:∀{ds:List (Nat×YJ)} {k nx:Nat},Z38 E call callH callY V nt ops b m k nx ds->∀j d,(j,d)∈ds->j<k
 | [],k,_,h=>fun _ _ h=>by cases h
 | (j,d)::ds,k,_,h=>by
  obtain⟨rfl,_,_,a⟩:=h;have k2:=ZbI a;intro i e hi;rcases jr.1 hi with hi|hi
  ·cases hi;omega
  ·have:=k2 i e hi;omega
def Zg0 (L:Nat->Bool) (ds:List (Nat×YJ)):Prop:=∀j d,(j,d)∈ds->L j=true->∀i,Nat.testBit d.anc i=true->L i=true
theorem ZgY:∀{ds:List (Nat×YJ)} {k nx:Nat},Z38 E call callH callY V nt ops b m k nx ds->∀j,j<k->∃d tl o nx1 nx2,(j,d)∈ds/\Z43 E call callH callY V nt ops b m j nx1 nx2 o d tl/\(∀e∈tl,e∈ds)/\Z38 E call callH callY V nt ops b m j nx1 tl
 | [],k,_,h,j,h2=>by rw[h.1]at h2;omega
 | (i,d)::ds,k,nx,h,j,h2=>by
  obtain⟨rfl,nx0,⟨o,f⟩,c⟩:=h
  by_cases e:j=i
  ·subst e;exact⟨d,ds,o,nx0,nx,by simp,f,fun e a=>by simp[a],c⟩
  ·obtain⟨d',tl,o',n1,n2,k1,k2,k3,k4⟩:=ZgY c j (by omega)
   exact⟨d',tl,o',n1,n2,by simp[k1],k2,fun e a=>by simp[k3 e a],k4⟩
theorem ZaA {L:Nat->Bool} {anc:Nat} (a:∀i,Nat.testBit anc i=true->L i=true) {ρ:Nat->Option DV} {t:Nat} {v:DV}:∀{ds:List (Nat×YJ)},Z6e anc ρ ds t=some v->Z1K L ρ ds t=some v
 | [],h=>h
 | (j,d)::ds,h=>by
  simp only[Z6e]at h;simp only[Z1K]
  by_cases e:d.dst=some t
  ·rw[e]at h;simp only[Tr.beq_dec,decide_true,jB]at h;cases hq:Nat.testBit anc j with
   | false=>rw[hq]at h;cases h
   | true=>rw[hq]at h;rw[if_pos ⟨a j hq,e⟩];exact h
  ·rw[if_neg (fun q=>e q.2)];refine ZaA a ?_;cases hd:d.dst with
   | none=>rw[hd]at h;exact h
   | some s =>
    have b:s≠t:=fun q=>e (by rw[hd,q])
    rw[hd]at h;simpa[Tr.beq_dec,b]using h
theorem Z9z {L:Nat->Bool} {anc:Nat} (a:∀i,Nat.testBit anc i=true->L i=true) {h:Nat->Option Zd} {id:Nat} {ob:Zd}:∀{ds:List (Nat×YJ)},Z5L anc h ds id=some ob->hL L h ds id=some ob
 | [],h=>h
 | (j,d)::ds,h=>by
  simp only[Z5L]at h;simp only[hL];cases hq:Zw id d.out.upd with
  | some x =>
   rw[hq]at h;simp only at h⊢;cases hb:Nat.testBit anc j with
   | false=>rw[hb]at h;cases h
   | true=>rw[hb]at h;rw[if_pos (a j hb)];exact h
  | none =>
   rw[hq]at h;simp only at h⊢;have:=Z9z a h
   by_cases e:L j=true
   ·rw[if_pos e];exact this
   ·rw[if_neg e];exact this
theorem Z82 {L L':Nat->Bool} {ρ:Nat->Option DV} {t:Nat}:∀{ds:List (Nat×YJ)},(∀i e,(i,e)∈ds->L' i=L i)->Z1K L' ρ ds t=Z1K L ρ ds t
 | [],_=>rfl
 | (j,d)::ds,h=>by
  simp only[Z1K];rw[h j d (by simp),Z82 fun i e hi=>h i e (by simp[hi])]
theorem Zcp {L L':Nat->Bool} {h:Nat->Option Zd} {id:Nat}:∀{ds:List (Nat×YJ)},(∀i e,(i,e)∈ds->L' i=L i)->hL L' h ds id=hL L h ds id
 | [],_=>rfl
 | (j,d)::ds,h=>by
  simp only[hL];rw[h j d (by simp),Zcp fun i e hi=>h i e (by simp[hi])]
theorem Zd7 {L:Nat->Bool} {k:Nat} (w:L k=false) {L':Nat->Bool} (g:∀j,L' j=if j=k then true else L j):∀{ds:List (Nat×YJ)} {n nx:Nat},Z38 E call callH callY V nt ops b m n nx ds->Zg0 L ds->k<n->∃d tl o nx1 nx2,(k,d)∈ds/\Z43 E call callH callY V nt ops b m k nx1 nx2 o d tl ∧
  ((∀i,Nat.testBit d.anc i=true->L i=true) →
   (∀t v,t∈o.looksAt ops->Z6e d.anc (ZZ V m.base m.loc) tl t=some v->Z1K L (ZZ V m.base m.loc) ds t=some v) ∧
   (∀id ob,id∈d.touch->Z5L d.anc m.objs.get tl id=some ob->hL L m.objs.get ds id=some ob)) ∧
  (∀t,Z1K L' (ZZ V m.base m.loc) ds t=if d.dst=some t then d.out.val else Z1K L (ZZ V m.base m.loc) ds t) ∧
  (∀id,hL L' m.objs.get ds id=match Zw id d.out.upd with|some x=>x|none=>hL L m.objs.get ds id)
 | [],n,_,h,_,h2=>by rw[h.1]at h2;omega
 | (j,dj)::ds,n,nx,h,hd,h2=>by
  obtain⟨rfl,nx0,⟨o,s⟩,h4⟩:=h;have a1:Zg0 L ds:=fun i e hi=>hd i e (by simp[hi])
  by_cases e:k=j
  ·subst e;have hlt:=ZbI h4;have c:L' k=true:=by rw[g];simp
   have f:∀i e,(i,e)∈ds->L' i=L i:=fun i e hi=>by
    have:=hlt i e hi;rw[g,if_neg (by omega)]
   refine⟨dj,ds,o,nx0,nx,by simp,s,fun a=>⟨fun t v _ p=>?_,fun id ob _ p=>?_⟩,fun t=>?_,fun id=>?_⟩
   ·simp only[Z1K,w,jg,false_and,if_false];exact ZaA a p
   ·simp only[hL,w,jg,if_false];exact Z9z a p
   ·simp only[Z1K,c,w,jg,false_and,if_false,true_and];rw[Z82 f]
   ·simp only[hL,c,w,jg,if_false,if_true];rw[Zcp f]
  ·obtain⟨d,tl,o',n1,n2,k1,k2,k3,k4,k5⟩:=Zd7 w g h4 a1 (by omega)
   have a0:L' j=L j:=by rw[g,if_neg (fun q=>e q.symm)]
   have r:L j=true->Nat.testBit dj.anc k=false:=fun hj=>by
    cases l:Nat.testBit dj.anc k with
    | false=>rfl
    | true=>have:=hd j dj (by simp) hj k l;rw[w]at this;cases this
   have hgo:(ops.getD k o).looksAt ops=o'.looksAt ops:=by
    have:ops.getD k o=o':=by
     have:=k2.op;simp[this]
    rw[this]
   have z:L j=true->∀id x,Zw id dj.out.upd=some x->id∉d.touch/\Zw id d.out.upd=none:=fun hj id x l=>by
    obtain⟨u,hu,rfl⟩:=Z86 l;rcases s.ups (k,d) k1 with q|q
    ·rw[r hj]at q;cases q
    ·exact q.2 u hu
   refine⟨d,tl,o',n1,n2,by simp[k1],k2,fun a=>⟨fun t v ht p=>?_,fun id ob y p=>?_⟩,fun t=>?_,fun id=>?_⟩
   ·simp only[Z1K];rw[if_neg,(k3 a).1 t v ht p];rintro⟨e1,e2⟩;rcases s.apart (k,d) k1 with q|q
    ·rw[r e1]at q;cases q
    ·have:=(q t (by rw[<-s.dst];exact e2)).1
     rw[hgo]at this;exact this ht
   ·simp only[hL];rw[(k3 a).2 id ob y p]
    by_cases e1:L j=true
    ·rw[if_pos e1];cases l:Zw id dj.out.upd with
     | none=>rfl
     | some x=>exact absurd y (z e1 id x l).1
    ·rw[if_neg e1]
   ·simp only[Z1K,a0];rw[k4]
    by_cases e1:L j=true/\dj.dst=some t
    ·rw[if_pos e1,if_pos e1,if_neg];intro e2;rcases s.apart (k,d) k1 with q|q
     ·rw[r e1.1]at q;cases q
     ·exact(q t (by rw[<-s.dst];exact e1.2)).2 e2
    ·rw[if_neg e1,if_neg e1]
   ·simp only[hL,a0];rw[k5]
    by_cases e1:L j=true
    ·rw[if_pos e1,if_pos e1];cases l:Zw id dj.out.upd with
     | none=>rfl
     | some x=>rw[(z e1 id x l).2]
    ·rw[if_neg e1,if_neg e1]
theorem Zgk {k nx nx2:Nat} {o:Oper} {d:YJ} {ds:List (Nat×YJ)} (a:Z43 E call callH callY V nt ops b m k nx nx2 o d ds):nx<=nx2:=by
 rcases a.run with⟨_,_,_,_,h⟩|⟨_,_,_,_,h⟩|⟨_,_,_,_,_,_,h⟩
 ·omega
 ·omega
 ·exact Zdz _ _ _ _ _ _ h
theorem Z5f {k nx nx2:Nat} {o:Oper} {d:YJ} {ds:List (Nat×YJ)} (c:Z43 E call callH callY V nt ops b m k nx nx2 o d ds) {lo hi:Nat} (a:d.new=some (lo,hi)):lo=nx/\hi=nx2:=by
 rcases c.run with⟨_,_,_,h,_⟩|⟨_,_,_,h,_⟩|⟨_,h,_⟩
 ·rw[a]at h;cases h
 ·rw[a]at h;cases h
 ·rw[a]at h;cases h;exact⟨rfl,rfl⟩
theorem ZdG {k nx nx2:Nat} {o:Oper} {d:YJ} {ds:List (Nat×YJ)} (c:Z43 E call callH callY V nt ops b m k nx nx2 o d ds) (a:d.new=none):nx2=nx:=by
 rcases c.run with⟨_,_,_,_,h⟩|⟨_,_,_,_,h⟩|⟨_,h,_⟩
 ·exact h
 ·exact h
 ·rw[a]at h;cases h
theorem ZbH:∀{ds:List (Nat×YJ)} {k nx:Nat},Z38 E call callH callY V nt ops b m k nx ds->m.next<=nx/\∀j d lo hi,(j,d)∈ds->d.new=some (lo,hi)->m.next<=lo/\lo<=hi/\hi<=nx
 | [],k,nx,h=>⟨by rw[h.2];exact Nat.le_refl _,fun _ _ _ _ h=>by cases h⟩
 | (i,d)::ds,k,nx,h=>by
  obtain⟨rfl,nx0,⟨o,f⟩,p⟩:=h;obtain⟨n,q⟩:=ZbH p;have l:=Zgk f;refine⟨by omega,fun j d' lo hi e g=>?_⟩
  rcases jr.1 e with e|e
  ·cases e;obtain⟨rfl,rfl⟩:=Z5f f g;exact⟨n,l,Nat.le_refl _⟩
  ·obtain⟨a,b,c⟩:=q j d' lo hi e g;exact⟨a,b,by omega⟩
theorem ZaB:∀{ds:List (Nat×YJ)} {n nx:Nat},Z38 E call callH callY V nt ops b m n nx ds->∀k d lo hi,(k,d)∈ds->d.new=some (lo,hi)->∀id,lo<=id->id<nx →
  ∃j dj lo' f,(j,dj)∈ds/\dj.new=some (lo',f)/\lo'<=id/\id<f/\(j=k\/Nat.testBit dj.anc k=true)
 | [],_,_,_,_,_,_,_,h,_,_,_,_=>by cases h
 | (i,di)::ds,n,nx,h,k,d,lo,hi,g,hn,id,h1,h2=>by
  obtain⟨rfl,nx0,⟨o,l⟩,s⟩:=h;rcases jr.1 g with g|g
  ·cases g;obtain⟨rfl,rfl⟩:=Z5f l hn;exact⟨i,di,_,_,by simp,hn,h1,h2,.inl rfl⟩
  ·rcases Nat.lt_or_ge id nx0 with r|r
   ·obtain⟨j,dj,lo',f,a,b,c,d',e⟩:=ZaB s k d lo hi g hn id h1 r;exact⟨j,dj,lo',f,by simp[a],b,c,d',e⟩
   ·cases hq:di.new with
    | none=>have:=ZdG l hq;omega
    | some p =>
     obtain⟨lo',f⟩:=p;obtain⟨rfl,rfl⟩:=Z5f l hq;refine⟨i,di,lo',f,by simp,hq,r,h2,.inr ?_⟩
     rcases l.ups (k,d) g with q|q
     ·exact q
     ·have:=q.1 (by rw[hq];simp)
      rw[hn]at this;cases this
theorem Zf8:∀{ds:List (Nat×YJ)} {n nx:Nat},Z38 E call callH callY V nt ops b m n nx ds->∀k d lo hi j dj lo' hi',(k,d)∈ds->d.new=some (lo,hi)->(j,dj)∈ds->dj.new=some (lo',hi')->j≠k->Nat.testBit d.anc j=true\/hi<=lo'
 | [],_,_,_,_,_,_,_,_,_,_,_,h,_,_,_,_=>by cases h
 | (i,di)::ds,n,nx,h,k,d,lo,hi,j,dj,lo',hi',c,hn,a,hnj,hne=>by
  obtain⟨rfl,nx0,⟨o,f⟩,e⟩:=h;rcases jr.1 c with c|c
  ·cases c;rcases jr.1 a with a|a
   ·cases a;exact absurd rfl hne
   ·rcases f.ups (j,dj) a with q|q
    ·exact .inl q
    ·have:=q.1 (by rw[hn];simp)
     rw[hnj]at this;cases this
  ·rcases jr.1 a with a|a
   ·cases a;obtain⟨rfl,rfl⟩:=Z5f f hnj;exact .inr ((ZbH e).2 k d lo hi c hn).2.2
   ·exact Zf8 e k d lo hi j dj lo' hi' c hn a hnj hne
end
end Go.Ab
namespace Go.Ab
open Go.RowKit
section
variable {P:Program} {E:Env} {w0:World} {G0:Gh} {outer:DD} {own:List Nat} {V nt:Nat} {a:Act} {w:World} {β:Bi} {G:Gh} {ro:Option Nat} {n:Nat} {call:Nat->List DV->Option DV} {callH callY:Yi} {ops:Array Oper} {b:Nat} {m:Mid}
structure DS (E:Env) (w0:World) (G0:Gh) (outer:DD) (V nt:Nat) (own:List Nat) (ops:Array Oper) (b nx:Nat) (m:Mid) (ds:List (Nat×YJ)) (L:Nat->Bool) (β0:Bi) (Gz:Gh) (hz:Nat->Option Zd) (a:Act) (w:World) (β:Bi) (G:Gh):Prop where
 fr:FrM β G (Z1K L (ZZ V m.base m.loc) ds) a.tmps
 dom:∀t d,m.base.get t=some d->Nat.testBit V t=true
 sz:a.tmps.size=nt
 hr:HR E w0 G0 (YQ own outer) w β G (hL L m.objs.get ds)
 fresh:∀id,nx<=id->ZR β (hL L m.objs.get ds) id
 df:Z87 E own a.defers/\ZaO own outer
 un:∀j,j<ops.size->L j=false->ZR β (hL L m.objs.get ds) (b+j)
 unc:∀j d lo hi,(j,d)∈ds->d.new=some (lo,hi)->L j=false->∀id,lo<=id->id<hi->ZR β (hL L m.objs.get ds) id
 down:Zg0 L ds
 go:Go2 b β0 Gz β G hz (hL L m.objs.get ds)
theorem Zf7:∀{ds:List (Nat×YJ)} {k nx:Nat},Z38 E call callH callY V nt ops b m k nx ds->∀j d,(j,d)∈ds->∃tl o nx1 nx2,Z43 E call callH callY V nt ops b m j nx1 nx2 o d tl/\∀e∈tl,e∈ds
 | [],_,_,_,_,_,h=>by cases h
 | (i,d)::ds,k,nx,h,j,d',a=>by
  obtain⟨_,nx0,⟨o,f⟩,g⟩:=h;rcases jr.1 a with a|a
  ·cases a;exact⟨ds,o,nx0,nx,f,fun e c=>by simp[c]⟩
  ·obtain⟨tl,o',n1,n2,k1,k2⟩:=Zf7 g j d' a;exact⟨tl,o',n1,n2,k1,fun e c=>by simp[k2 e c]⟩
theorem Zg6 {ds:List (Nat×YJ)} {L:Nat->Bool} {o:Oper} {k:Nat} (g:Zg0 L ds) {tl:List (Nat×YJ)} (a:∀e∈tl,e∈ds) (c:∀e∈o.after,Region.binds .any e=true->L e.on=true) :
  ∀i,Nat.testBit (Z1O ops tl o k) i=true->L i=true:=fun i hi=>by
 obtain⟨e,b,f,_,j⟩:=Zg5 hi;rcases j with rfl|⟨d,h,l⟩
 ·exact c e b f
 ·exact g e.on d (a _ h) (c e b f) i l
theorem ZgA {o:Oper} {t:Nat} (h:Operand.tmp t∈o.op.operands):t∈o.looksAt ops :=
 List.mem_append_left _ (List.mem_filterMap.2 ⟨.tmp t,by simpa using h,rfl⟩)
theorem Zal {o:Oper} {ρ ρ':Nat->Option DV} (h:∀t v,t∈o.looksAt ops->ρ t=some v->ρ' t=some v) {x:Operand} (b:x∈o.op.operands) {d:DV} (a:Y0 ρ x=some d):Y0 ρ' x=some d:=by
 cases x with
 | tmp t=>exact h t d (ZgA b) a
 | _=>exact a
theorem Z5c {o:Oper} {ρ ρ':Nat->Option DV} (h:∀t v,t∈o.looksAt ops->ρ t=some v->ρ' t=some v) {want:Bool} (a:Z1y ops ρ o=some want):Z1y ops ρ' o=some want:=by
 unfold Z1y at a⊢;cases hg:o.guard with
 | none=>rw[hg]at a;exact a
 | some g =>
  obtain⟨j,wt⟩:=g;rw[hg]at a;simp only at a⊢;cases hd:(ops[j]?).bind (·.dst)with
  | none=>rw[hd]at a;cases a
  | some t =>
   rw[hd]at a;simp only at a⊢;cases hr:ρ t with
   | none=>rw[hr]at a;cases a
   | some d =>
    rw[hr]at a;rw[h t d (List.mem_append_right _ (by rw[hg];simp[hd])) hr]
    exact a
theorem Z4h {ρ ρ':Nat->Option DV}:∀{xs:List Operand} {ds:List DV},(∀x∈xs,∀dd,Y0 ρ x=some dd->Y0 ρ' x=some dd)->Z1s ρ xs=some ds->Z1s ρ' xs=some ds
 | [],_,_,h=>h
 | x::xs,ds,hv,h=>by
  simp only[Z1s]at h⊢;obtain⟨v,a,h⟩:=Z0 h;obtain⟨vs,b,h⟩:=Z0 h;rw[hv x (by simp) v a,jm,Z4h (fun y hy=>hv y (by simp[hy])) b]
  exact h
theorem Zdg {ρ ρ':Nat->Option DV} {c:Call} {tgt:DV×List DV} (hv:∀x∈c.operands,∀dd,Y0 ρ x=some dd->Y0 ρ' x=some dd) (h:target E ρ c=some tgt):target E ρ' c=some tgt:=by
 have a:∀x∈c.args.toList,x∈c.operands:=fun x b=>by
  unfold Call.operands;split<;>simp_all
 unfold target at h⊢;split at h
 ·rename_i f hc;obtain⟨v,e,h⟩:=Z0 h;have i:f∈c.operands:=by unfold Call.operands;rw[hc];simp
  rw[hv f i v e];simp only[jm];split at h
  ·obtain⟨as,d,h⟩:=Z0 h;rw[Z4h (fun x b=>hv x (a x b)) d];exact h
  ·obtain⟨as,d,h⟩:=Z0 h;rw[Z4h (fun x b=>hv x (a x b)) d];exact h
  ·cases h
 ·rename_i rv mm hc;obtain⟨v,e,h⟩:=Z0 h;have i:rv∈c.operands:=by unfold Call.operands;rw[hc];simp
  rw[hv rv i v e];simp only[jm];split at h
  ·obtain⟨ti,d,h⟩:=Z0 h;obtain⟨g,j,h⟩:=Z0 h;obtain⟨as,k,h⟩:=Z0 h;rw[d,jm,j,jm,Z4h (fun x b=>hv x (a x b)) k];exact h
  ·cases h
 ·cases h
theorem ZfT {ρ:Nat->Option DV} {op:Op} {x:Operand} (c:x∈op.operands) {d:DV} (b:Y0 ρ x=some d) {id:Nat} (a:id∈ZA d):id∈touch ρ op:=by
 unfold touch;rw[List.mem_flatMap];exact⟨x,by simpa using c,by rw[b];exact a⟩
theorem ZhJ (hE:∀t ti,E.ty t=some ti->ZW P t ti) (hp:Z37 P E call) (hH:YX P E callH) (hY:Z1f P E callY) {ds:List (Nat×YJ)} {nx:Nat} (hs:Z38 E call callH callY V nt ops b m ops.size nx ds) {L L':Nat->Bool} {k:Nat} (hk2:k<ops.size) (hle:b+ops.size<=m.next)
  (hk:L k=false) (r:∀j,L' j=if j=k then true else L j) {o:Oper} (ho:ops[k]? = some o) (a1:∀e∈o.after,Region.binds .any e=true->L e.on=true) {β0:Bi} {Gz:Gh} {hz:Nat->Option Zd}
  (c:DS E w0 G0 outer V nt own ops b nx m ds L β0 Gz hz a w β G) {K:Act->World->Prop} {Q:Exit->Act->World->Prop} (hK:∀a' w' β' G',DS E w0 G0 outer V nt own ops b nx m ds L' β0 Gz hz a' w' β' G'->K a' w'):wpOpIn (fw ro) n P ops Q k K a w:=by
 obtain⟨d,tl,o',nx1,nx2,h1,h2,h3,h4,h5⟩:=Zd7 hk r hs c.down hk2;have heo:o'=o:=by have:=h2.op;rw[ho]at this;cases this;rfl
 subst heo;obtain⟨hnx,u⟩:=ZbH hs;have l:∀d',(k,d')∈ds->∀i,Nat.testBit d'.anc i=true->L i=true:=fun d' hd' i hi=>by
  obtain⟨tl',o2,_,_,q1,q2⟩:=Zf7 hs k d' hd';have:o2=o':=by have:=q1.op;rw[ho]at this;cases this;rfl
  subst this;rw[q1.anc]at hi;exact Zg6 c.down q2 a1 i hi
 obtain⟨v1,v2⟩:=h3 (l d h1);have hdown:Zg0 L' ds:=fun j dj hj f i hi=>by
  rw[r]
  by_cases e:i=k
  ·rw[if_pos e]
  ·rw[if_neg e]
   by_cases e2:j=k
   ·subst e2;exact l dj hj i hi
   ·rw[r,if_neg e2]at f;exact c.down j dj hj f i hi
 have a2:∀id,hL L' m.objs.get ds id=ZJ (hL L m.objs.get ds) d.out.upd id:=fun id=>h5 id
 have y:∀(v:Value) (w':World) (β':Bi) (G':Gh),(∀dd,d.out.val=some dd->Rep β' G' dd v)->Ext β G β' G'->HR E w0 G0 (YQ own outer) w' β' G' (ZJ (hL L m.objs.get ds) d.out.upd) →
   (∀id,id<b->Z15 β β' (hL L m.objs.get ds) (hL L' m.objs.get ds) id)->(∀id,nx<=id->ZR β' (hL L' m.objs.get ds) id)->(∀j,j<ops.size->j≠k->ZR β (hL L m.objs.get ds) (b+j)->ZR β' (hL L' m.objs.get ds) (b+j)) →
   (∀j dj lo hi,(j,dj)∈ds->dj.new=some (lo,hi)->L' j=false->∀id,lo<=id->id<hi->ZR β' (hL L' m.objs.get ds) id) →
   DS E w0 G0 outer V nt own ops b nx m ds L' β0 Gz hz (a.put o'.dst v) w' β' G':=fun v w' β' G' hv s hh hkp hf1 hf2 hf3=>by
  obtain⟨s1,s2⟩:=ZcM (a:=a) o'.dst v;refine⟨ZeF s c.sz c.fr hv fun t dd ht=>?_,c.dom,s1.trans c.sz,hh.eq a2,hf1,⟨by rw[s2];exact c.df.1,c.df.2⟩,fun j a0 f=>?_,hf3,hdown,c.go.trans ⟨s,hkp⟩⟩
  ·rw[h4,h2.dst]at ht
   by_cases e:o'.dst=some t
   ·rw[if_pos e]at ht;exact .inl ⟨e,h2.fits t e,ht⟩
   ·rw[if_neg e]at ht;exact .inr ⟨fun q=>e q.1,ht⟩
  ·rw[r]at f
   by_cases e:j=k
   ·rw[if_pos e]at f;cases f
   ·rw[if_neg e]at f;exact hf2 j a0 e (c.un j a0 f)
 have p:d.new=none->∀(v:Value) (w':World) (β':Bi) (G':Gh),(∀dd,d.out.val=some dd->Rep β' G' dd v)->Ext β G β' G'->HR E w0 G0 (YQ own outer) w' β' G' (ZJ (hL L m.objs.get ds) d.out.upd)->Z2E β β' (hL L m.objs.get ds) (ZJ (hL L m.objs.get ds) d.out.upd) (b+k) →
   DS E w0 G0 outer V nt own ops b nx m ds L' β0 Gz hz (a.put o'.dst v) w' β' G':=fun hdn v w' β' G' hv s hh hkp=>by
  have z:∀id,id≠b+k->Z15 β β' (hL L m.objs.get ds) (hL L' m.objs.get ds) id:=fun id g hf=>by
   obtain⟨q1,q2,q3⟩:=hkp id g hf;exact⟨by rw[a2];exact q1,q2,q3⟩
  refine y v w' β' G' hv s hh (fun id g=>z id (by omega)) (fun id g=>(z id (by omega)).fresh (c.fresh id g)) (fun j a0 hne hf=>(z _ (by omega)).fresh hf) fun j dj lo hi hj hn f id hl1 hl2=>?_
  have a3:j≠k:=fun e=>by subst e;rw[r,if_pos rfl]at f;cases f
  rw[r,if_neg a3]at f;have:=(u j dj lo hi hj hn).1;exact(z id (by omega)).fresh (c.unc j dj lo hi hj hn f id hl1 hl2)
 unfold wpOpIn;rw[ho];simp only;rcases h2.run with⟨r1,r2,r3,r4,_⟩|⟨r1,_,r3,r4,_⟩|⟨r1,r4,cl,tgt,r5,r6,r7⟩
 ·rw[Z30 c.fr (Z5c v1 r1)];simp only[if_true];have hmono:=(ZgF (ρ':=Z1K L (ZZ V m.base m.loc) ds) (h':=hL L m.objs.get ds) (fun x s dd hd=>⟨Zal v1 s hd,fun id g ob hob=>v2 id ob (by rw[r3];exact ZfT s hd g) hob⟩) r2).1
  exact Z7O hE hp c.fr c.hr (c.un k hk2 hk) hmono K Q fun v w' β' G' hv s hh hkp=>hK _ _ _ _ (p r4 v w' β' G' hv s hh hkp)
 ·rw[Z30 c.fr (Z5c v1 r1)];simp only[jg,if_false];refine⟨fun _ _=>trivial,hK _ _ β G (p r4 undef w β G (fun dd hdd=>?_) (Ext.refl _ _) ?_ ?_)⟩
  ·rw[r3]at hdd;cases hdd;exact Z3W
  ·rw[r3];exact c.hr
  ·rw[r3];exact Z2E.refl _ _ _
 ·rw[Z30 c.fr (Z5c v1 r1)];simp only[if_true];obtain⟨c1,c2,c3⟩:=u k d nx1 nx2 h1 r4;have hop:=Z3u r5;have htgt:target E (Z1K L (ZZ V m.base m.loc) ds) cl=some tgt:=Zdg (fun x s dd hd=>Zal v1 (by rw[hop];exact s) hd) r6
  have hlow:∀id,nx1<=id->ZR β (hL L m.objs.get ds) id:=fun id g=>by
   rcases Nat.lt_or_ge id nx with q|q
   ·obtain⟨j,dj,lo',hi',g1,g2,g3,g4,g5⟩:=ZaB hs k d nx1 nx2 h1 r4 id g q;refine c.unc j dj lo' hi' g1 g2 ?_ id g3 g4;rcases g5 with rfl|g5
    ·exact hk
    ·cases hq:L j with
     | false=>rfl
     | true=>have:=c.down j dj g1 hq k g5;rw[hk]at this;cases this
   ·exact c.fresh id q
  refine Z5z hE hH hY c.fr r5 htgt c.hr r7 (fun i hi x s=>v2 i x hi s) hlow fun v w' β' G' hv hle2 s hkp hh hff=>hK _ _ β' G' ?_;have a5:∀id,id<nx1->Z15 β β' (hL L m.objs.get ds) (hL L' m.objs.get ds) id:=fun id g hf=>by
   obtain⟨q1,q2,q3⟩:=hkp id g hf;exact⟨by rw[a2];exact q1,q2,q3⟩
  have a4:∀id,nx2<=id->ZR β' (hL L' m.objs.get ds) id:=fun id g=>by
   have:=hff id g;exact⟨this.blk,this.hdr,by rw[a2];exact this.h⟩
  refine y v w' β' G' hv s hh (fun id g=>a5 id (by omega)) (fun id g=>a4 id (by omega)) (fun j a0 hne hf=>(a5 _ (by omega)).fresh hf) fun j dj lo hi hj hn f id hl1 hl2=>?_
  have a3:j≠k:=fun e=>by subst e;rw[r,if_pos rfl]at f;cases f
  rw[r,if_neg a3]at f;rcases Zf8 hs k d nx1 nx2 j dj lo hi h1 r4 hj hn a3 with q|q
  ·rw[l d h1 j q]at f;cases f
  ·exact a4 id (by omega)
theorem Z53 {L:Nat->Bool} {nx0:Nat}:∀{ds:List (Nat×YJ)} {k nx:Nat},Z38 E call callH callY V nt ops b m k nx ds->(∀j d,(j,d)∈ds->L j=true) →
  (∀t,Z1K L (ZZ V m.base m.loc) ds t=ZZ V (YV V nt ds { m with next:=nx0 }).base (YV V nt ds { m with next:=nx0 }).loc t)/\(∀id,hL L m.objs.get ds id=(YV V nt ds { m with next:=nx0 }).objs.get id)/\(YV V nt ds { m with next:=nx0 }).next=nx0 ∧
   ((∀t d,m.base.get t=some d->Nat.testBit V t=true)->∀t d,(YV V nt ds { m with next:=nx0 }).base.get t=some d->Nat.testBit V t=true)
 | [],k,_,_,_=>⟨fun _=>rfl,fun _=>rfl,rfl,fun h=>h⟩
 | (j,d)::ds,k,nx,hs,hl=>by
  obtain⟨_,_,⟨o,c⟩,g⟩:=hs;obtain⟨k1,k2,k3,k4⟩:=Z53 (nx0:=nx0) g (fun i e hi=>hl i e (by simp[hi]))
  have a:=hl j d (by simp)
  simp only[YV];obtain⟨p1,p2⟩:=Z3Q V nt ({ YV V nt ds { m with next:=nx0 }with objs:=Ya (YV V nt ds { m with next:=nx0 }).objs d.out.upd }:Mid) d.dst d.out.val
  refine⟨fun t=>?_,fun id=>?_,by rw[p2];exact k3,fun f=>ZeX V nt _ d.dst d.out.val (k4 f)⟩
  ·rw[Zd9];simp only[Z1K,a,true_and]
   by_cases e:d.dst=some t
   ·rw[if_pos e,if_pos ⟨e,c.fits t (by rw[<-c.dst];exact e)⟩]
   ·rw[if_neg e,if_neg (fun q=>e q.1)];exact k1 t
  ·rw[p1,Z2B];simp only[hL,a,if_true];unfold ZJ;cases Zw id d.out.upd with
   | some x=>rfl
   | none=>exact k2 id
theorem DS.full {ds:List (Nat×YJ)} {k nx:Nat} (n:Z38 E call callH callY V nt ops b m k nx ds) {L:Nat->Bool} (f:∀j d,(j,d)∈ds->L j=true) {β0:Bi} {Gz:Gh} {hz:Nat->Option Zd} (c:DS E w0 G0 outer V nt own ops b nx m ds L β0 Gz hz a w β G) :
  MM E w0 G0 outer V nt own (YV V nt ds { m with next:=nx }) a w β G/\Go2 b β0 Gz β G hz (YV V nt ds { m with next:=nx }).objs.get/\(YV V nt ds { m with next:=nx }).next=nx:=by
 obtain⟨k1,k2,k3,k4⟩:=Z53 (nx0:=nx) n f;have g:∀id,ZR β (hL L m.objs.get ds) id->ZR β (YV V nt ds { m with next:=nx }).objs.get id:=fun id h=>⟨h.blk,h.hdr,by rw[<-k2];exact h.h⟩
 refine⟨⟨fun t d ht=>c.fr t d (by rw[k1];exact ht),k4 c.dom,c.sz,c.hr.eq fun i=>(k2 i).symm,fun id e=>g id (c.fresh id (by rw[<-k3];exact e)),c.df⟩,⟨c.go.ext,fun id e l=>?_⟩,k3⟩
 obtain⟨q1,q2,q3⟩:=c.go.keep id e l;exact⟨by rw[<-k2];exact q1,q2,q3⟩
end
end Go.Ab
namespace Go.Ab
open Go.RowKit
section
variable {P:Program} {E:Env} {w0:World} {G0:Gh} {outer:DD} {own:List Nat} {V nt:Nat} {a:Act} {w:World} {β:Bi} {G:Gh} {ro:Option Nat} {n:Nat} {call:Nat->List DV->Option DV} {callH callY:Yi} {ops:Array Oper} {b:Nat} {m:Mid} {c:Nat}
theorem Za7 {p p':Nat->Bool}:∀{l:List Nat} {x:Nat},x∈l->p x=true->p' x=false->(∀y,p' y=true->p y=true)->l.countP p'+1<=l.countP p
 | [],_,h,_,_,_=>by cases h
 | y::l,x,h,h1,h2,h3=>by
  have a:l.countP p'<=l.countP p:=List.countP_mono_left fun z _ hz=>h3 z hz;rw[List.countP_cons,List.countP_cons];rcases jr.1 h with rfl|h
  ·rw[if_pos h1,if_neg (by rw[h2];simp)];omega
  ·have:=Za7 h h1 h2 h3
   by_cases e:p' y=true
   ·rw[if_pos e,if_pos (h3 y e)];omega
   ·rw[if_neg e];split<;>omega
def lst (listed:Array Bool) (j:Nat):Bool:=listed.getD j false
def cnt (N:Nat) (listed:Array Bool):Nat:=(List.range N).countP fun j => !lst listed j
theorem Zbg {listed:Array Bool} {i:Nat} (hi:i<listed.size) (j:Nat):lst (listed.setIfInBounds i true) j=if j=i then true else lst listed j:=by
 unfold lst
 by_cases e:j=i
 ·subst e;simp[hi]
 ·have:i≠j:=fun h=>e h.symm;simp[e,Array.getElem?_setIfInBounds_ne this]
theorem Zhi {listed:Array Bool} {i:Nat} (hi:i<listed.size) (a:lst listed i=false):cnt listed.size (listed.setIfInBounds i true)+1<=cnt listed.size listed:=by
 unfold cnt;refine Za7 (x:=i) (List.mem_range.2 hi) (by simp[a]) (by simp[Zbg hi]) fun y hy=>?_
 rw[Zbg hi]at hy
 by_cases e:y=i
 ·rw[if_pos e]at hy;simp at hy
 ·rw[if_neg e]at hy;exact hy
theorem Zgb {N:Nat} {listed:Array Bool} (h:cnt N listed=0):∀j,j<N->lst listed j=true:=fun j a=>by
 have:=List.countP_eq_zero.1 h j (List.mem_range.2 a);simpa using this
theorem Z7s {listed:Array Bool} (d:listed.size=ops.size) {j:Nat}:j∈Region.ready .any ops listed↔lst listed j=false/\∃o,ops[j]? = some o/\∀e∈o.after,Region.binds .any e=true->lst listed e.on=true:=by
 rw[mem_ready];constructor
 ·rintro⟨b,o,c,f⟩;have a:j<listed.size:=by rw[d];exact(ja.1 c).1
  refine⟨?_,o,c,f⟩;unfold lst;simp[a]at b⊢;exact b
 ·rintro⟨b,o,c,f⟩;have a:j<listed.size:=by rw[d];exact(ja.1 c).1
  refine⟨?_,o,c,f⟩;unfold lst at b;simp[a]at b⊢;exact b
theorem Zfn (hE:∀t ti,E.ty t=some ti->ZW P t ti) (hp:Z37 P E call) (hH:YX P E callH) (hY:Z1f P E callY) {Q:Exit->Act->World->Prop} {β0:Bi} {Gz:Gh} {hz:Nat->Option Zd} {m:Mid} {ds:List (Nat×YJ)} {nx:Nat} (g:Z38 E call callH callY V nt ops b m ops.size nx ds) (v:b+ops.size<=m.next)
  (x:∀a' w' β' G',MM E w0 G0 outer V nt own (YV V nt ds { m with next:=nx }) a' w' β' G'->Go2 b β0 Gz β' G' hz (YV V nt ds { m with next:=nx }).objs.get->Q .normal a' w') :
  ∀(fuel:Nat) (listed:Array Bool) (a:Act) (w:World) (β:Bi) (G:Gh),listed.size=ops.size->cnt ops.size listed<=fuel->DS E w0 G0 outer V nt own ops b nx m ds (lst listed) β0 Gz hz a w β G->wpAnyIn (fw ro) n P .any ops Q fuel listed a w:=by
 intro fuel
 induction fuel with
 | zero =>
  intro listed a w β G hsz hcnt hst;have c:=Zgb (Nat.le_zero.1 hcnt);have hr:Region.ready .any ops listed=[]:=by
   cases hrr:Region.ready .any ops listed with
   | nil=>rfl
   | cons j l =>
    obtain⟨h1,o,q,_⟩:=(Z7s (j:=j) hsz).1 (by rw[hrr];simp)
    rw[c j (ja.1 q).1]at h1;cases h1
  obtain⟨f1,f2,_⟩:=hst.full g fun j d p=>c j (ZbI g j d p);exact⟨hr,x a w β G f1 f2⟩
 | succ fuel ihf =>
  intro listed a w β G hsz hcnt hst;refine⟨fun hr=>?_,fun i hi=>?_⟩
  ·
   have c:∀j,j<ops.size->lst listed j=true:=fun j=>by
    induction j using Nat.strongRecOn with
    | _ j ihj =>
     intro p;obtain⟨d,tl,o,_,_,_,q,_⟩:=ZgY g j p;cases hlj:lst listed j with
     | true=>rfl
     | false =>
      have:j∈Region.ready .any ops listed:=(Z7s hsz).2 ⟨hlj,o,q.op,fun e z y=>ihj e.on (q.edges e z y) (by have:=q.edges e z y;omega)⟩
      rw[hr]at this;cases this
   obtain⟨f1,f2,_⟩:=hst.full g fun j d p=>c j (ZbI g j d p);exact x a w β G f1 f2
  ·obtain⟨s,o,r,u⟩:=(Z7s hsz).1 hi;have h:=(ja.1 r).1;have k:=Zbg (listed:=listed) (i:=i) (by omega)
   have f:cnt ops.size (listed.setIfInBounds i true)<=fuel:=by
    have:=Zhi (listed:=listed) (i:=i) (by omega) s
    rw[hsz]at this;omega
   exact ZhJ hE hp hH hY g h v s k r u hst fun a' w' β' G' hst'=>ihf _ a' w' β' G' (by simpa using hsz) f hst'
theorem ZdE (hE:∀t ti,E.ty t=some ti->ZW P t ti) (hp:Z37 P E call) (hH:YX P E callH) (hY:Z1f P E callY) {Q:Exit->Act->World->Prop} {m mf:Mid}
  (hd:Z19 E call callH callY V nt ops b 0 ops.toList m []=some mf) (z:b+ops.size<=m.next) (u:∀j,j<ops.size->ZR β m.objs.get (b+j)) (k:MM E w0 G0 outer V nt own m a w β G)
  (hq:∀a' w' β' G',m.next<=mf.next->MM E w0 G0 outer V nt own mf a' w' β' G'->Go2 b β G β' G' m.objs.get mf.objs.get->Q .normal a' w') :
  wpAnyIn (fw ro) n P .any ops Q ops.size (Array.replicate ops.size false) a w:=by
 obtain⟨nx,ds,v,rfl⟩:=Z4a (m:=m) ops.toList 0 mf m.next [] hd rfl ⟨rfl,rfl⟩ (Nat.zero_le _);have f:∀j,lst (Array.replicate ops.size false) j=false:=fun j=>by
  unfold lst
  by_cases e:j<ops.size
  ·simp[e]
  ·simp[e]
 obtain⟨s,c⟩:=ZbH v;have e1:∀(l:List (Nat×YJ)) t,Z1K (lst (Array.replicate ops.size false)) (ZZ V m.base m.loc) l t=ZZ V m.base m.loc t:=fun l t=>by
  induction l with
  | nil=>rfl
  | cons p l ihl =>
   obtain⟨i,e⟩:=p;simp only[Z1K,f i,jg,false_and,if_false];exact ihl
 have e2:∀(l:List (Nat×YJ)) id,hL (lst (Array.replicate ops.size false)) m.objs.get l id=m.objs.get id:=fun l id=>by
  induction l with
  | nil=>rfl
  | cons p l ihl =>
   obtain⟨i,e⟩:=p;simp only[hL,f i,jg,if_false];exact ihl
 have x:∀id,ZR β m.objs.get id->ZR β (hL (lst (Array.replicate ops.size false)) m.objs.get ds) id:=fun id h=>⟨h.blk,h.hdr,by rw[e2];exact h.h⟩
 have g:(YV V nt ds { m with next:=nx }).next=nx:=(Z53 (L:=fun _=>true) (nx0:=nx) v fun _ _ _=>rfl).2.2.1
 refine Zfn hE hp hH hY v z (fun a' w' β' G' h1 h2=>hq a' w' β' G' (by rw[g];exact s) h1 h2) ops.size _ a w β G (by simp) (by unfold cnt;exact Nat.le_trans (List.countP_le_length) (by simp))
  ⟨fun t d ht=>k.fr t d (by rw[<-e1];exact ht),k.dom,k.sz,k.hr.eq (e2 ds),fun id r=>x id (k.fresh id (by omega)),k.df,fun j q _=>x _ (u j q),(fun j d lo hi q y _ id h1 _=>x id (k.fresh id (by have:=(c j d lo hi q y).1;omega))),
   (fun j d q o=>by rw[f j]at o;cases o),⟨Ext.refl _ _,fun id r y=>⟨by rw[e2];exact y,rfl,fun _=>rfl⟩⟩⟩
end
end Go.Ab
namespace Go.Ab
open Go.RowKit
def ZiA:Ex->Exit
 | .normal=>.normal
 | .exit id=>.exit id
 | .ret=>.ret
 | .busy=>.outgrown
section
variable {P:Program} {E:Env} {w0:World} {G0:Gh} {outer:DD} {own:List Nat} {D:DD} {V nt:Nat} {a:Act} {w:World} {β:Bi} {G:Gh} {ro:Option Nat} {n:Nat} {h:Nat->Option Zd}
theorem Z5w {F:Fence} {c:Code} {Q:Exit->Act->World->Prop} (h:c.wpIn F n P (fun e a w=>match e with | .goto _=>False|e=>Q e a w) a w):(Code.scope c).wpIn F n P Q a w:=by
 intro b k cs o i hr;have f:(lone (b.atR a (.code (.scope c)::k)) cs w).fenced P F:=fenced_calm i hr rfl;have s1:step P (lone (b.atR a (.code (.scope c)::k)) cs w)=.next (lone (b.atR a (.code c::.inScope c::k)) cs w):=step_lone_go (by simp[stepG,stepG.exec,Frame.atR])
 obtain⟨e,a₁,w₁,g,d⟩:=h b (.inScope c::k) cs o i hr;cases e with
 | normal=>exact⟨.normal,a₁,w₁,g,.head f s1 (StepsIn.trans d (.one (fenced_calm i hr rfl) (step_lone_go (by simp[stepG,stepG.exec,Frame.atR]))))⟩
 | exit id =>
  have p:exitTo id (.inScope c::k)=exitTo id k:=by simp[exitTo]
  exact⟨.exit id,a₁,w₁,g,fun k' m=>.head f s1 (d.1 k' (by rw[p];exact m)),
   fun j m=>let⟨k₁,h1,h2⟩:=d.2 j (by rw[p];exact m);⟨k₁,h1,.head f s1 h2⟩⟩
 | goto l=>exact g.elim
 | ret=>exact⟨_,a₁,w₁,g,.of_steps (.one f s1) d⟩
 | panic ch=>exact⟨_,a₁,w₁,g,.of_steps (.one f s1) d⟩
 | outgrown=>exact⟨_,a₁,w₁,g,.of_steps (.one f s1) d⟩
theorem SS.mid {s:St} (b:SS E w0 G0 outer V nt own s a w β G) (k:Nat):MM E w0 G0 outer V nt own ⟨s.base,[],s.objs,s.next+k⟩ a w β G:=by
 refine⟨fun t d ht=>?_,b.dom,b.sz,b.hr,fun id c=>b.fresh id (by have:s.next+k<=id:=c;omega),b.df⟩
 unfold ZZ at ht;cases hv:Nat.testBit V t with
 | true=>rw[hv]at ht;exact b.fr t d ht
 | false=>rw[hv]at ht;cases ht
theorem MM.st {m:Mid} (b:MM E w0 G0 outer V nt own m a w β G):SS E w0 G0 outer V nt own ⟨m.base,m.objs,m.next⟩ a w β G:=by
 refine⟨fun t d ht=>b.fr t d ?_,b.dom,b.sz,b.hr,b.fresh,b.df⟩;unfold ZZ;rw[b.dom t d ht];exact ht
theorem SS.drew {s:St} (b:SS E w0 G0 outer V nt own s a w β G) (k:Nat):SS E w0 G0 outer V nt own s a { w with drawn:=k } β G :=
 ⟨b.fr,b.dom,b.sz,b.hr.drew k,b.fresh,b.df⟩
theorem HR.mark (hh:HR E w0 G0 D w β G h):HR E w0 G0 (YQ [w.heap.size] D) (w.alloc (.deferred (some []))) β G h:=by
 have c:∀b,b<w.heap.size->(w.alloc (.deferred (some []))).heap[b]? = w.heap[b]? := fun b f=>Below.heap_alloc w _ b f;refine⟨hh.below.alloc hh.below.size _,hh.g0,fun b o v k=>?_,fun i o hi=>?_,fun i o b hi f=>?_,hh.inj,fun d x g=>?_,hh.inv0⟩
 ·have hc:=hh.agree b o v k;have j:=block_lt_of_cell hc;exact(World.cell?_of_block (w:=w) (w':=w.alloc (.deferred (some []))) (a:=⟨b,o,none⟩) (c b j)).trans hc
 ·exact Z2p.keep (Ext.refl _ _) (fun _=>rfl) (fun b f=>⟨c b (hh.own i o b hi f).2.1,fun _=>rfl⟩) (hh.obj i o hi)
 ·obtain⟨k1,k2,k3⟩:=hh.own i o b hi f;refine⟨k1,by simp;omega,?_⟩
  unfold YQ;rw[if_neg (by simp;omega)]
  exact k3
 ·unfold YQ at g
  by_cases e:d=w.heap.size
  ·subst e;rw[if_pos (by simp)]at g
   cases g;exact⟨hh.below.size,heap_alloc_new w _,fun o=>glt hh (Nat.le_refl _) o⟩
  ·rw[if_neg (by simpa using e)]at g
   obtain⟨k1,k2,k3⟩:=hh.marks d x g;exact⟨k1,(c d (ja.1 k2).1).trans k2,k3⟩
theorem HR.drop (hh:HR E w0 G0 D w β G h) {id b:Nat} {o:Zd} {ob ob':Obj} (u:h id=some o) (m:Yu β id o b) (z:w.heap[b]? = some ob) (s:∀c t f,ob≠.cells c t f) :
  HR E w0 G0 D (w.putObj b ob') β G (fun i=>if i=id then none else h i):=by
 obtain⟨k1,_,k3⟩:=hh.own id o b u m;have g:∀i x,(if i=id then none else h i)=some x->i≠id/\h i=some x:=fun i x hi=>by
  by_cases e:i=id
  ·rw[if_pos e]at hi;cases hi
  ·rw[if_neg e]at hi;exact⟨e,hi⟩
 have l:∀i x c,i≠id->h i=some x->Yu β i x c->c≠b:=fun i x c hi n hc e=>hi (hh.inj i id x o b n u (e▸hc) m);refine⟨hh.below.trans ⟨rfl,rfl,rfl,by simp,fun k hk=>World.putObj_heap_other (by omega)⟩,hh.g0,fun c off v hg=>?_,fun i x hi=>?_,fun i x c hi hc=>?_,fun i j x y c hi hj hc q=>?_,fun d x r=>?_,hh.inv0⟩
 ·have hc:=hh.agree c off v hg
  by_cases e:c=b
  ·subst e;unfold World.cell? at hc;rw[z]at hc;cases ob<;>first|cases hc|exact absurd rfl (s _ _ _)
  ·exact(World.cell?_of_block (w:=w) (w':=w.putObj b ob') (a:=⟨c,off,none⟩) (World.putObj_heap_other e)).trans hc
 ·obtain⟨p,n⟩:=g i x hi;exact Z2p.keep (Ext.refl _ _) (fun _=>rfl) (fun c hc=>⟨World.putObj_heap_other (l i x c p n hc),fun _=>rfl⟩) (hh.obj i x n)
 ·obtain⟨p,n⟩:=g i x hi;obtain⟨m1,m2,m3⟩:=hh.own i x c n hc;exact⟨m1,by simpa using m2,m3⟩
 ·exact hh.inj i j x y c (g i x hi).2 (g j y hj).2 hc q
 ·obtain⟨m1,m2,m3⟩:=hh.marks d x r;exact⟨m1,(World.putObj_heap_other (fun e=>by rw[e,k3]at r;cases r)).trans m2,m3⟩
def ZfY (E:Env) (w0:World) (G0:Gh) (outer:DD) (V nt:Nat) (s:St) (β:Bi) (G:Gh) (ex:Ex) (s':St) (Q:Exit->Act->World->Prop):Prop :=
 ∀own' a' w' β' G',s.next<=s'.next->SS E w0 G0 outer V nt own' s' a' w' β' G'->Go2 s.next β G β' G' s.objs.get s'.objs.get->Q (ZiA ex) a' w'
def Za1 (rnd ro:Option Nat) (β:Bi):Prop:=match rnd with
 | none=>ro=none
 | some l=>∃b,ro=some b/\β.blk l=some b
theorem Za1.mono {rnd ro:Option Nat} {β':Bi} {G G':Gh} (d:Ext β G β' G') (h:Za1 rnd ro β):Za1 rnd ro β':=by
 cases rnd with
 | none=>exact h
 | some l=>obtain⟨b,a,c⟩:=h;exact⟨b,a,d.blk _ _ c⟩
theorem Zg4 {n0:Nat} {β β1 β':Bi} {G G1:Gh} {h l h':Nat->Option Zd} (m:∀id,n0<=id->ZR β h id) (e:Go2 n0 β G β1 G1 h l) (f:Z4C n0 β1 β') (n:∀i,i<n0->l i=none->h' i=none):Go2 n0 β G β' G1 h h':=by
 have j:∀id b,β.blk id=some b->id<n0:=fun id b a=>by
  rcases Nat.lt_or_ge id n0 with h|h
  ·exact h
  ·rw[(m id h).blk]at a;cases a
 have d:∀id u v,β.hdr id u=some v->id<n0:=fun id u v a=>by
  rcases Nat.lt_or_ge id n0 with h|h
  ·exact h
  ·rw[(m id h).hdr]at a;cases a
 refine⟨⟨e.ext.g,fun id b a=>?_,fun id u v a=>?_⟩,fun id c k=>?_⟩
 ·rw[f.blk id (j id b a)];exact e.ext.blk id b a
 ·rw[f.hdr id (d id u v a)];exact e.ext.hdr id u v a
 ·obtain⟨q1,q2,q3⟩:=e.keep id c k;exact⟨n id c q1,(f.blk id c).trans q2,fun u=>(f.hdr id c u).trans (q3 u)⟩
theorem Z91 {c:Code} {g:Z3G} {step:St->Option (Ex×St)} {rnd:Option Nat} {s0:St} {β0:Bi} {Gx:Gh} (j:∀id,s0.next<=id->ZR β0 s0.objs.get id)
  (b:∀s ex s',step s=some (ex,s')->∀own a w β G Q,Za1 rnd ro β->SS E w0 G0 outer V nt own s a w β G->ZfY E w0 G0 outer V nt s β G ex s' Q->c.wpIn (fw ro) n P Q a w) {ex:Ex} {s':St} {Q:Exit->Act->World->Prop}
  (f:Za1 rnd ro β0) (p:ZfY E w0 G0 outer V nt s0 β0 Gx ex s' Q) :
  ∀(m:Nat) (s:St) (own:List Nat) (a:Act) (w:World) (β:Bi) (G:Gh),iter (ZcG E g s0.next) step m s=some (ex,s')->SS E w0 G0 outer V nt own s a w β G->Go2 s0.next β0 Gx β G s0.objs.get s.objs.get->Code.roundsIn (fw ro) n P c Q m a w
 | 0,s,own,a,w,β,G,h,_,_=>by cases h
 | m+1,s,own,a,w,β,G,h,hm,hg=>by
  simp only[iter]at h;obtain⟨s1,q,h⟩:=Z0 h;obtain⟨⟨ex1,s2⟩,r,h⟩:=Z0 h;obtain⟨β1,k,l,d,o⟩:=ZdU q hm;have i:=Zg4 j hg l d;rw[roundsIn_succ];refine b s1 ex1 s2 r own a w β1 G _ (f.mono i.ext) k fun own' a' w' β' G' hl hm2 hg2=>?_;have e:=i.trans (hg2.less o);cases ex1 with
  | normal=>exact Z91 j b f p m s2 own' a' w' β' G' h hm2 e
  | _ =>
   simp only[jh,Prod.mk.injEq]at h;obtain⟨rfl,rfl⟩:=h;exact p own' a' w' β' G' (by omega) hm2 e
theorem ZdJ {hints:List Z3G} {bid:Nat} {s0 s:St} (h:(match(hints.find? fun h=>Nat.beq h.bid bid:Option Z3G)with
   | some b=>(Ym E s0.next 0 b.accs (s0.base,s0.objs)).bind fun r=>some (St.mk r.1 r.2 (s0.next+b.accs.length))
   | none=>some s0)=some s) (c:SS E w0 G0 outer V nt own s0 a w β G):∃β',SS E w0 G0 outer V nt own s a w β' G/\Go2 s0.next β G β' G s0.objs.get s.objs.get/\s0.next<=s.next:=by
 split at h
 ·rename_i b _;obtain⟨r,hr,h⟩:=Z0 h;cases h;obtain⟨β',k1,k2,k3,k4,k5,k6,k7⟩:=Z2g a.tmps V b.accs 0 s0.base s0.objs β r hr c.hr c.fr c.dom (fun i hi _=>c.fresh i hi) (fun i hi=>(c.fresh i (by omega)).h)
  refine⟨β',⟨k4,k5,c.sz,k3,fun i hi=>k6 i (by simpa using hi),c.df⟩,⟨k1,fun id d e=>⟨k7 id d e,k2.blk id d,fun u=>k2.hdr id d u⟩⟩,by show s0.next<=s0.next+b.accs.length;omega⟩
 ·cases h;exact⟨β,c,Go2.refl _ _ _ _,Nat.le_refl _⟩
theorem Zca {s:St} {fid:Nat} {F:FI} (n:E.fn fid=some F) (c:SS E w0 G0 outer F.vmask F.nt own s a w β G) (m:∀b,ro=some b->∃r,w.heap[b]? = some (.loop r)) (fn:FuncId) (ps:Array Tmp) (assign body:Code) (bid:Nat) :
  ∃l mark w1 own1 β2,(Instr.enterLoop fn a.tmps ps assign body ro).run P w=.ok (l,mark) w1/\(Z87 E own1 (mark++a.defers)/\ZaO own1 outer)/\Ext β G β2 G/\β2.blk s.next=some l ∧
   HR E w0 G0 (YQ own1 outer) w1 β2 G (ZJ s.objs.get [(s.next,some (.loop fid s.base ps.toList assign body bid .normal))])/\Z2E β β2 s.objs.get (ZJ s.objs.get [(s.next,some (.loop fid s.base ps.toList assign body bid .normal))]) s.next:=by
 have g:=c.fresh s.next (Nat.le_refl _);have f:∀(w':World) (D:DD) (df:Nat),HR E w0 G0 D w' β G s.objs.get->∀β',Ext β G β' G->β'.blk s.next=some w'.heap.size →
   Z2p E w0.heap.size (w'.alloc (.loop { state:=.ready,pending:=none,fn,tmps:=a.tmps,params:=ps,assign,body,defers:=df })) β' G s.next (.loop fid s.base ps.toList assign body bid .normal):=fun w' D df _ β' hx d =>
  ⟨_,a.tmps,df,fn,F,d,by rw[heap_alloc_new];simp[YU],c.fr.mono hx,n,c.sz,c.dom⟩
 cases ro with
 | none =>
  have e:=c.hr.mark;obtain⟨β2,h,i,j,k⟩:=e.lay g (.loop { state:=.ready,pending:=none,fn,tmps:=a.tmps,params:=ps,assign,body,defers:=w.heap.size }) (.loop fid s.base ps.toList assign body bid .normal) (by simp) (f _ _ _ e)
  refine⟨w.heap.size+1,[ZgB w.heap.size],_,w.heap.size::own,β2,run_enterLoop_outer fn a.tmps ps assign body,⟨Z87.mark _ c.df.1,List.nodup_cons.2 ⟨(Z4k (c.hr.dfree (Nat.le_refl _))).1,c.df.2.1⟩,fun b d=>?_⟩,h,by simpa using i,by rw[Z5F];exact j,k⟩
  rcases jr.1 d with rfl|d
  ·exact(Z4k (c.hr.dfree (Nat.le_refl _))).2
  ·exact c.df.2.2 b d
 | some b =>
  obtain⟨r,hr⟩:=m b rfl;obtain⟨β2,h,i,j,k⟩:=c.hr.lay g (.loop { state:=.ready,pending:=none,fn,tmps:=a.tmps,params:=ps,assign,body,defers:=r.defers }) (.loop fid s.base ps.toList assign body bid .normal) (by simp) (f _ _ _ c.hr)
  refine⟨w.heap.size,[],_,own,β2,?_,⟨by simpa using c.df.1,c.df.2⟩,h,i,j,k⟩
  unfold Instr.enterLoop;simp only[jy,run_getLoop hr,run_newObj_alloc,Result.andThen,Sem.run_pure]
theorem Zf9 {E:Env} {w0:World} {G0:Gh} {outer:DD} {own:List Nat} {V nt m:Nat} {s:St} {a:Act} {w:World} {β:Bi} {G:Gh} (h:SS E w0 G0 outer V nt own s a w β G):SS E w0 G0 outer V nt own (s.keep m) a w β G :=
 ⟨fun t d ht=>h.fr t d (Tr.filt_sub ht),fun t d ht=>h.dom t d (Tr.filt_sub ht),h.sz,h.hr,h.fresh,h.df⟩
theorem Z92 (F:FI) (id:Nat) (s:St):(s.keepX F id).objs=s.objs/\(s.keepX F id).next=s.next:=by
 unfold St.keepX;cases F.xm.find? fun p=>Nat.beq p.1 id<;>exact⟨rfl,rfl⟩
theorem Zh1 {E:Env} {w0:World} {G0:Gh} {outer:DD} {own:List Nat} {V nt:Nat} {F:FI} {id:Nat} {s:St} {a:Act} {w:World} {β:Bi} {G:Gh} (h:SS E w0 G0 outer V nt own s a w β G):SS E w0 G0 outer V nt own (s.keepX F id) a w β G:=by
 unfold St.keepX;cases F.xm.find? fun p=>Nat.beq p.1 id with
 | none=>exact h
 | some p=>exact Zf9 h
theorem Z79 (hE:∀t ti,E.ty t=some ti->ZW P t ti) (b9:P.follows .mixedOrders=true) {call:Nat->List DV->Option DV} (hp:Z37 P E call) {callH callY:Yi} (hH:YX P E callH) (hY:Z1f P E callY)
  {rnd:Option Nat} {fid:Nat} {F:FI} (hF:E.fn fid=some F) (fuel:Nat):∀(c:Code) (bid:Nat) (s:St) (ex:Ex) (s':St),evC E rnd fid F call callH callY fuel bid c s=some (ex,s') →
   ∀(own:List Nat) (a:Act) (w:World) (β:Bi) (G:Gh) (Q:Exit->Act->World->Prop),Za1 rnd ro β->SS E w0 G0 outer F.vmask F.nt own s a w β G->ZfY E w0 G0 outer F.vmask F.nt s β G ex s' Q->c.wpIn (fw ro) n P Q a w:=by
 intro c
 induction c with
 | skip =>
  intro bid s ex s' h own a w β G Q _ m k;simp only[evC,jh,Prod.mk.injEq]at h;obtain⟨rfl,rfl⟩:=h;exact wpIn_skip (k own a w β G (Nat.le_refl _) m (Go2.refl _ _ _ _))
 | label l =>
  intro bid s ex s' h own a w β G Q _ m k;simp only[evC,jh,Prod.mk.injEq]at h;obtain⟨rfl,rfl⟩:=h;exact wpIn_label (k own a w β G (Nat.le_refl _) m (Go2.refl _ _ _ _))
 | ret =>
  intro bid s ex s' h own a w β G Q _ m k;simp only[evC,jh,Prod.mk.injEq]at h;obtain⟨rfl,rfl⟩:=h;exact wpIn_ret (k own a w β G (Nat.le_refl _) (Zf9 m) (Go2.refl _ _ _ _))
 | exit id =>
  intro bid s ex s' h own a w β G Q _ m k;simp only[evC,jh,Prod.mk.injEq]at h;obtain⟨rfl,rfl⟩:=h;refine wpIn_exit (k own a w β G ?_ ?_ ?_)
  ·rw[(Z92 F id s).2];exact Nat.le_refl _
  ·exact Zh1 m
  ·rw[(Z92 F id s).1];exact Go2.refl _ _ _ _
 | scope c ih =>
  intro bid s ex s' h own a w β G Q hr m k;simp only[evC]at h;refine Z5w (ih bid s ex s' h own a w β G _ hr m fun own' a' w' β' G' q h2 h3=>?_);have:=k own' a' w' β' G' q h2 h3;cases ex<;>exact this
 | block id c ih =>
  intro bid s ex s' h own a w β G Q hr m k;simp only[evC]at h;obtain⟨⟨ex1,s1⟩,q,h⟩:=Z0 h;refine wpIn_block (ih id s ex1 s1 q own a w β G _ hr m fun own' a' w' β' G' k1 k2 k3=>?_);cases ex1 with
  | exit i =>
   simp only[ZiA,Exit.inBlock];simp only[Tr.beq_dec]at h
   by_cases e:i=id
   ·simp only[e,decide_true,jB,jh,Prod.mk.injEq]at h;obtain⟨rfl,rfl⟩:=h;rw[if_pos e];exact k own' a' w' β' G' k1 k2 k3
   ·simp only[e,decide_false,jA,jh,Prod.mk.injEq]at h;obtain⟨rfl,rfl⟩:=h;rw[if_neg e];exact k own' a' w' β' G' k1 k2 k3
  | _ =>
   simp only[jh,Prod.mk.injEq]at h;obtain⟨rfl,rfl⟩:=h;exact k own' a' w' β' G' k1 k2 k3
 | seq x y ihx ihy =>
  intro bid s ex s' h own a w β G Q hr m k;simp only[evC]at h;obtain⟨⟨ex1,s1⟩,q,h⟩:=Z0 h;refine wpIn_seq (ihx bid s ex1 s1 q own a w β G _ hr m fun own' a' w' β' G' k1 k2 k3=>?_);cases ex1 with
  | normal =>
   refine ihy bid s1 ex s' h own' a' w' β' G' Q (hr.mono k3.ext) k2 fun own'' a'' w'' β'' G'' m1 m2 m3=>?_;exact k own'' a'' w'' β'' G'' (Nat.le_trans k1 m1) m2 (k3.trans (m3.less k1))
  | _ =>
   simp only[jh,Prod.mk.injEq]at h;obtain⟨rfl,rfl⟩:=h;exact k own' a' w' β' G' k1 k2 k3
 | cond x c d ihc ihd =>
  intro bid s ex s' h own a w β G Q hr m k;simp only[evC]at h;split at h
  ·rename_i t ht;have hv:=ZL.1 (Zq m.fr ht);cases t with
   | true=>exact wpIn_cond hv (ihc bid s ex s' h own a w β G Q hr m k)
   | false=>exact wpIn_cond hv (ihd bid s ex s' h own a w β G Q hr m k)
  ·cases h
 | loop c ih =>
  intro bid s ex s' h own a w β G Q hr m k;simp only[evC]at h;obtain⟨hint,_,h⟩:=Z0 h;exact wpIn_loop_rounds fuel (Z91 (rnd:=rnd) m.fresh (fun s1 ex1 s2 q own1 a1 w1 β1 G1 Q1 r1 m1 q1=>ih bid s1 ex1 s2 q own1 a1 w1 β1 G1 Q1 r1 m1 q1) hr k fuel s own a w β G h m (Go2.refl _ _ _ _))
 | region id ops draw =>
  intro bid s ex s' h own a w β G Q hr m k;simp only[evC]at h;obtain⟨s1,q,h⟩:=Z0 h;simp only[jh,Prod.mk.injEq]at h;obtain⟨rfl,rfl⟩:=h;unfold Z2r at q;obtain⟨mf,h2,q⟩:=Z0 q;cases q;cases draw with
  | false =>
   refine wpIn_region_list (Z41 hE (df:=rnd.isNone) (fun k=>by cases rnd with|none=>exact hr|some l=>cases k) hp hH hY ops.toList 0 _ mf a w β G h2 (by simp) (fun j _ _=>m.fresh _ (by omega)) (m.mid ops.size) fun a' w' β' G' k1 k2 k3=>?_)
   exact k own a' w' β' G' (Nat.le_trans (Nat.le_add_right _ _) k1) k2.st k3
  | true =>
   refine wpIn_region_any b9 (ZdE hE hp hH hY h2 (Nat.le_refl _) (fun j _=>m.fresh _ (by omega)) ((m.drew _).mid ops.size) fun a' w' β' G' k1 k2 k3=>?_)
   exact k own a' w' β' G' (Nat.le_trans (Nat.le_add_right _ _) k1) k2.st k3
 | rangeFunc f ps assign body _ _ =>
  intro bid s0 ex s' h own a w β G Q hr m k;simp only[evC]at h;obtain⟨a9,h⟩:=Z3 h;obtain⟨s,a8,h⟩:=Z0 h;obtain⟨β1,p,hg1,hle1⟩:=ZdJ a8 m;obtain⟨fv,hfv,h⟩:=Z0 h;split at h
  ·rename_i g first caps
   obtain⟨⟨rv,objs',nx'⟩,a6,h⟩:=Z0 h;simp only at h;obtain⟨b4,hcs⟩:=hH _ _ _ _ _ _ _ a6;obtain⟨vf,vc,hv,hr1,hr2⟩:=Zby.1 (Zq p.fr hfv);have hro:∀b,ro=some b->∃r,w.heap[b]? = some (.loop r):=fun b hb=>by
    cases rnd with
    | none=>rw[show ro=none from hr]at hb;cases hb
    | some lo =>
     obtain⟨b',e1,e2⟩:=hr;rw[e1]at hb;cases hb;simp only[Z6z]at a9;split at a9
     ·rename_i hlo;obtain⟨b2,_,_,_,_,k1,k2,_⟩:=m.hr.obj lo _ hlo;rw[e2]at k1;cases k1;exact⟨_,k2⟩
     ·cases a9
   refine wpIn_rangeFunc fun fn _=>?_;obtain⟨l,mark,w1,own1,β2,c0,hdf,a2,b7,hh2,hk2⟩:=Zca (P:=P) (ro:=ro) hF p hro fn ps assign body bid;have a5:∀i,(s.objs.set s.next (some (.loop fid s.base ps.toList assign body bid .normal))).get i=ZJ s.objs.get [(s.next,some (.loop fid s.base ps.toList assign body bid .normal))] i:=fun i=>by rw[Tr.get_set,ZU]
   have a3:∀id,id≠s.next->Z15 β1 β2 s.objs.get (s.objs.set s.next (some (.loop fid s.base ps.toList assign body bid .normal))).get id:=fun id u hf=>by
    obtain⟨q1,q2,q3⟩:=hk2 id u hf;exact⟨by rw[a5];exact q1,q2,q3⟩
   have b0:Zi β2 G (first++[.yld s.next]++caps) (vf.toArray ++ #[Value.func (.yield l) #[] #[]]++vc.toArray).toList:=by
    have:=Z2W (Z2W (Zi.mono a2 _ _ hr1) (Zb.2 ⟨_,[],rfl,Zf1.2 ⟨l,b7,rfl⟩,Zm.2 rfl⟩)) (Zi.mono a2 _ _ hr2);simpa using this
   have hC:=hcs w0 G0 (YQ own1 outer) w1 β2 G _ (hh2.eq a5) (fun id u=>(a3 id (by omega)).fresh (p.fresh id (by omega))) b0
   refine⟨l,mark,w1,{ target:=.fn (.func g) vc.toArray,args:=vf.toArray ++ #[.func (.yield l) #[] #[]] },w1,g,_,w1,c0,?_,fun _ _=>trivial,b4 _ _,fun k=>by simp[fw,Fence.wide]at k,Z6k (Calls.mono hC fun e w' he=>?_)⟩
   ·have c3:a.eval (.const (.func (.yield l) #[] #[]))=.func (.yield l) #[] #[]:=rfl;simp[resolve,hv,Deferred.ofValue,c3]
   ·obtain⟨v,β3,G3,rfl,hle3,o,b5,b1,_⟩:=he;split at h
    ·rename_i fid' bs' ps' as' bo' bid' ex' b6;obtain⟨b3,tm3,df3,fn3,F3,k1,k2,_⟩:=b5.obj s.next _ b6;have c1:β3.blk s.next=some l:=o.ext.blk _ _ b7;rw[c1]at k1;cases k1;have a7:=b5.drop (ob':=.loop { state:=.exhausted,pending:=YU ex',fn:=fn3,tmps:=tm3,params:=ps'.toArray,assign:=as',body:=bo',defers:=df3 }) b6 c1 k2 (by simp)
     have a0:(ex',({ s with objs:=objs'.set s.next none,next:=nx' }:St))=(ex,s')/\ex'≠.busy:=by
      cases ex'<;>simp only[jh,reduceCtorEq]at h<;>exact⟨h,by simp⟩
     obtain⟨a0,c2⟩:=a0;simp only[Prod.mk.injEq]at a0;obtain⟨rfl,rfl⟩:=a0;have z:∀i,(objs'.set s.next none).get i=if i=s.next then none else objs'.get i:=fun i=>Tr.get_set _ _ _ _;have a4:∀id,Z15 β3 β3 objs'.get (objs'.set s.next none).get id:=fun id hf=>⟨by
      rw[z]
      by_cases e:id=s.next
      ·rw[if_pos e]
      ·rw[if_neg e];exact hf,rfl,fun _=>rfl⟩
     have b8:(Instr.endLoop l).run P w'=.ok (YU ex') (w'.putObj l (.loop { state:=.exhausted,pending:=YU ex',fn:=fn3,tmps:=tm3,params:=ps'.toArray,assign:=as',body:=bo',defers:=df3 })) :=
      run_endLoop k2 (by cases ex'<;>simp at c2⊢)
     have hQ:=k own1 { a with defers:=mark++a.defers } (w'.putObj l (.loop { state:=.exhausted,pending:=YU ex',fn:=fn3,tmps:=tm3,params:=ps'.toArray,assign:=as',body:=bo',defers:=df3 })) β3 G3 (by show s0.next<=nx';omega)
      ⟨p.fr.mono (a2.trans o.ext),p.dom,p.sz,a7.eq z,fun id u=>(a4 id).fresh (b1 id u),hdf⟩
      (hg1.trans ⟨a2.trans o.ext,fun id u=>((a3 id (by omega)).trans (o.keep id (by omega))).trans (a4 id)⟩)
     refine⟨_,_,b8,?_⟩;cases ex' with
     | normal=>exact hQ
     | exit i=>exact wpIn_exit hQ
     | ret=>exact wpIn_ret hQ
     | busy=>exact absurd rfl c2
    ·cases h
  ·cases h
 | _ =>
  intro bid s ex s' h own a w β G Q hr m k;simp[evC]at h
end
end Go.Ab
