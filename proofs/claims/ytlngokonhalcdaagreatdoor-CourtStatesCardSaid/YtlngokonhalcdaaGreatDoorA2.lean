/- What the code of the program comes to on plain values. -/
import Derived.Test.YtlngokonhalcdaaGreatDoorA1
import Derived.Lib.UnsafeStr
import Derived.TacticsIn
import Derived.LoopNIn
import Derived.RangeFuncLeaves
import Derived.OrdersIn
set_option linter.unusedSectionVars false
set_option linter.unusedVariables false
set_option linter.unusedSimpArgs false
namespace Go.Ab
open Go.RowKit
section
variable {P:Program} {E:Env} {w0:World} {G0:Gh} {D:DD} {o:Oper} {a:Act} {w:World} {β:Bi} {G:Gh} {h:Nat->Option Ze} {nid:Nat} {ρ:Nat->Option DV}
theorem YS {α:Type} {x:Array α} {l:List α} (h:x.toList=l):x=l.toArray:=by subst h;simp
theorem ZO.und {t:TypeId} {ti:TI} (ht:ZO P t ti):∃d,P.underlying t=some d:=by
 have e:=ht.desc;cases hkk:ti.k<;>rw[hkk]at e<;>simp only at e
 all_goals first
  | exact⟨_,e⟩
  | (obtain⟨f,e,_⟩:=e;exact⟨_,e⟩)
  | (obtain⟨a,b,c,e⟩:=e;exact⟨_,e⟩)
  | (obtain⟨a,e⟩:=e;exact⟨_,e⟩)
theorem Zjm {s:Sem Unit} {w':World} (c:execOp a.eval o=(do s;Pure.pure Next.skip)) (b:s.run P w=.ok () w'):(execOp a.eval o).run P w=.ok .skip w':=by
 rw[c];simp[b]
theorem Yn {s:Sem Value} {v:Value} {w':World} (c:execOp a.eval o=(do Pure.pure (Next.value (<-s)))) (b:s.run P w=.ok v w'):(execOp a.eval o).run P w=.ok (.value v) w':=by
 rw[c];simp[b]
theorem Z45:Rep β G (.tup []) undef:=Yv.2 ⟨[],rfl,Zj.2 rfl⟩
theorem ZgS (hh:HR E w0 G0 D w β G h) (a:ZH β h nid) (s:ByteArray) :
  ∃β',Ext β G β' G/\β'.blk nid=some w.heap.size/\HR E w0 G0 D (w.alloc (.stringIter s 0)) β' G (ZC h [(nid,some (.siter s 0))])/\Z2p β β' h (ZC h [(nid,some (.siter s 0))]) nid :=
 hh.lay a _ _ rfl fun β' _ hb=>⟨_,hb,heap_alloc_new w (.stringIter s 0)⟩
theorem ZiW (hh:HR E w0 G0 D w β G h) (b:ZH β h nid) (m bm n:Nat) (a:β.blk m=some bm) :
  ∃β',Ext β G β' G/\β'.blk nid=some w.heap.size/\HR E w0 G0 D (w.alloc (.mapIter (some bm) n #[] n)) β' G (ZC h [(nid,some (.mit m n []))])/\Z2p β β' h (ZC h [(nid,some (.mit m n []))]) nid :=
 hh.lay b _ _ rfl fun β' hx hb=>⟨_,bm,n,hb,hx.blk _ _ a,heap_alloc_new w (.mapIter (some bm) n #[] n),Nat.le_refl _⟩
theorem ZiT (hh:HR E w0 G0 D w β G h) (a:ZH β h nid) :
  ∃β',Ext β G β' G/\β'.blk nid=some w.heap.size/\HR E w0 G0 D (w.alloc (.map #[] 0)) β' G (ZC h [(nid,some (.map []))])/\Z2p β β' h (ZC h [(nid,some (.map []))]) nid :=
 hh.lay a _ _ rfl fun β' _ hb=>⟨_,_,_,hb,heap_alloc_new w (.map #[] 0),rfl,rfl,rfl⟩
theorem Z49 {l pos:Nat} {s:ByteArray} (h:w.heap[l]? = some (.stringIter s pos)):(getObj l).run P w=.ok (.stringIter s pos) w:=by simp[getObj,Sem.run,h]
theorem Za9 {l:Nat} {r:Obj} {ob:Obj} (h:w.heap[l]? = some ob) (hc:∀c t f,ob≠.cells c t f):(setObj l r).run P w=.ok () (w.putObj l r):=by
 cases ob<;>first|(exact absurd rfl (hc _ _ _))|simp[setObj,Sem.run,World.putObj,h]
theorem Zfm (hh:HR E w0 G0 D w β G h) {t:TypeId} {ti ei:TI} (ht:ZO P t ti) {e:Nat} (y:ti.k=.slice e) (he:ZO P e ei) {es:List (List DV)} {dx:DV} {u:Value} (a:ZW h dx=some es) (hr:Rep β G dx u)
  {lo hi:Option DV} {vlo vhi:Option Value} (hl:Z7v β G lo vlo) (o:Z7v β G hi vhi) {d:DV} (i:Zgb es ei.size dx lo hi=some d) :
  ∃r,(Instr.sliceAt t u vlo vhi none).run P w=.ok r w/\Rep β G d r:=by
 have f:=ht.desc;rw[y]at f;unfold Zgb at i;obtain⟨m,z,i⟩:=Z0 i;obtain⟨l,x,i⟩:=Z0 i;cases dx with
 | rs id ver =>
  simp only[ZW]at a;obtain⟨ob,n,a⟩:=Z0 a;split at a
  ·rename_i t' es' p u';obtain⟨q,a⟩:=Z3 a;cases a;have q:u'=ver:=je q;subst q;obtain⟨hdr,vals,k1,k2,_⟩:=hh.obj _ _ n;obtain⟨k5,_⟩:=Z1n.1 hr;rw[k1]at k5;cases k5;have j:∃A c,u=.slice A es.length c/\es.length<=c/\(es.length=0\/∃b,A=some ⟨b,0,none⟩):=by
    rcases k2.2 with⟨rfl,k⟩|⟨g,cap,cur,rfl,_,_,k,_⟩
    ·exact⟨none,0,by rw[k],by omega,.inl k⟩
    ·exact⟨_,cap,rfl,k,.inr ⟨g,rfl⟩⟩
   obtain⟨A,c,rfl,s,v⟩:=j;obtain⟨k1',k2',k3'⟩:=Z1T (P:=P) (w:=w) (isSlice:=true) hl o z x s;refine⟨.slice (if c=l then A else A.map (·.add (l*ei.size))) (m-l) (c-l),by simp[Instr.sliceAt,Instr.slice,ji f,k1',he.run_sizeOf],?_⟩
   cases i;refine Zcj.2 ⟨A,es.length,c,_,c-l,k1,rfl,by omega,by omega,?_⟩
   by_cases hml:m-l=0
   ·exact .inl hml
   ·rcases v with v|⟨b,rfl⟩
    ·omega
    ·refine .inr ⟨b,rfl,?_⟩;rw[if_neg (by omega)]
     simp[Yf]
  ·cases a
 | _=>cases i
theorem Zam:∀{es:List (List DV)} {l:List UInt8},Z7t es=some l->es=l.map fun b=>[DV.int .u8 b.toNat]
 | [],l,h=>by cases h;rfl
 | e::es,l,h=>by
  unfold Z7t at h;split at h
  ·rename_i a;cases a
  ·rename_i n es' a;cases a;obtain⟨c,h⟩:=Z3 h;simp only[jn,jk]at c;obtain⟨l',d,h⟩:=Z0 h;cases h;rw[jr,<-Zam d];have:((UInt8.ofNat n.toNat).toNat:Int)=n:=by
    rw[UInt8.toNat_ofNat_of_lt' (by simp[UInt8.size];omega)];omega
   rw[this]
  ·cases h
theorem ZaJ:∀(l:List UInt8) (vals:List Value),Zh β G (l.map fun b=>[DV.int .u8 b.toNat]).flatten vals->vals=l.map fun x=>Value.int .u8 x.toNat
 | [],vals,h=>Zj.1 h
 | b::l,vals,h=>by
  obtain⟨v,vs,rfl,c,a⟩:=Zd.1 h;rw[Zy.1 c,ZaJ l vs a];rfl
theorem Z4o (w:World) (p:Addr) (n:Nat) {b:Nat} (a:b≠p.block):(w.freeze p n).heap[b]? = w.heap[b]? := by
 unfold World.freeze;split
 ·rfl
 ·simp only[Array.getElem?_modify];rw[if_neg (fun e=>a e.symm)]
theorem Zd3 (w:World) (p:Addr) (n:Nat) (x:Addr):(w.freeze p n).cell? x=w.cell? x:=by
 by_cases hb:x.block=p.block
 ·unfold World.freeze;split
  ·rfl
  ·unfold World.cell?;simp only[Array.getElem?_modify,hb,if_true];cases hg:w.heap[p.block]? with
   | none=>rfl
   | some ob=>cases ob<;>rfl
 ·exact World.cell?_of_block (Z4o w p n hb)
theorem Zd4 (w:World) (p:Addr) (n:Nat):(w.freeze p n).heap.size=w.heap.size:=by
 unfold World.freeze;split
 ·rfl
 ·simp
theorem HR.dropRow (hh:HR E w0 G0 D w β G h) {id e:Nat} {es:List (List DV)} {p u:Nat} (t:h id=some (.row e es p u)) {g:Nat} (k:Yi β id (.row e es p u) g) (n:Nat):HR E w0 G0 D (w.freeze ⟨g,0,none⟩ n) β G (ZC h [(id,none)]):=by
 obtain⟨k1,_,k3⟩:=hh.own id _ g t k;have a:∀i x,ZC h [(id,none)] i=some x->i≠id/\h i=some x:=fun i x hi=>by
  rw[ZD]at hi
  by_cases e:i=id
  ·rw[if_pos e]at hi;cases hi
  ·rw[if_neg e]at hi;exact⟨e,hi⟩
 have f:∀i x c,i≠id->h i=some x->Yi β i x c->c≠g:=fun i x c hi l hc q=>hi (hh.inj i id x _ g l t (q▸hc) k);refine⟨Lib.below_freeze hh.below k1 n,hh.g0,fun b o v z=>by rw[Zd3];exact hh.agree b o v z,fun i x hi=>?_,fun i x c hi hc=>?_,fun i j x y c hi hj hc s=>hh.inj i j x y c (a i x hi).2 (a j y hj).2 hc s,fun d x r=>?_,hh.inv0⟩
 ·obtain⟨m,l⟩:=a i x hi;exact Z1Q.keep (Ext.refl _ _) (fun _=>rfl) (fun c hc=>⟨Z4o w _ n (f i x c m l hc),fun _=>rfl⟩) (hh.obj i x l)
 ·obtain⟨m,l⟩:=a i x hi;obtain⟨m1,m2,m3⟩:=hh.own i x c l hc;exact⟨m1,by rw[Zd4];exact m2,m3⟩
 ·obtain⟨m1,m2,m3⟩:=hh.marks d x r;exact⟨m1,(Z4o w _ n (fun q=>by rw[q,k3]at r;cases r)).trans m2,m3⟩
theorem Zgo {id:Nat} {x:Ze} (c:h id=some x):Z2p β β h (ZC h [(id,none)]) nid:=fun i _ a=>by
 have b:i≠id:=fun q=>by rw[q,c]at a;cases a
 exact⟨by rw[ZD,if_neg b];exact a,rfl,fun _=>rfl⟩
theorem Z7l (ats:Array TypeId) (ty:TypeId):(Builtin.unsafeSliceData_ ats ty #[.slice none 0 0]).run P w=.ok (.pointer none) w:=rfl
theorem ZaD (ats:Array TypeId) (ty:TypeId) (a:Addr) (n c:Nat) (hc:c≠0):(Builtin.unsafeSliceData_ ats ty #[.slice (some a) n c]).run P w=.ok (.pointer (some a)) w:=by
 have h:Builtin.unsafeSliceData_ ats ty #[.slice (some a) n c]=(if c≠0 then(pure (.pointer (some a)):Sem Value)else(do
   if(<-viewAt a.block).isSome then pure (.pointer (some a))else pure (.pointer (some ⟨<- newObj (.view a (<-elemOf ty)),0,none⟩)))):=rfl
 rw[h,if_pos hc];rfl
theorem Zgq (hE:∀t ti,E.ty t=some ti->ZO P t ti) (hf:FrM β G ρ a.tmps) (hh:HR E w0 G0 D w β G h) (hfr:ZH β h nid) {c:Call} (ho:o.op=.call c) {r:Out}
  (f:ZB E nid ρ h (.call c)=some r):Y3 P E w0 G0 D o a w β G h nid r:=by
 have q:∀b,c.callee=.builtin b->∃cs,execOp a.eval o=Go.builtin b c.argTypes o.type cs (c.args.map a.eval):=fun b hb=>by
  refine⟨c.args.map fun | .const _=>true|_=>false,?_⟩;unfold execOp;rw[ho];simp[resolve,hb,invoke];rfl
 simp only[ZB]at f;split at f
 ·rename_i hb;split at f
  ·rename_i x t ts hx ht;obtain⟨ti,hti,f⟩:=Z0 f;obtain⟨d,y,f⟩:=Z0 f;obtain⟨u,hu,f⟩:=Z0 f;cases f;have hts:c.argTypes[0]? = some t:=by rw[YS ht];simp
   obtain⟨v,h1,h2⟩:=Zgy (ty:=o.type) hh (hE t ti hti) hts hu (Zp hf y);refine Y3.pure hh (v:=v) ?_ h2;obtain⟨cs,hcs⟩:=q _ hb;rw[hcs,YS hx];simp[Go.builtin,h1]
  ·cases f
 ·rename_i hb;split at f
  ·rename_i s x t t' hx ht;obtain⟨ds,hds,f⟩:=Z0 f;obtain⟨dx,y,f⟩:=Z0 f;obtain⟨v,w',β',h1,h2,h3,h4,h5⟩:=Z6E (ty:=o.type) hE hh hfr (Zp hf hds) (Zp hf y) f;refine⟨.value v,v,w',β',G,?_,.inl rfl,h2,h3,h4,h5⟩;obtain⟨cs,hcs⟩:=q _ hb;rw[hcs,YS hx,YS ht];simp[Go.builtin,h1]
  ·cases f
 ·rename_i hb;obtain⟨cs,hcs⟩:=q _ hb;split at f
  ·rename_i x hx;obtain⟨d,y,f⟩:=Z0 f;have hr:=Zp hf y;split at f
   ·obtain rfl:=Z1u f;rw[Z1t]at hr;refine Y3.pure hh (v:=.pointer none) ?_ (Z7g.2 rfl);rw[hcs,YS hx];simp only[List.map_toArray,jr,List.map_nil,hr,Go.builtin,jz,Z7l];rfl
   ·rename_i id v;obtain⟨ob,ho2,f⟩:=Z0 f;split at f
    ·rename_i e c es p u;obtain⟨hq,f⟩:=Z3 f;obtain rfl:=je hq;obtain rfl:=Z1u f;obtain⟨hdr,vals,h1,h2,_⟩:=hh.obj id _ ho2;obtain⟨hv,_⟩:=Z1n.1 hr;rw[hv]at h1;cases h1;rcases h2.2 with⟨_,hz⟩|⟨g,cap,cur,hg,_,_,hn,_⟩
     ·simp at hz
     ·have hc0:cap≠0:=by simp only[List.length_cons]at hn;omega
      rw[hg]at hv;refine Y3.pure hh (v:=.pointer (some ⟨g,0,none⟩)) ?_ (Z1X.2 ⟨g,_,cap,hv,by simp⟩)
      rw[hcs,YS hx];simp only[List.map_toArray,jr,List.map_nil,hg,Go.builtin,jz,ZaD _ _ _ _ _ hc0];rfl
    ·cases f
   ·cases f
  ·cases f
 ·rename_i hb;obtain⟨cs,hcs⟩:=q _ hb;split at f
  ·rename_i x n t t' hx ht;obtain⟨dx,y,f⟩:=Z0 f;obtain⟨dn,hdn,f⟩:=Z0 f;obtain⟨ti,hti,f⟩:=Z0 f;have hr:=Zp hf y;have hrn:=Zp hf hdn;have hu:=(hE t ti hti).desc;split at f
   ·obtain rfl:=Z1u f;rw[Z7g]at hr;rw[Zy]at hrn;refine Y3.pure hh (v:=.string .empty) ?_ (Yj.2 rfl);rw[hcs,YS hx,YS ht];simp[Go.builtin,hr,hrn,Lib.run_unsafeString_none]
   ·rename_i id v k e _ _ _;have hk:ti.k=TK.ptr e:=by assumption
    rw[hk]at hu;obtain⟨ob,ho2,f⟩:=Z0 f;split at f
    ·rename_i e' es p u;obtain⟨hq,hdz⟩:=Z3 f;clear f;simp only[jn]at hq;obtain⟨⟨⟨⟨q1,q2⟩,q3⟩,q4⟩,q5⟩:=hq;obtain rfl:=je q1;obtain rfl:=je q2;have q3:k=(es.length:Nat):=by simpa using q3
     subst q3;have q4:0<es.length:=jf q4;have q5:=jf q5;obtain⟨l,hl,hdz⟩:=Z0 hdz;cases hdz;have hes:=Zam hl;obtain⟨hdr,vals,h1,h2,h3,h4,h5,h6,h7⟩:=hh.obj id _ ho2;obtain⟨b,m,c,hv,he⟩:=Z1X.1 hr;rw[hv]at h1;cases h1;have hll:es.length=l.length:=by rw[hes];simp
     have a0:Yq E e=1:=by
      rw[<-(h4 _ (jl q4)).1];simp only[hes,List.getElem_map];rfl
     have hcell:P.cellsOf e=1:=by
      unfold Yq at a0;cases hte:E.ty e with
      | none=>rw[hte]at a0;cases a0
      | some ei =>
       rw[hte]at a0;obtain⟨i,z,k1,k2,_⟩:=(hE e ei hte).info;simp[Program.cellsOf,k1,k2];exact a0
     rcases h2.2 with⟨hg,_⟩|⟨g,cap,cur,hg,_,hgc,hn,_,hcs2,htk⟩
     ·cases hg
     ·cases hg;rw[a0,Nat.mul_one]at htk;rw[a0,Nat.mul_one]at hcs2;have hvals:vals=l.map fun x=>Value.int .u8 x.toNat:=by
       rw[hes]at h3;exact ZaJ l vals h3
      have hcur:∀(j:Nat) (x:UInt8),l[j]? = some x->cur[j]? = some (Value.int .u8 x.toNat):=fun j x hj=>by
       have:vals[j]? = some (Value.int .u8 x.toNat):=by rw[hvals,List.getElem?_map,hj];rfl
       rw[<-htk,List.getElem?_take]at this;split at this
       ·simpa using this
       ·cases this
      have hrun:=Lib.run_unsafeString_row (P:=P) w t t' o.type e hu hcell b cur.size (by simp[World.shape?,hgc]) l (fun hn=>by rw[hn]at hll;rw[hll]at q4;exact absurd q4 (by simp)) (by omega) (by omega) (fun j x hj=>by
       rw[Yf];simp[World.cell?,hgc,hcur j x hj])
      refine⟨.value (.string ⟨l.toArray⟩),_,w.freeze ⟨b,0,none⟩ l.length,β,G,?_,.inl rfl,fun d f=>by cases f;exact Yj.2 rfl,Ext.refl β G,hh.dropRow ho2 ⟨_,_,hv⟩ _,Zgo ho2⟩
      rw[hcs,YS hx,YS ht];rw[Zy]at hrn;rw[hll]at hrn;have he:a.eval x=.pointer (some ⟨b,0,none⟩):=by simpa using he
      simp[Go.builtin,he,hrn,hrun]
    ·cases f
   ·cases f
  ·cases f
 ·rename_i hb;obtain⟨vs,hvs,f⟩:=Z0 f;split at f
  ·rename_i x xs;obtain⟨d,hdd,f⟩:=Z0 f;cases f;have hr:=Z1H hf hvs;obtain⟨v,vs',he,hr1,hr2⟩:=Zd.1 hr;obtain⟨u,h1,h2⟩:=Z54 (P:=P) (w:=w) (β:=β) (G:=G) (g:=Builtin.min2) ZeJ hdd hr1 hr2;refine Y3.pure hh (v:=u) ?_ h2;obtain⟨cs,hcs⟩:=q _ hb;rw[hcs];simp[Go.builtin,Builtin.min_,he,h1]
  ·cases f
 ·rename_i hb;obtain⟨vs,hvs,f⟩:=Z0 f;split at f
  ·rename_i x xs;obtain⟨d,hdd,f⟩:=Z0 f;cases f;have hr:=Z1H hf hvs;obtain⟨v,vs',he,hr1,hr2⟩:=Zd.1 hr;obtain⟨u,h1,h2⟩:=Z54 (P:=P) (w:=w) (β:=β) (G:=G) (g:=Builtin.max2) ZeI hdd hr1 hr2;refine Y3.pure hh (v:=u) ?_ h2;obtain⟨cs,hcs⟩:=q _ hb;rw[hcs];simp[Go.builtin,Builtin.max_,he,h1]
  ·cases f
 ·cases f
theorem Zey (hE:∀t ti,E.ty t=some ti->ZO P t ti) (hf:FrM β G ρ a.tmps) (hh:HR E w0 G0 D w β G h) (hfr:ZH β h nid) {r:Out}
    (hd:ZB E nid ρ h o.op=some r):Y3 P E w0 G0 D o a w β G h nid r:=by
  cases ho:o.op with
  | call c=>rw[ho]at hd;exact Zgq hE hf hh hfr ho hd
  | move x =>
    rw[ho]at hd;simp only[ZB]at hd;obtain⟨d,h1,hd⟩:=Z0 hd;cases hd;exact Y3.pure hh (by unfold execOp;rw[ho];rfl) (Zp hf h1)
  | assign x =>
    rw[ho]at hd;simp only[ZB]at hd;obtain⟨d,h1,hd⟩:=Z0 hd;cases hd;exact Y3.pure hh (by unfold execOp;rw[ho];rfl) (Zp hf h1)
  | pick c x y =>
    rw[ho]at hd;simp only[ZB]at hd;obtain⟨dc,hc,hd⟩:=Z0 hd;split at hd
    · rename_i b
      have hcv:=ZK.1 (Zp hf hc);have hr:(execOp a.eval o).run P w=.ok (.value (if b then a.eval x else a.eval y)) w:=by
        unfold execOp;rw[ho];simp[hcv,asBool]
      cases b
      · obtain⟨d,h1,hd⟩:=Z0 hd
        cases hd;exact Y3.pure hh hr (Zp hf h1)
      · obtain⟨d,h1,hd⟩:=Z0 hd
        cases hd;exact Y3.pure hh hr (Zp hf h1)
    · cases hd
  | alloc t =>
    rw[ho]at hd;simp only[ZB]at hd;obtain⟨ti,hti,hd⟩:=Z0 hd;cases hd;exact ZcH hh hfr (hE t ti hti) ho
  | box t x =>
    rw[ho]at hd;simp only[ZB]at hd;obtain⟨d,h1,hd⟩:=Z0 hd;obtain⟨hq,hd⟩:=Z3 hd;cases hd;exact Zgh hh hfr ho (Zp hf h1) hq
  | build t ps =>
    rw[ho]at hd;simp only[ZB]at hd;have hrf:∃d,r=⟨some d,[]⟩:=by
      obtain⟨ti,hti,hd⟩:=Z0 hd;obtain⟨vs,hvs,hd⟩:=Z0 hd;split at hd
      · obtain⟨cs,hcs,hd⟩:=Z0 hd
        cases hd;exact⟨_,rfl⟩
      · obtain⟨ei,hei,hd⟩:=Z0 hd
        obtain⟨cs,hcs,hd⟩:=Z0 hd;cases hd;exact⟨_,rfl⟩
      · cases hd
    obtain⟨d,rfl⟩:=hrf;obtain⟨v,h1,h2⟩:=ZcN (P:=P) (w:=w) (β:=β) (G:=G) hE hf hd;exact Y3.pure hh (Yn (by unfold execOp;rw[ho]) h1) h2
  | buildSlice t n ps =>
    rw[ho]at hd;obtain⟨v,w',β',G',h1,h2,h3,h4,h5⟩:=Z7z (P:=P) (a:=a) hE hf hh hfr hd;exact⟨.value v,v,w',β',G',Yn (by unfold execOp;rw[ho]) h1,.inl rfl,h2,h3,h4,h5⟩
  | load t x =>
    rw[ho]at hd;simp only[ZB]at hd;obtain⟨ti,hti,hd⟩:=Z0 hd;obtain⟨dx,hx,hd⟩:=Z0 hd;obtain⟨d,h1,hd⟩:=Z0 hd;cases hd;obtain⟨v,h2,h3⟩:=Z9K hE hh (hE t ti hti) (hE t ti hti).ko (Zp hf hx) h1;exact Y3.pure hh (Yn (by unfold execOp;rw[ho]) h2) h3
  | store t x y =>
    rw[ho]at hd;simp only[ZB]at hd;obtain⟨ti,hti,hd⟩:=Z0 hd;obtain⟨dx,hx,hd⟩:=Z0 hd;obtain⟨dy,hy,hd⟩:=Z0 hd;obtain⟨us,h1,hd⟩:=Z0 hd;cases hd;obtain⟨w',h2,h3,h4⟩:=Ze5 (nid:=nid) hh (hE t ti hti) (Zp hf hx) (Zp hf hy) h1;exact⟨.skip,undef,w',β,G,Zjm (by unfold execOp;rw[ho]) h2,.inr ⟨rfl,rfl⟩,fun d hd=>by cases hd;exact Z45,Ext.refl β G,h3,h4⟩
  | nilCheck x =>
    rw[ho]at hd;simp only[ZB]at hd;obtain⟨d,h1,hd⟩:=Z0 hd;have hr:=Zp hf h1;have key:∀A,a.eval x=.pointer (some A)->(execOp a.eval o).run P w=.ok (.value (a.eval x)) w:=fun A hA=>by
      unfold execOp;rw[ho];simp[hA]
    split at hd
    · cases hd
      obtain⟨b,_,h2⟩:=Z1k.1 hr;exact Y3.pure hh (key _ h2) hr
    · cases hd
      obtain⟨b,_,_,_,h2⟩:=Z1X.1 hr;exact Y3.pure hh (key _ h2) hr
    · cases hd
      obtain⟨_,b,_,h2,_⟩:=Z3F.1 hr;exact Y3.pure hh (key _ h2) hr
    · cases hd
  | binOp op t x y z =>
    rw[ho]at hd;simp only[ZB]at hd;obtain⟨dx,hx,hd⟩:=Z0 hd;obtain⟨dy,hy,hd⟩:=Z0 hd;obtain⟨d,h1,hd⟩:=Z0 hd;cases hd;split at h1
    · have e1:=Z5M.1 (Zp hf hx)
      have e2:=Z5M.1 (Zp hf hy);obtain⟨hc,h1⟩:=Z3 h1;obtain⟨v,h2,h3⟩:=ZeK (P:=P) (w:=w) (β:=β) (G:=G) (x:=x) (y:=y) hE hc h1;exact Y3.pure hh (Yn (by unfold execOp;rw[ho]) (by rw[e1,e2];exact h2)) h3
    · obtain⟨v,h2,h3⟩:=Zep (P:=P) (w:=w) (x:=x) (y:=y) hE h1 (Zp hf hx) (Zp hf hy)
      exact Y3.pure hh (Yn (by unfold execOp;rw[ho]) h2) h3
  | unOp op t x =>
    rw[ho]at hd;simp only[ZB]at hd;obtain⟨dx,hx,hd⟩:=Z0 hd;obtain⟨d,h1,hd⟩:=Z0 hd;cases hd;obtain⟨v,h2,h3⟩:=ZgY (P:=P) (w:=w) h1 (Zp hf hx);exact Y3.pure hh (Yn (by unfold execOp;rw[ho]) h2) h3
  | convert s t x =>
    rw[ho]at hd;simp only[ZB]at hd;obtain⟨si,hsi,hd⟩:=Z0 hd;obtain⟨ti,hti,hd⟩:=Z0 hd;obtain⟨dx,hx,hd⟩:=Z0 hd;obtain⟨us,hus⟩:=(hE s si hsi).und;have hdesc:=(hE t ti hti).desc;have hr:=Zp hf hx;cases hk:ti.k with
    | int k =>
      rw[hk]at hd hdesc;cases dx with
      | int k' n =>
      cases hd;rw[Zy]at hr;refine Y3.pure hh (Yn (v:=.int k (k.wrap n)) (by unfold execOp;rw[ho]) ?_) (Zy.2 rfl)
      simp[convert,ji hus,ji hdesc,hr,Conv.intToInt]
      | _=>cases hd
    | string =>
      rw[hk]at hd hdesc;cases dx with
      | str s' =>
      cases hd;rw[Yj]at hr;refine Y3.pure hh (Yn (v:=.string s') (by unfold execOp;rw[ho]) ?_) (Yj.2 rfl)
      simp[convert,ji hus,ji hdesc,hr]
      | _=>cases hd
    | _=>rw[hk]at hd;cases hd
  | makeInterface t x =>
    rw[ho]at hd;simp only[ZB]at hd;obtain⟨ti,hti,hd⟩:=Z0 hd;obtain⟨dx,hx,hd⟩:=Z0 hd;have hk:ti.k≠.iface:=fun e=>by rw[e]at hd;cases hd
    have hd':ret (.iface t dx)=some r:=by
      cases hkk:ti.k<;>rw[hkk]at hd<;>first|exact hd|exact absurd hkk hk
    rw[Z1u hd'];obtain⟨h1,h2⟩:=Z8L (P:=P) (w:=w) (hE t ti hti) hk (Zp hf hx);exact Y3.pure hh (Yn (by unfold execOp;rw[ho]) h1) h2
  | typeAssert x xt t ok =>
    rw[ho]at hd;simp only[ZB]at hd;obtain⟨ti,hti,hd⟩:=Z0 hd;obtain⟨dx,hx,hd⟩:=Z0 hd;have hk:ti.k≠.iface:=fun e=>by rw[e]at hd;cases dx<;>cases hd
    have:∃d,(match dx with
      | .nilif=>bif ok then(Z1g ti).bind fun z=>some (.tup [z,.bool false])else none
      | .iface t' v=>bif Nat.beq t' t then some (bif ok then .tup [v,.bool true]else v)else bif ok then(Z1g ti).bind fun z=>some (.tup [z,.bool false])else none
      | _=>none:Option DV)=some d/\r=⟨some d,[]⟩:=by
      cases dx with
      | nilif =>
        have hd':(bif ok then(Z1g ti).bind fun z=>ret (.tup [z,.bool false])else none)=some r:=by
          cases hkk:ti.k<;>rw[hkk]at hd<;>first|exact hd|exact absurd hkk hk
        cases ok with
        | false=>cases hd'
        | true =>
          obtain⟨z,hz,hd'⟩:=Z0 hd';exact⟨_,by simp[hz],Z1u hd'⟩
      | iface t' v =>
        have hd':(bif Nat.beq t' t then ret (bif ok then .tup [v,.bool true]else v)else bif ok then(Z1g ti).bind fun z=>ret (.tup [z,.bool false])else none)=some r:=by
          cases hkk:ti.k<;>rw[hkk]at hd<;>first|exact hd|exact absurd hkk hk
        simp only;cases hq:Nat.beq t' t with
        | true=>rw[hq]at hd';exact⟨_,rfl,Z1u hd'⟩
        | false =>
          rw[hq]at hd';cases ok with
          | false=>cases hd'
          | true =>
            obtain⟨z,hz,hd'⟩:=Z0 hd';exact⟨_,by simp[hz],Z1u hd'⟩
      | _=>cases hkk:ti.k<;>rw[hkk]at hd<;>cases hd
    obtain⟨d,h1,rfl⟩:=this;obtain⟨v,h2,h3⟩:=Z8g (P:=P) (w:=w) (xt:=xt) (hE t ti hti) hk h1 (Zp hf hx);exact Y3.pure hh (Yn (by unfold execOp;rw[ho]) h2) h3
  | makeSlice t l c =>
    rw[ho]at hd;simp only[ZB]at hd;obtain⟨ti,hti,hd⟩:=Z0 hd;obtain⟨dl,hl,hd⟩:=Z0 hd;obtain⟨dc,hc,hd⟩:=Z0 hd;cases hk:ti.k with
    | slice e =>
     rw[hk]at hd;obtain⟨k1,n,rfl⟩:∃k n,dl=.int k n:=by cases dl<;>first|exact⟨_,_,rfl⟩|cases hd
     obtain⟨k2,n',rfl⟩:∃k n,dc=.int k n:=by cases dc<;>first|exact⟨_,_,rfl⟩|cases hd
     simp only at hd;obtain⟨ei,hei,hd⟩:=Z0 hd;obtain⟨hq,hd⟩:=Z3 hd;cases hd;simp only[jn,jk,beq_iff_eq]at hq;obtain⟨⟨⟨⟨q1,q2⟩,q3⟩,q4⟩,q5⟩:=hq;subst q1;have e1:=Zp hf hl;have e2:=Zp hf hc;rw[Zy]at e1 e2;obtain⟨v,w',β',h1,h2,h3,h4,h5⟩:=Z8M (P:=P) (k1:=k1) (k2:=k2) hE hh hfr (hE t ti hti) hk hei q2 (jf q3) (jf q4) q5;rw[<-e1,<-e2]at h1;exact⟨_,v,w',β',G,Yn (by unfold execOp;rw[ho]) h1,.inl rfl,fun d hd=>by cases hd;exact h2,h3,h4,h5⟩
    | _=>rw[hk]at hd;cases hd
  | makeFunc f x y =>
    rw[ho]at hd;simp only[ZB]at hd;obtain⟨dx,hx,hd⟩:=Z0 hd;obtain⟨dy,hy,hd⟩:=Z0 hd;cases hd;refine Y3.pure hh (Yn (v:=.func f (x.map a.eval) (y.map a.eval)) (by unfold execOp;rw[ho]) rfl) (Zci.2 ⟨_,_,?_,Z1H hf hx,Z1H hf hy⟩)
    congr 1<;>(apply Array.ext';simp)
  | makeMap t x =>
    cases x with
    | some x=>rw[ho]at hd;simp[ZB]at hd
    | none =>
      rw[ho]at hd;simp only[ZB]at hd;cases hd;obtain⟨β',h1,h2,h3,h4⟩:=ZiT hh hfr;refine⟨_,.map (some w.heap.size),_,β',G,Yn (by unfold execOp;rw[ho]) ?_,.inl rfl,fun d hd=>by cases hd;exact Z7f.2 ⟨_,h2,rfl⟩,h1,h3,h4⟩
      simp[Instr.makeMap]
  | slice t x lo hi mx =>
    cases mx with
    | some m=>rw[ho]at hd;simp[ZB]at hd
    | none =>
      rw[ho]at hd;simp only[ZB]at hd;obtain⟨ti,hti,hd⟩:=Z0 hd;obtain⟨dx,hx,hd⟩:=Z0 hd;obtain⟨dl,hl,hd⟩:=Z0 hd;obtain⟨dh,hhi,hd⟩:=Z0 hd;have hdesc:=(hE t ti hti).desc;have hr:=Zp hf hx;have hlo:=ZfR hf hl;have hhr:=ZfR hf hhi;cases hk:ti.k with
      | string =>
        rw[hk]at hdesc hd;cases dx with
        | str s =>
          obtain⟨d,h1,hd⟩:=Z0 hd;cases hd;rw[Yj]at hr;unfold Zfh at h1;obtain⟨m,k1,h1⟩:=Z0 h1;obtain⟨l,k2,h1⟩:=Z0 h1;cases h1;obtain⟨k3,_,_⟩:=Z1T (P:=P) (w:=w) (isSlice:=false) hlo hhr k1 k2 (Nat.le_refl _);refine Y3.pure hh (Yn (v:=.string (s.extract l m)) (by unfold execOp;rw[ho]) ?_) (Yj.2 rfl)
          simp[Instr.sliceAt,Instr.slice,ji hdesc,hr,k3]
        | _=>cases hd
      | array n e =>
        rw[hk]at hd;cases dx with
        | ptr id off =>
          simp only at hd;obtain⟨ei,hei,hd⟩:=Z0 hd;obtain⟨ob,hob,hd⟩:=Z0 hd;cases ob with
          | cells ct cs =>
            obtain⟨hq,hd⟩:=Z3 hd;obtain⟨d,h1,hd⟩:=Z0 hd;cases hd;simp only[jn]at hq;obtain⟨v,G1,h2,h3,h4,h5⟩:=Zaf (P:=P) hE hh (hE t ti hti) hk hei hr hob (jf hq.1.1) (jf hq.1.2) hq.2 hlo hhr h1;exact⟨_,v,w,β,G1,Yn (by unfold execOp;rw[ho]<;>rfl) h2,.inl rfl,fun d hd=>by cases hd;exact h3,h4,h5,fun i _ hq=>⟨by rw[ZD];split;exact rfl;exact hq,rfl,fun _=>rfl⟩⟩
          | _=>cases hd
        | pub cs =>
          simp only at hd;obtain⟨ei,hei,hd⟩:=Z0 hd;obtain⟨hq,hd⟩:=Z3 hd;obtain⟨d,h1,hd⟩:=Z0 hd;cases hd;simp only[jn]at hq;obtain⟨v,h2,h3⟩:=Zag (P:=P) (w:=w) hE (hE t ti hti) hk hei hr (jf hq.1) hq.2 hlo hhr h1;exact Y3.pure hh (Yn (by unfold execOp;rw[ho]<;>rfl) h2) h3
        | _=>cases hd
      | slice e =>
        rw[hk]at hd;simp only at hd;obtain⟨ei,hei,hd⟩:=Z0 hd;obtain⟨es,hes,hd⟩:=Z0 hd;obtain⟨hq,hd⟩:=Z3 hd;simp only[jn,List.all_eq_true]at hq;have hql:∀c∈es,c.length=ei.size:=fun c hc=>je (hq.1 c hc);cases hvw:ti.view&&Z3b h dx with
        | true =>
          rw[hvw]at hd;simp only[jB]at hd;obtain⟨d,h1,hd⟩:=Z0 hd;cases hd;obtain⟨v,h2,h3⟩:=Zfm (P:=P) (w:=w) hh (hE t ti hti) hk (hE e ei hei) hes hr hlo hhr h1;exact Y3.pure hh (Yn (by unfold execOp;rw[ho]<;>rfl) h2) h3
        | false =>
        rw[hvw]at hd;simp only[jA]at hd;obtain⟨d,h1,hd⟩:=Z0 hd;cases hd;obtain⟨G1,hx1,hh1,hs1⟩:=Z1N hh (Zk dx);have hsh:∃A c,a.eval x=.slice A es.length c/\es.length<=c/\(es=[]\/∃b off,A=some ⟨b,off,none⟩/\Yp β G1 b ei.size off es):=by
          cases dx with
          | nils=>cases hes;exact⟨none,0,Z1t.1 hr,Nat.le_refl _,.inl rfl⟩
          | sl es' =>
            cases hes;obtain⟨A,c,⟨k1,k2⟩,k3⟩:=Z3m.1 hr;refine⟨A,c,k1,k2,?_⟩;rcases k3 with k3|⟨b,off,e',k3,k4⟩
            · exact .inl k3
            · exact Z3E (Yp.mono hx1 _ _ _ _ k4) hql |>.imp (fun z=>z) fun k=>⟨b,off,k3,k⟩
          | rs id ver =>
            simp only[ZW]at hes;obtain⟨ob,hob,hes⟩:=Z0 hes;split at hes
            · rename_i t' es' p u
              obtain⟨hu,hes⟩:=Z3 hes;cases hes;have hu:u=ver:=je hu;subst hu;obtain⟨p',hp'⟩:=Z2a h (Zk (.rs id u)) _ _ _ _ _ hob;obtain⟨hdr,k1,A,c,⟨k2,k3⟩,k4⟩:=hs1 id (by simp[Zk]) _ _ _ _ hp'
              obtain⟨k5,_⟩:=Z1n.1 hr;rw[k1]at k5;cases k5;refine⟨A,c,k2,k3,?_⟩;rcases k4 with k4|⟨b,k4,k6⟩
              · exact .inl k4
              · exact Z3E k6 hql |>.imp (fun z=>z) fun k=>⟨b,0,k4,k⟩
            · cases hes
          | rv id ver i n e' =>
            simp only[ZW]at hes;obtain⟨ob,hob,hes⟩:=Z0 hes;split at hes
            · rename_i t' es' p u
              obtain⟨hu,hes⟩:=Z3 hes;cases hes;simp only[jn,List.all_eq_true]at hu;obtain⟨hu,hlen⟩:=hu;have hu:u=ver:=je hu;subst hu;obtain⟨p',hp'⟩:=Z2a h (Zk (.rv id u i n e')) _ _ _ _ _ hob;obtain⟨hdr,k1,A,c,⟨k2,k3⟩,k4⟩:=hs1 id (by simp[Zk]) _ _ _ _ hp'
              obtain⟨a0,m,c0,a',c',k5,k7,k8,hle,hz⟩:=Zcj.1 hr;rw[k1,k2]at k5;cases k5;have hnl:((es'.drop i).take n).length=n:=by simp;omega
              refine⟨_,c',by rw[hnl];exact k7,by rw[hnl];exact k8,?_⟩
              rcases hz with hz|⟨b,hz1,hz2⟩
              · exact .inl (by rw[hz];simp)
              rcases k4 with k4|⟨b',k4,k6⟩
              · exact .inl (by rw[k4];simp)
              · rw[hz1]at k4
                cases k4;rcases Z3E (e':=e') k6 (fun c hc=>je (hlen c hc))with k|k
                · exact .inl (by rw[k];simp)
                · have:=Z34 n (Z33 i k)
                  rw[Nat.zero_add]at this;exact Z3E this hql |>.imp (fun z=>z) fun k=>⟨_,i*e',hz2,k⟩
            · cases hes
          | _=>cases hes
        obtain⟨v,h2,h3⟩:=ZdY (P:=P) (w:=w) (hE t ti hti) hk (hE e ei hei) hsh (Z75 hx1 hlo) (Z75 hx1 hhr) h1;exact⟨_,v,w,β,G1,Yn (by unfold execOp;rw[ho]<;>rfl) h2,.inl rfl,fun d hd=>by cases hd;exact h3,hx1,hh1,Z89 _⟩
      | _=>rw[hk]at hd;cases hd
  | fieldAddr s x f =>
    rw[ho]at hd;simp only[ZB]at hd;obtain⟨ti,hti,hd⟩:=Z0 hd;obtain⟨dx,hx,hd⟩:=Z0 hd;split at hd
    · rename_i fs hk
      obtain⟨⟨ft,off⟩,hfs,hd⟩:=Z0 hd;obtain⟨fi,hfi,hd⟩:=Z0 hd;obtain⟨hq,hd⟩:=Z3 hd;obtain⟨d,h1,hd⟩:=Z0 hd;cases hd;obtain⟨v,h2,h3⟩:=Zay (P:=P) (w:=w) hE (hE s ti hti) hk hfs hfi (jf hq) (Zp hf hx) h1;exact Y3.pure hh (Yn (by unfold execOp;rw[ho]) h2) h3
    · cases hd
  | field s x f =>
    rw[ho]at hd;simp only[ZB]at hd;obtain⟨ti,hti,hd⟩:=Z0 hd;obtain⟨dx,hx,hd⟩:=Z0 hd;have:∃d,(match ti.k,dx with
      | .struct fs,.agg cs=>(fs[f]?).bind fun(ft,off)=>(E.ty ft).bind fun fi=>YO fi cs off
      | _,_=>none)=some d/\r=⟨some d,[]⟩:=by
      split at hd
      · rename_i hk2
        obtain⟨⟨ft,off⟩,hfs,hd⟩:=Z0 hd;obtain⟨fi,hfi,hd⟩:=Z0 hd;obtain⟨d,h1,hd⟩:=Z0 hd;cases hd;exact⟨d,by(try rw[hk2]);simp only at hfi h1;simp[hfs,hfi,h1],rfl⟩
      · cases hd
    obtain⟨d,h1,rfl⟩:=this;obtain⟨v,h2,h3⟩:=ZcZ (P:=P) (w:=w) hE (hE s ti hti) h1 (Zp hf hx);exact Y3.pure hh (Yn (by unfold execOp;rw[ho]) h2) h3
  | indexAddr t x i =>
    rw[ho]at hd;simp only[ZB]at hd;obtain⟨ti,hti,hd⟩:=Z0 hd;obtain⟨dx,hx,hd⟩:=Z0 hd;obtain⟨di,hi,hd⟩:=Z0 hd;have hrx:=Zp hf hx;have hri:=Zp hf hi;cases hk:ti.k with
    | array len e =>
      rw[hk]at hd;obtain⟨ei,hei,hd⟩:=Z0 hd;obtain⟨j,hj,hd⟩:=Z0 hd;obtain⟨d,h1,hd⟩:=Z0 hd;cases hd;obtain⟨v,h2,h3⟩:=Zaz (P:=P) (w:=w) (hE t ti hti) hk (hE e ei hei) hrx hri hj h1;exact Y3.pure hh (Yn (by unfold execOp;rw[ho]) h2) h3
    | slice e =>
      rw[hk]at hd;simp only at hd;obtain⟨ei,hei,hd⟩:=Z0 hd;cases dx with
      | sl es =>
        obtain⟨j,hj,hd⟩:=Z0 hd;obtain⟨c,hc,hd⟩:=Z0 hd;obtain⟨hq,hd⟩:=Z3 hd;cases hd;simp only[jn]at hq;have hcl:c.length=ei.size:=je hq.1;obtain⟨A,cap,⟨k1,k2⟩,k3⟩:=Z3m.1 hrx;rcases k3 with k3|⟨b,off,e',rfl,k4⟩
        · subst k3;simp at hc
        · obtain⟨m1,m2,m3⟩:=Zdz k4 hc
          have he:e'=ei.size:=by omega
          subst he;have h2:=Z5X (P:=P) (w:=w) (c:=cap) (A:=⟨b,off,none⟩) (hE t ti hti) hk (hE e ei hei) hri hj;refine Y3.pure hh (Yn (v:=.pointer (some ((⟨b,off,none⟩:Addr).add (j*ei.size)))) (by unfold execOp;rw[ho]) ?_) (Z3F.2 ⟨m1,b,off+j*ei.size,by rw[Yf],?_⟩)
          · rw[k1];exact h2
          · exact m2
      | rs id ver =>
        obtain⟨ob,hob,hd⟩:=Z0 hd;split at hd
        · rename_i t' es p u
          obtain⟨j,hj,hd⟩:=Z0 hd;obtain⟨hq,hd⟩:=Z3 hd;cases hd;simp only[jn]at hq;have hu:u=ver:=je hq.1;subst hu;obtain⟨k5,_⟩:=Z1n.1 hrx;obtain⟨hdr,vals,n1,n2,_⟩:=hh.obj id _ hob;rw[n1]at k5;cases k5;obtain⟨kk,hkk,hlt⟩:=Z57 hj hri;rcases n2.2 with⟨n3,n4⟩|⟨g,cap,cur,n3,_⟩
          · omega
          · have h2:=Z5X (P:=P) (w:=w) (c:=cap) (A:=⟨g,0,none⟩) (hE t ti hti) hk (hE e ei hei) hri hj
            refine Y3.pure hh (Yn (v:=.pointer (some ((⟨g,0,none⟩:Addr).add (j*ei.size)))) (by unfold execOp;rw[ho]) ?_) (Z1X.2 ⟨g,es.length,cap,by rw[n1,n3],by rw[Yf];simp⟩)
            rw[n3];exact h2
        · cases hd
      | _=>cases hd
    | _=>rw[hk]at hd;cases hd
  | index t x i =>
    rw[ho]at hd;simp only[ZB]at hd;obtain⟨ti,hti,hd⟩:=Z0 hd;obtain⟨dx,hx,hd⟩:=Z0 hd;obtain⟨di,hi,hd⟩:=Z0 hd;have:∃d,(match ti.k,dx with
      | .array len e,.agg cs=>(E.ty e).bind fun ei=>(Z3c len di).bind fun i=>YO ei cs (i*ei.size)
      | .string,.str s=>(Z3c s.size di).bind fun i=>(s[i]?).bind fun b=>some (.int .u8 b.toNat)
      | _,_=>none)=some d/\r=⟨some d,[]⟩:=by
      cases hk2:ti.k with
      | array len e =>
        rw[hk2]at hd;cases dx with
        | agg cs =>
          obtain⟨ei,hei,hd⟩:=Z0 hd;obtain⟨j,hj,hd⟩:=Z0 hd;obtain⟨d,h1,hd⟩:=Z0 hd;cases hd;exact⟨d,by simp[hei,hj,h1],rfl⟩
        | _=>cases hd
      | string =>
        rw[hk2]at hd;cases dx with
        | str s =>
          obtain⟨j,hj,hd⟩:=Z0 hd;obtain⟨d,h1,hd⟩:=Z0 hd;cases hd;exact⟨_,by simp[hj,h1],rfl⟩
        | _=>cases hd
      | _=>rw[hk2]at hd;cases hd
    obtain⟨d,h1,rfl⟩:=this;obtain⟨v,h2,h3⟩:=Zdg (P:=P) (w:=w) hE (hE t ti hti) h1 (Zp hf hx) (Zp hf hi);exact Y3.pure hh (Yn (by unfold execOp;rw[ho]) h2) h3
  | lookup t m k ok =>
    rw[ho]at hd;simp only[ZB]at hd;obtain⟨ti,hti,hd⟩:=Z0 hd;obtain⟨dm,hm,hd⟩:=Z0 hd;obtain⟨dk,hk,hd⟩:=Z0 hd;split at hd
    · rename_i kt e hkk
      obtain⟨ei,hei,hd⟩:=Z0 hd;obtain⟨ki,hki,hd⟩:=Z0 hd;obtain⟨hq,hd⟩:=Z3 hd;simp only[jn,Bool.not_eq_true']at hq;obtain⟨⟨hq1,hq2⟩,hq3⟩:=hq;obtain⟨es,hes,hd⟩:=Z0 hd;obtain⟨q,hfind,hd⟩:=Z0 hd;have hz1:∃z,ei.zero=[z]:=by
        obtain⟨i,zv,_,_,_,_,hzs,hzr⟩:=(hE e ei hei).info;have:=ZM (hzr β G);have hsz:ei.size=1:=je hq2;have h1:ei.zero.length=1:=by simp at this;omega
        exact List.length_eq_one_iff.1 h1
      obtain⟨z,hz⟩:=hz1;obtain⟨v,h2,h3⟩:=ZbV (P:=P) (w:=w) hE hh (hE t ti hti) hkk (hE e ei hei) (hE kt ki hki) (Zp hf hk) hq1 hes hfind hz (je hq2) hq3 ok (Zp hf hm);rw[hz]at hd;cases q with
      | some d=>cases hd;exact Y3.pure hh (Yn (by unfold execOp;rw[ho]) h2) h3
      | none=>cases hd;exact Y3.pure hh (Yn (by unfold execOp;rw[ho]) h2) h3
    · cases hd
  | mapUpdate t m k x =>
    rw[ho]at hd;simp only[ZB]at hd;obtain⟨ti,hti,hd⟩:=Z0 hd;obtain⟨dm,hm,hd⟩:=Z0 hd;obtain⟨dk,hk,hd⟩:=Z0 hd;obtain⟨dx,hx,hd⟩:=Z0 hd;cases hkk:ti.k with
    | map kt e =>
      rw[hkk]at hd;cases dm with
      | map id =>
        obtain⟨ki,hki,hd⟩:=Z0 hd;obtain⟨ob,hob,hd⟩:=Z0 hd;split at hd
        · rename_i es
          obtain⟨hq,hd⟩:=Z3 hd;simp only[jn]at hq;obtain⟨es',hes,hd⟩:=Z0 hd;cases hd;obtain⟨w',h2,h3,h4⟩:=Z8N (P:=P) (nid:=nid) hh (hE t ti hti) hkk (hE kt ki hki) (Zp hf hm) (Zp hf hk) (Zp hf hx) hq.2 hq.1.1 hob hes;exact⟨.skip,undef,w',β,G,Zjm (by unfold execOp;rw[ho]) h2,.inr ⟨rfl,rfl⟩,fun d hd=>by cases hd;exact Z45,Ext.refl β G,h3,h4⟩
        · cases hd
      | _=>cases hd
    | _=>rw[hkk]at hd;cases hd
  | range t x =>
    rw[ho]at hd;simp only[ZB]at hd;obtain⟨ti,hti,hd⟩:=Z0 hd;obtain⟨dx,hx,hd⟩:=Z0 hd;have hdesc:=(hE t ti hti).desc;have hr:=Zp hf hx;cases hk:ti.k with
    | string =>
      rw[hk]at hd hdesc;cases dx with
      | str s =>
        rw[Yj]at hr;cases hd;obtain⟨β',h1,h2,h3,h4⟩:=ZgS hh hfr s;refine⟨_,.pointer (some ⟨w.heap.size,0,none⟩),_,β',G,Yn (by unfold execOp;rw[ho]) ?_,.inl rfl,fun d hd=>by cases hd;exact Z7e.2 ⟨_,h2,rfl⟩,h1,h3,h4⟩
        simp[Instr.range,ji hdesc,hr]
      | _=>cases hd
    | map kt et =>
      rw[hk]at hd hdesc;cases dx with
      | map id =>
        simp only at hd;obtain⟨ob,hob,hd⟩:=Z0 hd;cases ob with
        | map es =>
          cases hd;obtain⟨b,hb,hv⟩:=Z7f.1 hr;obtain⟨b',ms,clock,k1,k2,k3,k4,k5⟩:=hh.obj id _ hob;rw[hb]at k1;cases k1;have hsz:es.length=clock:=by have:=Z5c k3;rw[k5,<-this];simp
          obtain⟨β',h1,h2,h3,h4⟩:=ZiW hh hfr id b es.length hb;refine⟨_,.pointer (some ⟨w.heap.size,0,none⟩),_,β',G,Yn (by unfold execOp;rw[ho]) ?_,.inl rfl,fun d hd=>by cases hd;exact Z7e.2 ⟨_,h2,rfl⟩,h1,h3,h4⟩
          have hget:(getObj b).run P w=.ok (.map ms clock) w:=by simp[getObj,Sem.run,k2]
          simp[Instr.range,ji hdesc,hv,hget,hsz]
        | _=>cases hd
      | _=>cases hd
    | _=>rw[hk]at hd;cases hd
  | next it s =>
    cases s with
    | false=>rw[ho]at hd;simp[ZB]at hd
    | true =>
      rw[ho]at hd;simp only[ZB]at hd;obtain⟨d,h1,hd⟩:=Z0 hd;split at hd
      · rename_i id
        obtain⟨ob,hob,hd⟩:=Z0 hd;split at hd
        · rename_i s pos
          obtain⟨b,hb,hv⟩:=Z7e.1 (Zp hf h1);obtain⟨b',hb',hw⟩:=hh.obj id _ hob;rw[hb]at hb';cases hb'
          by_cases hp:pos<s.size
          · simp only[hp,decide_true,jB]at hd
            cases hd;have hh':=Z4d (o':=.siter s (pos+(Utf8.decode s pos).2)) (ob':=.stringIter s (pos+(Utf8.decode s pos).2)) hh hob hb hw (by simp) (fun x hx=>by simp[Yi]at hx;rw[hb]at hx;cases hx;rfl)
              ⟨b,hb,by simp[World.putObj_heap_same (ja.1 hw).1]⟩
            refine⟨_,.tuple #[.bool true,.int .i64 (pos:Nat),.int .i32 (Utf8.decode s pos).1],_,β,G,Yn (by unfold execOp;rw[ho]) ?_,.inl rfl,fun d hd=>?_,Ext.refl β G,hh',Z7J hob⟩
            · simp[Instr.next,hv,Z49 hw,hp,goInt,Za9 (P:=P) hw (by simp),Result.andThen]
            · cases hd
              exact Yv.2 ⟨[.bool true,.int .i64 (pos:Nat),.int .i32 (Utf8.decode s pos).1],rfl,Zd.2 ⟨_,_,rfl,ZK.2 rfl,Zd.2 ⟨_,_,rfl,Zy.2 rfl,Zd.2 ⟨_,_,rfl,Zy.2 rfl,Zj.2 rfl⟩⟩⟩⟩
          · simp only[hp,decide_false,jA]at hd
            cases hd;refine Y3.pure hh (Yn (v:=.tuple #[.bool false]) (by unfold execOp;rw[ho]) ?_) (Yv.2 ⟨[.bool false],rfl,Zd.2 ⟨_,_,rfl,ZK.2 rfl,Zj.2 rfl⟩⟩)
            simp[Instr.next,hv,Z49 hw,hp,Result.andThen]
        · cases hd
      · cases hd
  | extract t i =>
    rw[ho]at hd;simp only[ZB]at hd;obtain⟨dx,hx,hd⟩:=Z0 hd;split at hd
    · rename_i vs
      obtain⟨d,h1,hd⟩:=Z0 hd;cases hd;obtain⟨us,he,hr⟩:=Yv.1 (Zp hf hx);obtain⟨v,h2,h3⟩:=Z42 hr h1;refine Y3.pure hh (Yn (v:=v) (by unfold execOp;rw[ho]) ?_) h3
      simp[Instr.extract,he,h2]
    · cases hd
  | _=>rw[ho]at hd;simp[ZB]at hd
end
end Go.Ab
namespace Go.Ab
namespace Tr
variable {α:Type}
theorem beq_dec (a b:Nat):Nat.beq a b=decide (a=b):=by
 by_cases h:a=b
 ·subst h;simp
 ·have:Nat.beq a b=false:=by
   cases hq:Nat.beq a b with
   | false=>rfl
   | true=>exact absurd (je hq) h
  simp[this,h]
theorem blt_dec (a b:Nat):Nat.blt a b=decide (a<b):=by
 by_cases h:a<b
 ·have c:Nat.blt a b=true:=Nat.ble_eq_true_of_le h;rw[c];simp[h]
 ·have:Nat.blt a b=false:=by
   cases hq:Nat.blt a b with
   | false=>rfl
   | true=>exact absurd (jf hq) h
  simp[this,h]
theorem get_leaf (k:Nat):(leaf:Tr α).get k=none:=rfl
theorem get_node (l r:Tr α) (v:Option α) (k:Nat):(node l v r).get k=if k=0 then v else if k % 2=1 then l.get (k / 2)else r.get (k / 2-1):=by
 rw[get,beq_dec,beq_dec]
 by_cases h:k=0
 ·simp[h]
 ·by_cases h2:k % 2=1<;>simp[h,h2]
theorem get_setAux:∀(n:Nat) (t:Tr α) (k:Nat) (v:Option α) (k':Nat),k<n->(setAux n t k v).get k'=if k'=k then v else t.get k'
 | 0,_,_,_,_,h=>by omega
 | n+1,.leaf,k,v,k',h=>by
  rw[setAux,beq_dec,beq_dec]
  by_cases h0:k=0
  ·subst h0;simp only[decide_true,jB,get_node,get_leaf]
   by_cases e:k'=0<;>simp[e]
  ·by_cases h1:k % 2=1
   ·simp only[h0,h1,decide_true,decide_false,jB,jA,get_node,get_leaf]
    by_cases e0:k'=0
    ·have:k'≠k:=by omega
     simp[e0];omega
    ·by_cases e1:k' % 2=1
     ·rw[if_neg e0,if_pos e1,get_setAux n .leaf (k / 2) v (k' / 2) (by omega),get_leaf]
      by_cases e:k'=k
      ·subst e;simp
      ·rw[if_neg e,if_neg (by omega)]
     ·rw[if_neg e0,if_neg e1];have:k'≠k:=by omega
      simp[this]
   ·simp only[h0,h1,decide_false,jA,get_node,get_leaf]
    by_cases e0:k'=0
    ·have:k'≠k:=by omega
     simp[e0];omega
    ·by_cases e1:k' % 2=1
     ·rw[if_neg e0,if_pos e1];have:k'≠k:=by omega
      simp[this]
     ·rw[if_neg e0,if_neg e1,get_setAux n .leaf (k / 2-1) v (k' / 2-1) (by omega),get_leaf]
      by_cases e:k'=k
      ·subst e;simp
      ·rw[if_neg e,if_neg (by omega)]
 | n+1,.node l x r,k,v,k',h=>by
  rw[setAux,beq_dec,beq_dec]
  by_cases h0:k=0
  ·subst h0;simp only[decide_true,jB,get_node]
   by_cases e:k'=0<;>simp[e]
  ·by_cases h1:k % 2=1
   ·simp only[h0,h1,decide_true,decide_false,jB,jA,get_node]
    by_cases e0:k'=0
    ·have:¬(0=k):=by omega
     simp[e0,this]
    ·by_cases e1:k' % 2=1
     ·simp only[if_neg e0,if_pos e1,get_setAux n l (k / 2) v (k' / 2) (by omega)]
      by_cases e:k'=k
      ·subst e;simp
      ·rw[if_neg e,if_neg (by omega)]
     ·have:k'≠k:=by omega
      simp[e0,e1,this]
   ·simp only[h0,h1,decide_false,jA,get_node]
    by_cases e0:k'=0
    ·have:¬(0=k):=by omega
     simp[e0,this]
    ·by_cases e1:k' % 2=1
     ·have:k'≠k:=by omega
      simp[e0,e1,this]
     ·simp only[if_neg e0,if_neg e1,get_setAux n r (k / 2-1) v (k' / 2-1) (by omega)]
      by_cases e:k'=k
      ·subst e;simp
      ·rw[if_neg e,if_neg (by omega)]
theorem get_set (t:Tr α) (k:Nat) (v:Option α) (k':Nat):(t.set k v).get k'=if k'=k then v else t.get k':=get_setAux _ t k v k' (by omega)
theorem mkn_get (l:Tr α) (v:Option α) (r:Tr α) (k:Nat):(mkn l v r).get k=(Tr.node l v r).get k:=by
 unfold mkn;split
 ·simp[get]
 ·rfl
theorem tm_get (f:Nat->α->Option (Option α)):∀(t t':Tr α) (a b:Nat),tm f t a b=some t' →
  ∀k,(t.get k=none/\t'.get k=none)\/∃x y,t.get k=some x/\f (a*k+b) x=some y/\t'.get k=y
 | .leaf,t',a,b,h,k=>by
  simp only[tm,jh]at h;subst h;exact .inl ⟨rfl,rfl⟩
 | .node l v r,t',a,b,h,k=>by
  simp only[tm]at h;obtain⟨l',c,h⟩:=Z0 h;obtain⟨v',hv,h⟩:=Z0 h;obtain⟨r',hr,h⟩:=Z0 h;cases h;rw[mkn_get,get_node,get_node]
  by_cases e0:k=0
  ·subst e0;simp only[if_true,Nat.mul_zero,Nat.zero_add];cases v with
   | none=>cases hv;exact .inl ⟨rfl,rfl⟩
   | some x=>exact .inr ⟨x,v',rfl,hv,rfl⟩
  ·by_cases e1:k % 2=1
   ·simp only[if_neg e0,if_pos e1];have:=tm_get f l l' _ _ c (k / 2)
    rwa [show 2*a*(k / 2)+(a+b)=a*k+b by
     have:k=2*(k / 2)+1:=by omega
     generalize k / 2=m at this;subst this;rw[Nat.mul_add,<-Nat.mul_assoc,Nat.mul_comm a 2];omega]at this
   ·simp only[if_neg e0,if_neg e1];have:=tm_get f r r' _ _ hr (k / 2-1)
    rwa [show 2*a*(k / 2-1)+(2*a+b)=a*k+b by
     have:k=2*(k / 2-1)+2:=by omega
     generalize k / 2-1=m at this;subst this;rw[Nat.mul_add,<-Nat.mul_assoc,Nat.mul_comm a 2];omega]at this
theorem filt_get (m:Nat):∀(t:Tr α) (a b k:Nat),(t.filt m a b).get k=bif Nat.testBit m (a*k+b)then t.get k else none
 | .leaf,a,b,k=>by cases Nat.testBit m (a*k+b)<;>rfl
 | .node l v r,a,b,k=>by
  simp only[filt];rw[mkn_get,get_node,get_node]
  by_cases e0:k=0
  ·subst e0;simp only[if_true,Nat.mul_zero,Nat.zero_add]
  ·by_cases e1:k % 2=1
   ·simp only[if_neg e0,if_pos e1];rw[filt_get m l,show 2*a*(k / 2)+(a+b)=a*k+b by
     have:k=2*(k / 2)+1:=by omega
     generalize k / 2=m at this;subst this;rw[Nat.mul_add,<-Nat.mul_assoc,Nat.mul_comm a 2];omega]
   ·simp only[if_neg e0,if_neg e1];rw[filt_get m r,show 2*a*(k / 2-1)+(2*a+b)=a*k+b by
     have:k=2*(k / 2-1)+2:=by omega
     generalize k / 2-1=m at this;subst this;rw[Nat.mul_add,<-Nat.mul_assoc,Nat.mul_comm a 2];omega]
theorem filt_sub {m:Nat} {t:Tr α} {k:Nat} {x:α} (h:(t.filt m 1 0).get k=some x):t.get k=some x:=by
 rw[filt_get]at h;cases hm:Nat.testBit m (1*k+0)with
 | true=>rw[hm]at h;exact h
 | false=>rw[hm]at h;cases h
theorem tm_get1 {f:Nat->α->Option (Option α)} {t t':Tr α} (h:tm f t 1 0=some t') (k:Nat):(t.get k=none/\t'.get k=none)\/∃x y,t.get k=some x/\f k x=some y/\t'.get k=y:=by
 have:=tm_get f t t' 1 0 h k;simpa using this
end Tr
theorem Z2C (o:Tr Ze):∀(us:List (Nat×Option Ze)) (i:Nat),(Y6 o us).get i=ZC o.get us i:=by
 intro us
 induction us generalizing o with
 | nil=>intro i;rfl
 | cons u us ih =>
  intro i;obtain⟨j,x⟩:=u;rw[Y6,ih,];unfold ZC;simp only[Zu];cases hq:Zu i us with
  | some y=>rfl
  | none =>
   rw[Tr.get_set,Tr.beq_dec]
   by_cases e:i=j
   ·subst e;simp
   ·have:¬j=i:=fun h=>e h.symm;simp[e,this]
end Go.Ab
namespace Go.Ab
open Go.RowKit
def fw (ro:Option Nat):Fence:={ Fence.wide with round:=ro }
def ZhH (d:Nat):Deferred:={ target:=.collected d,args := #[] }
def Zh3 (P:Program) (g:FuncId):Prop:=∀(n:Nat) (cap:Array Value) (w:World),(invoke (.fn (.func g) cap) #[]).run P w=.ok (.enter g cap) w ∧
 CallsDIn Fence.wide n P g cap .returning w fun e u' w'=>(∃v,e=.returned v)/\u'=.returning/\w'=w
inductive Z6C (E:Env):List Nat->List Deferred->Prop where
 | nil:Z6C E [] []
 | mark {own:List Nat} {ds:List Deferred} (d:Nat):Z6C E own ds->Z6C E (d::own) (ZhH d::ds)
 | fn {own:List Nat} {ds:List Deferred} {g:Nat} (cap:Array Value):E.dfr g=true->Z6C E own ds->Z6C E own ({ target:=.fn (.func g) cap,args := #[] }::ds)
structure Go2 (nx:Nat) (β:Bi) (G:Gh) (β':Bi) (G':Gh) (h h':Nat->Option Ze):Prop where
 ext:Ext β G β' G'
 keep:∀id,id<nx->YQ β β' h h' id
theorem Go2.refl (nx:Nat) (β:Bi) (G:Gh) (h:Nat->Option Ze):Go2 nx β G β G h h:=⟨Ext.refl β G,fun id _=>YQ.refl β h id⟩
theorem Go2.trans {nx:Nat} {β β' β'':Bi} {G G' G'':Gh} {h h' a:Nat->Option Ze} (x:Go2 nx β G β' G' h h') (y:Go2 nx β' G' β'' G'' h' a):Go2 nx β G β'' G'' h a :=
 ⟨x.ext.trans y.ext,fun id hi=>(x.keep id hi).trans (y.keep id hi)⟩
theorem Go2.less {nx nx':Nat} {β β':Bi} {G G':Gh} {h h':Nat->Option Ze} (x:Go2 nx β G β' G' h h') (a:nx'<=nx):Go2 nx' β G β' G' h h':=⟨x.ext,fun id hi=>x.keep id (Nat.lt_of_lt_of_le hi a)⟩
structure MI (E:Env) (w0:World) (G0:Gh) (outer:DD) (V nt:Nat) (own:List Nat) (ρ:Nat->Option DV) (base:Tr DV) (h:Nat->Option Ze) (nx:Nat) (a:Act) (w:World) (β:Bi) (G:Gh):Prop where
 fr:FrM β G ρ a.tmps
 dom:∀t d,base.get t=some d->Nat.testBit V t=true
 sz:a.tmps.size=nt
 hr:HR E w0 G0 (Yx own outer) w β G h
 fresh:∀id,nx<=id->ZH β h id
 df:Z6C E own a.defers/\Z92 own outer
def YF (P:Program) (g:FuncId):Prop:=∀args w,(callFunc g args).run P w=.ok (.enter g args) w
def Z37 (P:Program) (E:Env) (call:Nat->List DV->Option DV):Prop:=∀g as d,call g as=some d->YF P g ∧
 ∀(w:World) (β:Bi) (G:Gh) (vs:Array Value),E.inv w->(∀b o v,G b o=some v->w.cell? ⟨b,o,none⟩=some v)->Zh β G as vs.toList->Zf as=true →
  Calls P g vs w fun e w'=>∃v G',e=.returned v/\Below w.heap.size w w'/\(∀b,b<w.heap.size->G' b=G b)/\(∀b o v,G' b o=some v->w'.cell? ⟨b,o,none⟩=some v)/\Zi d=true/\Rep β G' d v
def YL (E:Env) (w0:World) (G0:Gh) (D:DD) (β:Bi) (G:Gh) (objs:Tr Ze) (nx:Nat) (r:DV) (objs':Tr Ze) (nx':Nat) (e:Ending) (w':World):Prop :=
 ∃v β' G',e=.returned v/\nx<=nx'/\Go2 nx β G β' G' objs.get objs'.get/\HR E w0 G0 D w' β' G' objs'.get/\(∀id,nx'<=id->ZH β' objs'.get id)/\Rep β' G' r v
def YW (P:Program) (E:Env) (callH:Ye):Prop:=∀g as objs nx r objs' nx',callH g as objs nx=some (r,objs',nx')->YF P g ∧
 ∀(w0:World) (G0:Gh) (D:DD) (w:World) (β:Bi) (G:Gh) (vs:Array Value),HR E w0 G0 D w β G objs.get->(∀id,nx<=id->ZH β objs.get id)->Zh β G as vs.toList →
  Calls P g vs w (YL E w0 G0 D β G objs nx r objs' nx')
def Z1h (P:Program) (E:Env) (callY:Ye):Prop:=∀l as objs nx r objs' nx',callY l as objs nx=some (r,objs',nx') →
 ∀(w0:World) (G0:Gh) (D:DD) (w:World) (β:Bi) (G:Gh) (vs:Array Value) (b:Nat),β.blk l=some b->HR E w0 G0 D w β G objs.get->(∀id,nx<=id->ZH β objs.get id)->Zh β G as vs.toList →
  ∃lf tm as' bo,(Instr.yield b vs).run P w=.ok (.round b lf tm as' bo) w/\∀n,RoundIn Fence.wide n P b lf tm as' bo w (YL E w0 G0 D β G objs nx r objs' nx')
section
variable {P:Program} {E:Env} {w0:World} {G0:Gh} {D:DD} {o:Oper} {a:Act} {w:World} {β:Bi} {G:Gh} {h:Nat->Option Ze} {nid:Nat} {ρ:Nat->Option DV} {ro:Option Nat} {n:Nat}
theorem Z6I {g:FuncId} {args:Array Value} {R:Ending->World->Prop} (h:Calls P g args w R):CallsIn (fw ro) n P g args w R:=by
 have:=(callsIn_wide (n:=n)).2 h;exact this
theorem Zi6 {l:Nat} {f:FuncId} {tm:Array Value} {as bo:Code} {R:Ending->World->Prop} (h:RoundIn Fence.wide n P l f tm as bo w R):RoundIn (fw ro) n P l f tm as bo w R:=h
theorem HR.grow {w':World} {G':Gh} (hh:HR E w0 G0 D w β G h) (e:Below w.heap.size w w') (g:∀b,b<w.heap.size->G' b=G b) (i:∀b o v,G' b o=some v->w'.cell? ⟨b,o,none⟩=some v) :
  HR E w0 G0 D w' β G' h/\Ext β G β G':=by
 have m:Ext β G β G':=⟨fun b o v j=>by
  have a:b<w.heap.size:=by
   rcases Nat.lt_or_ge b w.heap.size with l|l
   ·exact l
   ·rw[glt hh l o]at j;cases j
  rw[g b a];exact j,fun _ _ h=>h,fun _ _ _ h=>h⟩
 refine⟨⟨?_,?_,i,?_,?_,hh.inj,?_,hh.inv0⟩,m⟩
 ·exact hh.below.trans ⟨e.os,e.tape,e.output,e.size,fun k p=>e.block k (by have:=hh.below.size;omega)⟩
 ·intro b a;rw[<-hh.g0 b a];exact g b (by have:=hh.below.size;omega)
 ·intro id ob f;refine Z1Q.keep m (fun _=>rfl) (fun b c=>?_) (hh.obj id ob f);have a:=(hh.own id ob b f c).2.1;exact⟨e.block b a,fun off=>by rw[g b a]⟩
 ·intro id ob b f c;obtain⟨k1,k2,k3⟩:=hh.own id ob b f c;exact⟨k1,Nat.lt_of_lt_of_le k2 e.size,k3⟩
 ·intro d x n;obtain⟨k1,k2,k3⟩:=hh.marks d x n;have a:=(ja.1 k2).1;exact⟨k1,(e.block d a).trans k2,fun o=>by rw[g d a];exact k3 o⟩
theorem Z9m {nid:Nat} {op:Op} {r:Out} (a:ZB E nid ρ h op=some r):∀c,op≠.defer c:=fun c hc=>by
 subst hc;simp[ZB]at a
def Zej (P:Program) (E:Env) (w0:World) (G0:Gh) (D:DD) (ro:Option Nat) (n:Nat) (o:Oper) (a:Act) (w:World) (β:Bi) (G:Gh) (h:Nat->Option Ze) (nid:Nat) (r:Out):Prop :=
 ∀(K:Act->World->Prop) (Q:Exit->Act->World->Prop),(∀v w' β' G',(∀d,r.val=some d->Rep β' G' d v)->Ext β G β' G'->HR E w0 G0 D w' β' G' (ZC h r.upd)->Z2p β β' h (ZC h r.upd) nid->K (a.put o.dst v) w')->o.wpIn (fw ro) n P a w K Q
theorem Y3.step {r:Out} (b:∀c,o.op≠.defer c) (hr:Y3 P E w0 G0 D o a w β G h nid r):Zej P E w0 G0 D ro n o a w β G h nid r:=fun K Q g=>by
 obtain⟨nx,v,w',β',G',l,k,d,i,j,e⟩:=hr;refine⟨fun f _=>trivial,?_⟩;rw[Oper.semAt_eq _ _ _ b,l];rcases k with rfl|⟨rfl,rfl⟩
 ·rw[Oper.uponIn_value];exact g v w' β' G' d i j e
 ·rw[Oper.uponIn_skip];exact g undef w' β' G' d i j e
theorem Z2V {ds es:List DV} {as bs:List Value} (a:Zh β G ds as) (b:Zh β G es bs):Zh β G (ds++es) (as++bs):=Y5.2 ⟨as,bs,rfl,a,b⟩
theorem Z8e (hE:∀t ti,E.ty t=some ti->ZO P t ti) (e:FrM β G ρ a.tmps) {c:Call} {g:FuncId} {x y:List DV} {as:List DV} (q:o.op=.call c) (ht:target E ρ c=some (.fn (.func g) x y,as)) (s:YF P g) :
  ∃vs:Array Value,(execOp a.eval o).run P w=.ok (.enter g vs) w/\Zh β G as vs.toList:=by
 unfold target at ht;split at ht
 ·rename_i f hc;obtain⟨df,j,ht⟩:=Z0 ht;split at ht
  ·rename_i g' first caps
   obtain⟨as',b,ht⟩:=Z0 ht;cases ht;obtain⟨vf,vc,hv,n,h⟩:=Zci.1 (Zp e j);refine⟨vf.toArray++c.args.map a.eval++vc.toArray,?_,?_⟩
   ·unfold execOp;rw[q];have p:=s (vf.toArray++c.args.map a.eval++vc.toArray) w;simpa[resolve,hc,hv,Deferred.ofValue,invoke]using p
   ·have:=Z2V (Z2V n (Z1H e b)) h;simpa using this
  ·obtain⟨as',b,ht⟩:=Z0 ht;cases ht
  ·cases ht
 ·rename_i rv m hc;obtain⟨df,j,ht⟩:=Z0 ht;split at ht
  ·rename_i t v;obtain⟨ti,l,ht⟩:=Z0 ht;obtain⟨g',z,ht⟩:=Z0 ht;obtain⟨as',b,ht⟩:=Z0 ht;cases ht;obtain⟨u,hu,hr⟩:=Z83.1 (Zp e j);refine⟨#[u]++c.args.map a.eval,?_,?_⟩
   ·unfold execOp;rw[q];have r:=(hE t ti l).meth m g z u (c.args.map a.eval) w;have p:=s (#[u]++c.args.map a.eval) w;rw[p]at r;have i:(#[Value.iface t u]++c.args.map a.eval).extract 1 (#[Value.iface t u]++c.args.map a.eval).size=c.args.map a.eval:=by
     rw[Array.extract_append];simp
    have k:(#[Value.iface t u]++c.args.map a.eval)[0]? = some (.iface t u):=by
     rw[Array.getElem?_append_left (by simp)];rfl
    simp only[resolve,hc,hu];show((Pure.pure ({ target:=.fn (.method m) #[],args := #[Value.iface t u]++c.args.map a.eval }:Deferred):Sem Deferred) >>= fun d=>invoke d.target d.args).run P w=_;simp only[pure_bind];unfold invoke;simp only[k,i];exact r
   ·have:=Zd.2 ⟨u,_,rfl,hr,Z1H e b⟩;simpa using this
  ·cases ht
 ·cases ht
theorem Zfj (e:FrM β G ρ a.tmps) {c:Call} {l:Nat} {as:List DV} (h:o.op=.call c) (ht:target E ρ c=some (.yld l,as)) :
  ∃(vs:Array Value) (b:Nat),β.blk l=some b/\execOp a.eval o=Instr.yield b vs/\Zh β G as vs.toList:=by
 unfold target at ht;split at ht
 ·rename_i f hc;obtain⟨df,g,ht⟩:=Z0 ht;split at ht
  ·obtain⟨as',d,ht⟩:=Z0 ht;cases ht
  ·rename_i id;obtain⟨as',d,ht⟩:=Z0 ht;cases ht;obtain⟨b,j,hv⟩:=Zg1.1 (Zp e g);refine⟨c.args.map a.eval,b,j,?_,by simpa using Z1H e d⟩
   unfold execOp;rw[h];simp[resolve,hc,hv,Deferred.ofValue,invoke]
  ·cases ht
 ·obtain⟨df,g,ht⟩:=Z0 ht;split at ht
  ·obtain⟨ti,i,ht⟩:=Z0 ht;obtain⟨g',k,ht⟩:=Z0 ht;obtain⟨as',d,ht⟩:=Z0 ht;cases ht
  ·cases ht
 ·cases ht
theorem Z3B {op:Op} {c:Call} (h:Z3d op=some c):op=.call c:=by
 unfold Z3d at h;split at h
 ·split at h
  ·cases h;rfl
  ·cases h;rfl
  ·cases h
 ·cases h
mutual
theorem Zbu {β β':Bi} {G G':Gh}:∀{d d':DV} {v:Value},Yy d=some d'->Rep β' G' d v->Rep β G d' v
 | .bool _,_,_,h,hr=>by simp only[Yy,jh]at h;subst h;unfold Rep at hr⊢;exact hr
 | .int _ _,_,_,h,hr=>by simp only[Yy,jh]at h;subst h;unfold Rep at hr⊢;exact hr
 | .str _,_,_,h,hr=>by simp only[Yy,jh]at h;subst h;unfold Rep at hr⊢;exact hr
 | .sl _,_,_,h,hr=>by
  simp only[Yy,jh]at h;subst h;obtain⟨a,c,⟨e,b⟩,_⟩:=Z3m.1 hr;exact ZdK.2 ⟨a,c,e,b⟩
 | .tup vs,_,_,h,hr=>by
  simp only[Yy]at h;obtain⟨vs',e,h⟩:=Z0 h;cases h;obtain⟨us,rfl,b⟩:=Yv.1 hr;exact Yv.2 ⟨us,rfl,Zaq e b⟩
 | .nilp,_,_,h,_=>by simp[Yy]at h
 | .ptr _ _,_,_,h,_=>by simp[Yy]at h
 | .rptr _ _ _ _ _,_,_,h,_=>by simp[Yy]at h
 | .pub _,_,_,h,_=>by simp[Yy]at h
 | .nils,_,_,h,_=>by simp[Yy]at h
 | .rs _ _,_,_,h,_=>by simp[Yy]at h
 | .rv _ _ _ _ _,_,_,h,_=>by simp[Yy]at h
 | .slen _,_,_,h,_=>by simp[Yy]at h
 | .agg _,_,_,h,_=>by simp[Yy]at h
 | .fn _ _ _,_,_,h,_=>by simp[Yy]at h
 | .nilfn,_,_,h,_=>by simp[Yy]at h
 | .map _,_,_,h,_=>by simp[Yy]at h
 | .nilmap,_,_,h,_=>by simp[Yy]at h
 | .iface _ _,_,_,h,_=>by simp[Yy]at h
 | .nilif,_,_,h,_=>by simp[Yy]at h
 | .iter _,_,_,h,_=>by simp[Yy]at h
 | .yld _,_,_,h,_=>by simp[Yy]at h
theorem Zaq {β β':Bi} {G G':Gh}:∀{ds ds':List DV} {vs:List Value},Z5v ds=some ds'->Zh β' G' ds vs->Zh β G ds' vs
 | [],_,_,h,hr=>by simp only[Z5v,jh]at h;subst h;rw[Zj]at hr⊢;exact hr
 | d::ds,_,_,h,hr=>by
  simp only[Z5v]at h;obtain⟨d',b,h⟩:=Z0 h;obtain⟨ds',a,h⟩:=Z0 h;cases h;obtain⟨v,vs,rfl,k1,k2⟩:=Zd.1 hr;exact Zd.2 ⟨v,vs,rfl,Zbu b k1,Zaq a k2⟩
end
theorem ZbH (hE:∀t ti,E.ty t=some ti->ZO P t ti) {call:Nat->List DV->Option DV} (hp:Z37 P E call) (hf:FrM β G ρ a.tmps) (hh:HR E w0 G0 D w β G h) {c:Call} (ho:o.op=.call c) {r:Out} (j:Z53 E call ρ h c=some r) :
  Zej P E w0 G0 D ro n o a w β G h nid r:=fun K Q hk=>by
 unfold Z53 at j;obtain⟨tg,ht,j⟩:=Z0 j;split at j
 ·rename_i g x y as;obtain⟨fs,hfs,j⟩:=Z0 j;obtain⟨d,hcall,j⟩:=Z0 j;obtain⟨a0,hcs⟩:=hp g fs d hcall;cases l:as.any Zhy with
  | true =>
   rw[l]at j;simp only[jB]at j;obtain⟨d',hwk,j⟩:=Z0 j;cases j;obtain⟨vs,q,s⟩:=Z8e (w:=w) hE hf ho ht a0;obtain⟨G1,m,z,hs1⟩:=Z1N hh (Zl as);obtain⟨hr1,hid⟩:=Z7G m (Z2a h _) (fun i t es p u hi c hc=>by obtain⟨_,_,_,_,_,k,_⟩:=hh.obj _ _ hi;exact(k c hc).1) hfs hs1 s
   have hC:=hcs w β G1 vs hh.inv z.agree hr1 hid;refine⟨fun f _=>trivial,?_⟩;rw[Oper.semAt_eq _ _ _ (by rw[ho];simp),q,Oper.uponIn_enter]
   refine⟨fun hq=>by simp[fw,Fence.wide]at hq,Z6I (Calls.mono hC fun e w' he=>?_)⟩
   obtain⟨v,G',rfl,hb,hg,a2,_,l⟩:=he;have hagG:∀b o v,G b o=some v->w'.cell? ⟨b,o,none⟩=some v:=fun b o v hq=>by
    have hlt:b<w.heap.size:=by
     rcases Nat.lt_or_ge b w.heap.size with h1|h1
     ·exact h1
     ·rw[glt hh h1 o]at hq;cases hq
    exact a2 b o v (by rw[hg b hlt];exact m.g b o v hq)
   obtain⟨hh2,a1⟩:=hh.grow hb (fun _ _=>rfl) hagG;exact hk v w' β G (fun d'' hd'=>by cases hd';exact Zbu hwk l) a1 hh2 (Z2p.refl _ _ _)
  | false =>
  rw[l]at j;simp only[jA]at j;cases j;obtain⟨vs,q,s⟩:=Z8e (w:=w) hE hf ho ht a0;obtain⟨G1,m,z,hs1⟩:=Z1N hh (Zl as);obtain⟨hr1,hid⟩:=Z7G m (Z2a h _) (fun i t es p u hi c hc=>by obtain⟨_,_,_,_,_,k,_⟩:=hh.obj _ _ hi;exact(k c hc).1) hfs hs1 s
  have hC:=hcs w β G1 vs hh.inv z.agree hr1 hid;refine⟨fun f _=>trivial,?_⟩;rw[Oper.semAt_eq _ _ _ (by rw[ho];simp),q,Oper.uponIn_enter]
  refine⟨fun hq=>by simp[fw,Fence.wide]at hq,Z6I (Calls.mono hC fun e w' he=>?_)⟩
  obtain⟨v,G',rfl,hb,hg,a2,_,l⟩:=he;obtain⟨hh2,a1⟩:=z.grow hb hg a2;refine hk v w' β G' (fun d' hd'=>by cases hd';exact l) (m.trans a1) hh2 (Z89 _)
 ·cases j
theorem Z8q (hE:∀t ti,E.ty t=some ti->ZO P t ti) {call:Nat->List DV->Option DV} (f:Z37 P E call) (e:FrM β G ρ a.tmps) (hh:HR E w0 G0 D w β G h) (d:ZH β h nid) {r:Out}
  (b:Z8p E call nid ρ h o.op=some r):Zej P E w0 G0 D ro n o a w β G h nid r:=by
 unfold Z8p at b;split at b
 ·rename_i c hc;exact ZbH hE f e hh (Z3B hc) b
 ·exact(Zey hE e hh d b).step (Z9m b)
end
end Go.Ab
namespace Go.Ab
open Go.RowKit
section
variable {P:Program} {E:Env} {w0:World} {G0:Gh} {D:DD} {w:World} {β:Bi} {G:Gh} {h:Nat->Option Ze}
def Z2T (h:Nat->Option Ze) (i:Nat):Bool:=match h i with|some (.row _ _ p _)=>Nat.beq p 1|_=>false
theorem ZgR (h:Nat->Option Ze) (is:List Nat):Zs h (is.filter (Z2T h))=[]:=by
 induction is with
 | nil=>rfl
 | cons i is ih =>
  rw[List.filter_cons];cases hq:Z2T h i with
  | false=>simpa using ih
  | true =>
   simp only[if_true,Zs,ih,jo];unfold Z2T at hq;split at hq
   ·rename_i p _ hi;rw[hi];simp only[hq,jB]
   ·cases hq
theorem Zd6 {G':Gh} (a:Ext β G β G') {is:List Nat} (j:∀i∈is.filter (Z2T h),Z2L E β G' h i) {hv:Nat->Option Ze} (c:∀i∈is,∀x,hv i=some x->h i=some x) {d:DV} {v:Value} (f:∀i∈Zk d,i∈is) (hr:Rep β G d v):Rep β G' (Z6l hv d) v:=by
 unfold Z6l;split
 ·rename_i id ver;split
  ·rename_i es p u b;have e:=c id (f id (by simp[Zk])) _ b
   cases hq:Nat.beq p 1&&Nat.beq u ver with
   | false=>exact Rep.mono a _ _ hr
   | true =>
    simp only[jn]at hq;have g:frz h (.rs id ver)=some (.sl es):=by simp[frz,e,hq.2]
    refine(Z5z a (fun i t es p u hi=>⟨p,hi⟩) g (fun i hi=>j i (List.mem_filter.2 ⟨f i hi,?_⟩)) hr).1;have:i=id:=by simpa[Zk]using hi
    subst this;unfold Z2T;rw[e];exact hq.1
  ·exact Rep.mono a _ _ hr
 ·exact Rep.mono a _ _ hr
theorem ZaS {G':Gh} (c:Ext β G β G') {is:List Nat} (b:∀i∈is.filter (Z2T h),Z2L E β G' h i) {hv:Nat->Option Ze} (a:∀i∈is,∀x,hv i=some x->h i=some x):∀{ds:List DV} {vs:List Value},(∀i∈Zl ds,i∈is)->Zh β G ds vs->Zh β G' (ds.map (Z6l hv)) vs
 | [],vs,_,hr=>by
  rw[Zj]at hr;exact Zj.2 hr
 | d::ds,vs,hm,hr=>by
  obtain⟨v,vs',rfl,f,e⟩:=Zd.1 hr;exact Zd.2 ⟨v,vs',rfl,Zd6 c b a (fun i hi=>hm i (by simp[Zl,hi])) f,ZaS c b a (fun i hi=>hm i (by simp[Zl,hi])) e⟩
theorem Zhv {G':Gh} (f:Ext β G β G') {is:List Nat} (e:∀i∈is.filter (Z2T h),Z2L E β G' h i) {hv:Nat->Option Ze} (a:∀i∈is,∀x,hv i=some x->h i=some x) {d:DV} {v:Value} (c:∀i∈Zk d,i∈is) (hr:Rep β G d v):Rep β G' (Z3w hv d) v:=by
 unfold Z3w;split
 ·rename_i cs;obtain⟨vs,rfl,b⟩:=YN.1 hr;exact YN.2 ⟨vs,rfl,ZaS f e a (by simpa[Zk]using c) b⟩
 ·exact Zd6 f e a c hr
theorem ZaT {G':Gh} (c:Ext β G β G') {is:List Nat} (b:∀i∈is.filter (Z2T h),Z2L E β G' h i) {hv:Nat->Option Ze} (a:∀i∈is,∀x,hv i=some x->h i=some x):∀{ds:List DV} {vs:List Value},(∀i∈Zl ds,i∈is)->Zh β G ds vs->Zh β G' (ds.map (Z3w hv)) vs
 | [],vs,_,hr=>by
  rw[Zj]at hr;exact Zj.2 hr
 | d::ds,vs,hm,hr=>by
  obtain⟨v,vs',rfl,f,e⟩:=Zd.1 hr;exact Zd.2 ⟨v,vs',rfl,Zhv c b a (fun i hi=>hm i (by simp[Zl,hi])) f,ZaT c b a (fun i hi=>hm i (by simp[Zl,hi])) e⟩
theorem Zd9 (hh:HR E w0 G0 D w β G h) {as:List DV} {vs:List Value} (hr:Zh β G as vs) {hv:Nat->Option Ze} (a:∀i∈Zl as,∀x,hv i=some x->h i=some x) :
  ∃G',Ext β G β G'/\HR E w0 G0 D w β G' h/\Zh β G' (as.map (Z3w hv)) vs:=by
 obtain⟨G',c,b,d⟩:=Z1N hh ((Zl as).filter (Z2T h));rw[ZgR]at b d;exact⟨G',c,b,ZaT c d a (fun i hi=>hi) hr⟩
open Classical in
noncomputable def Z7A (D:DD) (w:World) (β:Bi) (G:Gh) (h s:Nat->Option Ze):DD:=fun b=>match D b with
 | some x=>some x
 | none=>if ∃i x,h i=some x/\s i=none/\Yi β i x b then(w.heap[b]?).map fun ob=>(ob,G b)else none
theorem ZaN {s:Nat->Option Ze} (hh:HR E w0 G0 D w β G h) {i b:Nat} {x:Ze} (hi:h i=some x) (e:s i=none) (a:Yi β i x b) :
  ∃ob,w.heap[b]? = some ob/\Z7A D w β G h s b=some (ob,G b):=by
 obtain⟨_,c,d⟩:=hh.own i x b hi a;refine⟨w.heap[b],by simp[c],?_⟩
 unfold Z7A;rw[d];simp only;rw[if_pos ⟨i,x,hi,e,a⟩];simp[c]
theorem Zhl {s:Nat->Option Ze} {b:Nat} (a:Z7A D w β G h s b=none):D b=none:=by
 unfold Z7A at a;cases hd:D b with
 | none=>rfl
 | some x=>rw[hd]at a;cases a
theorem ZiA {s:Nat->Option Ze} {b:Nat} {x:Obj×(Nat->Option Value)} (a:D b=some x):Z7A D w β G h s b=some x:=by
 unfold Z7A;rw[a]
theorem Zet {s:Nat->Option Ze} (hh:HR E w0 G0 D w β G h) (c:∀i x,s i=some x->h i=some x):HR E w0 G0 (Z7A D w β G h s) w β G s:=by
 refine⟨hh.below,hh.g0,hh.agree,fun i o hi=>hh.obj i o (c i o hi),fun i o b hi k=>?_,fun i j o p b hi m=>hh.inj i j o p b (c i o hi) (c j p m),fun d x a=>?_,hh.inv0⟩
 ·obtain⟨k1,k2,k3⟩:=hh.own i o b (c i o hi) k;refine⟨k1,k2,?_⟩;unfold Z7A;rw[k3];simp only;rw[if_neg];rintro⟨j,y,g,e,f⟩;have:=hh.inj i j o y b (c i o hi) g k f;subst this;rw[hi]at e;cases e
 ·unfold Z7A at a;cases hq:D d with
  | some y =>
   rw[hq]at a;simp only[jh]at a;subst a;exact hh.marks d y hq
  | none =>
   rw[hq]at a;simp only at a;split at a
   ·rename_i l;obtain⟨i,y,g,e,f⟩:=l;obtain⟨k1,k2,k3⟩:=hh.own i y d g f;simp only[k2,getElem?_pos,jq,jh]at a;subst a;exact⟨k1,by simp[k2],fun _=>rfl⟩
   ·cases a
theorem Z8J (f:Nat->Option Ze):∀(L:List Nat) (id:Nat),Zu id (L.map fun i=>(i,f i))=if id∈L then some (f id)else none
 | [],_=>rfl
 | i::L,id=>by
  simp only[jr,Zu,Z8J f L id]
  by_cases e:id∈L
  ·simp[e]
  ·simp only[e,if_false,jv,or_false,Tr.beq_dec]
   by_cases e2:i=id
   ·subst e2;simp
   ·have:¬id=i:=fun q=>e2 q.symm;simp[e2,this]
def Zgk (o:Tr Ze) (R:List Nat) (nx:Nat):List Nat:=R++((o.ents 1 0).map (·.1)).filter (Nat.ble nx)
theorem Zhj {o:Tr Ze} {R:List Nat} {nx i:Nat} (hi:i∈Zgk o R nx):i∈R\/nx<=i:=by
 unfold Zgk at hi;rcases List.mem_append.1 hi with h|h
 ·exact .inl h
 ·exact .inr (jf (List.mem_filter.1 h).2)
theorem Z7u (h:Nat->Option Ze) (o:Tr Ze) (R:List Nat) (nx id:Nat):ZC h (Z51 o R nx) id=if id∈Zgk o R nx then o.get id else h id:=by
 unfold ZC Z51;rw[Z8J o.get];unfold Zgk;split<;>rename_i q
 ·split at q
  ·rename_i e;cases q;rw[if_pos e]
  ·cases q
 ·split at q
  ·cases q
  ·rename_i e;rw[if_neg e]
def Zim (E:Env) (w0:World) (G0:Gh) (D:DD) (β:Bi) (G:Gh) (h:Nat->Option Ze) (nx:Nat) (r:DV) (upd:List (Nat×Option Ze)) (nx':Nat) (e:Ending) (w':World):Prop :=
 ∃v β' G',e=.returned v/\nx<=nx'/\Ext β G β' G'/\(∀id,id<nx->YQ β β' h (ZC h upd) id)/\HR E w0 G0 D w' β' G' (ZC h upd)/\(∀id,nx'<=id->ZH β' (ZC h upd) id)/\Rep β' G' r v
theorem ZbD {s:Tr Ze} {R:List Nat} {nx:Nat} (hh:HR E w0 G0 D w β G h) (hs:∀i x,s.get i=some x->h i=some x) (a3:∀i x,s.get i=some x->i∈R) (a0:∀id,nx<=id->ZH β h id) {r:DV} {o':Tr Ze} {nx':Nat} {e:Ending} {w':World}
  (hp:YL E w0 G0 (Z7A D w β G h s.get) β G s nx r o' nx' e w'):Zim E w0 G0 D β G h nx r (Z51 o' R nx) nx' e w':=by
 obtain⟨v,β',G',rfl,hle,o,c,a2,hv⟩:=hp;have g:∀i x,ZC h (Z51 o' R nx) i=some x->(i∈Zgk o' R nx/\o'.get i=some x)\/(h i=some x/\s.get i=none/\i<nx):=fun i x hi=>by
  rw[Z7u]at hi
  by_cases e:i∈Zgk o' R nx
  ·rw[if_pos e]at hi;exact .inl ⟨e,hi⟩
  ·rw[if_neg e]at hi;refine .inr ⟨hi,?_,?_⟩
   ·cases hq:s.get i with
    | none=>rfl
    | some y=>exact absurd (List.mem_append_left _ (a3 i y hq)) e
   ·rcases Nat.lt_or_ge i nx with q|q
    ·exact q
    ·rw[(a0 i q).h]at hi;cases hi
 have a:∀i,s.get i=none->i<nx->o'.get i=none/\β'.blk i=β.blk i/\∀u,β'.hdr i u=β.hdr i u:=fun i hi n=>o.keep i n hi;have l:∀i x b,h i=some x->s.get i=none->i<nx->Yi β' i x b->∃ob,w.heap[b]? = some ob/\Z7A D w β G h s.get b=some (ob,G b):=fun i x b hi z n k=>by
  obtain⟨_,k2,k3⟩:=a i z n;exact ZaN hh hi z ((Z1j k2 k3 x b).1 k)
 refine⟨v,β',G',rfl,hle,o.ext,fun id t z=>?_,⟨c.below,c.g0,c.agree,fun i x hi=>?_,fun i x b hi k=>?_,fun i j x y b hi hj k hc=>?_,fun d x hd=>c.marks d x (ZiA hd),hh.inv0⟩,fun id t=>?_,hv⟩
 ·have a1:s.get id=none:=by
   cases hq:s.get id with
   | none=>rfl
   | some y=>rw[hs id y hq]at z;cases z
  obtain⟨k1,k2,k3⟩:=a id a1 t;refine⟨?_,k2,k3⟩;rw[Z7u];split
  ·exact k1
  ·exact z
 ·rcases g i x hi with⟨_,f⟩|⟨f,m,p⟩
  ·exact c.obj i x f
  ·obtain⟨_,k2,k3⟩:=a i m p;refine Z1Q.keep o.ext k3 (fun b k=>?_) (hh.obj i x f);obtain⟨ob,m1,m2⟩:=ZaN (D:=D) hh f m k;obtain⟨_,m3,m4⟩:=c.marks b _ m2;exact⟨m3.trans m1.symm,m4⟩
 ·rcases g i x hi with⟨_,f⟩|⟨f,m,p⟩
  ·obtain⟨k1,k2,k3⟩:=c.own i x b f k;exact⟨k1,k2,Zhl k3⟩
  ·obtain⟨_,k2,k3⟩:=a i m p;obtain⟨m1,_,m3⟩:=hh.own i x b f ((Z1j k2 k3 x b).1 k);obtain⟨ob,_,m5⟩:=l i x b f m p k;exact⟨m1,(ja.1 (c.marks b _ m5).2.1).1,m3⟩
 ·rcases g i x hi with⟨_,f⟩|⟨f,m,p⟩<;>rcases g j y hj with⟨_,g1⟩|⟨g1,g2,g3⟩
  ·exact c.inj i j x y b f g1 k hc
  ·obtain⟨ob,_,m2⟩:=l j y b g1 g2 g3 hc;rw[(c.own i x b f k).2.2]at m2;cases m2
  ·obtain⟨ob,_,m2⟩:=l i x b f m p k;rw[(c.own j y b g1 hc).2.2]at m2;cases m2
  ·obtain⟨_,k2,k3⟩:=a i m p;obtain⟨_,k4,k5⟩:=a j g2 g3;exact hh.inj i j x y b f g1 ((Z1j k2 k3 x b).1 k) ((Z1j k4 k5 y b).1 hc)
 ·have hf:=a2 id t;refine⟨hf.blk,hf.hdr,?_⟩;rw[Z7u];split
  ·exact hf.h
  ·exact(a0 id (by omega)).h
theorem Z2b (h:Nat->Option Ze):∀(R:List Nat) (i:Nat),(Z2A h R).get i=if i∈R then h i else none
 | [],_=>rfl
 | j::R,i=>by
  simp only[Z2A,Tr.get_set,Z2b h R]
  by_cases e:i=j
  ·subst e;simp
  ·simp[e]
theorem Zeq {callH callY:Ye} (hv:Nat->Option Ze) (nx:Nat) (tgt:DV×List DV) (out:Out) (T:List Nat) (nx2:Nat) (a:YX callH callY hv nx tgt=some (out,T,nx2)):nx<=nx2:=by
 unfold YX at a;split at a
 ·unfold Z3I at a;obtain⟨x,_,a⟩:=Z0 a;obtain⟨b,a⟩:=Z3 a;cases a;exact jf b
 ·unfold Z3I at a;obtain⟨x,_,a⟩:=Z0 a;obtain⟨b,a⟩:=Z3 a;cases a;exact jf b
 ·cases a
theorem Z5T (hE:∀t ti,E.ty t=some ti->ZO P t ti) {callH callY:Ye} (hH:YW P E callH) (hY:Z1h P E callY) {o:Oper} {a:Act} {ro:Option Nat} {n:Nat} {ρ:Nat->Option DV} (hf:FrM β G ρ a.tmps) {c:Call} (ho:Z3d o.op=some c) {tgt:DV×List DV}
  (ht:target E ρ c=some tgt) (hh:HR E w0 G0 D w β G h) {hv:Nat->Option Ze} {nx nx':Nat} {out:Out} {T:List Nat} (j:YX callH callY hv nx tgt=some (out,T,nx')) (hvw:∀i∈T,∀x,hv i=some x->h i=some x) (k:∀id,nx<=id->ZH β h id)
  {K:Act->World->Prop} {Q:Exit->Act->World->Prop}
  (hk:∀v w' β' G',(∀d,out.val=some d->Rep β' G' d v)->nx<=nx'->Ext β G β' G'->(∀id,id<nx->YQ β β' h (ZC h out.upd) id)->HR E w0 G0 D w' β' G' (ZC h out.upd)->(∀id,nx'<=id->ZH β' (ZC h out.upd) id)->K (a.put o.dst v) w'):o.wpIn (fw ro) n P a w K Q:=by
 have a1:=Z3B ho;have a2:∀{R:List Nat},(∀i∈R,i∈T)->(∀i x,(Z2A hv R).get i=some x->h i=some x)/\(∀i x,(Z2A hv R).get i=some x->i∈R):=fun {R} hRT=>by
  refine⟨fun i x hi=>?_,fun i x hi=>?_⟩
  ·rw[Z2b]at hi;split at hi
   ·rename_i hm;exact hvw i (hRT i hm) x hi
   ·cases hi
  ·rw[Z2b]at hi;split at hi
   ·rename_i hm;exact hm
   ·cases hi
 unfold YX at j;split at j
 ·rename_i g x y as;unfold Z3I at j;obtain⟨⟨r,o',nx2⟩,hc,j⟩:=Z0 j;obtain⟨_,j⟩:=Z3 j;cases j;obtain⟨hent,hcs⟩:=hH _ _ _ _ _ _ _ hc;obtain⟨vs,u,z⟩:=Z8e (w:=w) hE hf a1 ht hent;obtain⟨G1,hx1,s,p⟩:=Zd9 hh z (hv:=hv) (fun i hi x hx=>hvw i (List.mem_append_left _ hi) x hx);obtain⟨hs,hsR⟩:=a2 (R:=Z1l hv 4096 (Z1v (as.map (Z3w hv))) []) (fun i hi=>List.mem_append_right _ hi);refine⟨fun f _=>trivial,?_⟩;rw[Oper.semAt_eq _ _ _ (by rw[a1];simp),u,Oper.uponIn_enter]
  have q:∀id,nx<=id->ZH β (Z2A hv (Z1l hv 4096 (Z1v (as.map (Z3w hv))) [])).get id:=fun id m=>⟨(k id m).blk,(k id m).hdr,by
   cases hq:(Z2A hv (Z1l hv 4096 (Z1v (as.map (Z3w hv))) [])).get id with
   | none=>rfl
   | some y=>have:=hs id y hq;rw[(k id m).h]at this;cases this⟩
  refine⟨fun hq=>by simp[fw,Fence.wide]at hq,Z6I (Calls.mono (hcs w0 G0 _ w β G1 vs (Zet s hs) q p) fun e w' he=>?_)⟩
  obtain⟨v,β',G',rfl,hle,hx,hkp,a4,hf2,a3⟩:=ZbD s hs hsR k he;exact hk v w' β' G' (fun d j=>by cases j;exact a3) hle (hx1.trans hx) hkp a4 hf2
 ·rename_i l as;unfold Z3I at j;obtain⟨⟨r,o',nx2⟩,hc,j⟩:=Z0 j;obtain⟨_,j⟩:=Z3 j;cases j;obtain⟨vs,b,hb,u,z⟩:=Zfj hf a1 ht;obtain⟨G1,hx1,s,p⟩:=Zd9 hh z (hv:=hv) (fun i hi x hx=>hvw i (List.mem_append_left _ hi) x hx);obtain⟨hs,hsR⟩:=a2 (R:=Z1l hv 4096 (l::Z1v (as.map (Z3w hv))) []) (fun i hi=>List.mem_append_right _ hi);have q:∀id,nx<=id->ZH β (Z2A hv (Z1l hv 4096 (l::Z1v (as.map (Z3w hv))) [])).get id:=fun id m=>⟨(k id m).blk,(k id m).hdr,by
   cases hq:(Z2A hv (Z1l hv 4096 (l::Z1v (as.map (Z3w hv))) [])).get id with
   | none=>rfl
   | some y=>have:=hs id y hq;rw[(k id m).h]at this;cases this⟩
  obtain⟨lf,tm,as',bo,hy,a0⟩:=hY _ _ _ _ _ _ _ hc w0 G0 _ w β G1 vs b hb (Zet s hs) q p;refine⟨fun f _=>trivial,?_⟩;rw[Oper.semAt_eq _ _ _ (by rw[a1];simp),u,hy,Oper.uponIn_round]
  refine⟨fun hq=>by simp[fw,Fence.wide]at hq,Zi6 (RoundIn.mono (a0 _) fun e w' he=>?_)⟩
  obtain⟨v,β',G',rfl,hle,hx,hkp,a4,hf2,a3⟩:=ZbD s hs hsR k he;exact hk v w' β' G' (fun d j=>by cases j;exact a3) hle (hx1.trans hx) hkp a4 hf2
 ·cases j
end
end Go.Ab
namespace Go.Ab
open Go.RowKit
section
variable {P:Program} {E:Env} {w0:World} {G0:Gh} {outer:DD} {own:List Nat} {V nt:Nat} {o:Oper} {a:Act} {w:World} {β:Bi} {G:Gh} {ro:Option Nat} {n:Nat}
theorem Z40 (V nt:Nat) (m:Mid) (dst:Option Tmp) (v:Option DV):(m.put V nt dst v).objs=m.objs/\(m.put V nt dst v).next=m.next:=by
 unfold Mid.put;cases dst with
 | none=>exact⟨rfl,rfl⟩
 | some d =>
  simp only;cases(!Nat.blt d nt)with
  | true=>exact⟨rfl,rfl⟩
  | false=>cases Nat.testBit V d<;>exact⟨rfl,rfl⟩
theorem ZdZ (V nt:Nat) (m:Mid) (dst:Option Tmp) (v:Option DV) (t:Nat) :
  ZV V (m.put V nt dst v).base (m.put V nt dst v).loc t=if dst=some t/\t<nt then v else ZV V m.base m.loc t:=by
 unfold Mid.put;cases dst with
 | none=>simp
 | some d =>
  simp only[Tr.blt_dec]
  by_cases hl:d<nt
  ·simp only[hl,decide_true,Bool.not_true,jA];cases hv:Nat.testBit V d with
   | true =>
    simp only[jB];unfold ZV
    by_cases e:d=t
    ·subst e;simp[hv,hl,Tr.get_set]
    ·have:¬t=d:=fun h=>e h.symm;simp[e,Tr.get_set,this]
   | false =>
    simp only[jA];unfold ZV
    by_cases e:d=t
    ·subst e;simp[hv,hl,Loc.find]
    ·simp[e,Loc.find,Tr.beq_dec]
  ·simp only[hl,decide_false,Bool.not_false,jB]
   by_cases e:d=t
   ·subst e;simp[hl]
   ·simp[e]
theorem ZfW (V nt:Nat) (m:Mid) (dst:Option Tmp) (v:Option DV) (h:∀t d,m.base.get t=some d->Nat.testBit V t=true) :
  ∀t d,(m.put V nt dst v).base.get t=some d->Nat.testBit V t=true:=by
 unfold Mid.put;cases dst with
 | none=>exact h
 | some d =>
  simp only;cases(!Nat.blt d nt)with
  | true=>exact h
  | false =>
   cases hv:Nat.testBit V d with
   | true =>
    intro t d' ht;simp only[jA,jB,Tr.get_set]at ht
    by_cases e:t=d
    ·rw[e];exact hv
    ·rw[if_neg e]at ht;exact h t d' ht
   | false=>exact h
abbrev MM (E:Env) (w0:World) (G0:Gh) (outer:DD) (V nt:Nat) (own:List Nat) (m:Mid) (a:Act) (w:World) (β:Bi) (G:Gh):Prop :=
 MI E w0 G0 outer V nt own (ZV V m.base m.loc) m.base m.objs.get m.next a w β G
theorem ZfE {ρ ρ':Nat->Option DV} {β':Bi} {G':Gh} (m:Ext β G β' G') (b:a.tmps.size=nt) (j:FrM β G ρ a.tmps) {dst:Option Tmp} {val:Option DV} {v:Value} (hv:∀d,val=some d->Rep β' G' d v)
  (l:∀t d,ρ' t=some d->(dst=some t/\t<nt/\val=some d)\/(¬(dst=some t/\t<nt)/\ρ t=some d)):FrM β' G' ρ' (a.put dst v).tmps:=fun t d ht=>by
 rcases l t d ht with⟨rfl,k,c⟩|⟨n,c⟩
 ·refine⟨v,?_,hv d c⟩;simp[Act.put,b,k]
 ·obtain⟨u,i,hr⟩:=j t d c;refine⟨u,?_,Rep.mono m d u hr⟩;cases dst with
  | none=>exact i
  | some e =>
   have f:t<nt:=by rw[<-b];exact(ja.1 i).1
   have g:e≠t:=fun h=>n ⟨by rw[h],f⟩
   simp only[Act.put];rw[Array.getElem?_setIfInBounds_ne g];exact i
theorem ZdC (dst:Option Tmp) (v:Value):(a.put dst v).tmps.size=a.tmps.size/\(a.put dst v).defers=a.defers:=by
 cases dst<;>simp[Act.put]
theorem MM.put {m:Mid} (b:MM E w0 G0 outer V nt own m a w β G) {objs:Tr Ze} {nx:Nat} {dst:Option Tmp} {val:Option DV} {v:Value} {w':World} {β':Bi} {G':Gh} (j:Ext β G β' G')
  (hv:∀d,val=some d->Rep β' G' d v) (hh:HR E w0 G0 (Yx own outer) w' β' G' objs.get) (g:∀id,nx<=id->ZH β' objs.get id) :
  MM E w0 G0 outer V nt own (({ m with objs:=objs,next:=nx }:Mid).put V nt dst val) (a.put dst v) w' β' G':=by
 obtain⟨f,h⟩:=Z40 V nt ({ m with objs:=objs,next:=nx }:Mid) dst val
 obtain⟨i,k⟩:=ZdC (a:=a) dst v;refine⟨ZfE j b.sz b.fr hv fun t d ht=>?_,ZfW V nt _ dst val b.dom,i.trans b.sz,by rw[f];exact hh,fun id c=>?_,⟨by rw[k];exact b.df.1,b.df.2⟩⟩
 ·rw[ZdZ]at ht
  by_cases e:dst=some t/\t<nt
  ·rw[if_pos e]at ht;exact .inl ⟨e.1,e.2,ht⟩
  ·rw[if_neg e]at ht;exact .inr ⟨e,ht⟩
 ·rw[f];rw[h]at c;exact g id c
theorem Z2Z {ops:Array Oper} {ρ:Nat->Option DV} (i:FrM β G ρ a.tmps) {want:Bool} (h:Z1z ops ρ o=some want):Region.wanted o (yielded ops a.tmps)=want:=by
 unfold Z1z at h;unfold Region.wanted;cases hg:o.guard with
 | none=>rw[hg]at h;simp only[jh]at h;exact h
 | some g =>
  obtain⟨j,wt⟩:=g;rw[hg]at h;simp only at h⊢;unfold yielded;cases hd:(ops[j]?).bind (·.dst)with
  | none=>rw[hd]at h;cases h
  | some t =>
   rw[hd]at h;simp only at h;cases hr:ρ t with
   | none=>rw[hr]at h;cases h
   | some d =>
    rw[hr]at h;obtain⟨v,k,e⟩:=i t d hr;simp only[jm,k];cases d with
    | bool b =>
     rw[ZK]at e;subst e;simp only[jh]at h;rw[<-h];cases b<;>cases wt<;>rfl
    | _ =>
     have f:want=false:=by simpa using h.symm
     subst f;unfold Rep at e
     first
     | (subst e;rfl)
     | (obtain⟨b,_,rfl⟩:=e;rfl)
     | (obtain⟨b,n,c,_,rfl⟩:=e;rfl)
     | (obtain⟨_,b,o,rfl,_⟩:=e;rfl)
     | (obtain⟨a,c,⟨rfl,_⟩,_⟩:=e;rfl)
     | (obtain⟨_,a,n,c,rfl⟩:=e;rfl)
     | (obtain⟨_,_,rfl,_,_⟩:=e;rfl)
     | (obtain⟨_,_,_,_,_,_,rfl,_⟩:=e;rfl)
     | (obtain⟨_,_,rfl,_⟩:=e;rfl)
     | (obtain⟨_,rfl,_⟩:=e;rfl)
theorem Zbl {call:Nat->List DV->Option DV} {nid:Nat} {ρ:Nat->Option DV} {h:Nat->Option Ze} {op:Op} {r:Out} (b:Z4b E call nid ρ h op=some (some r)):Z8p E call nid ρ h op=some r:=by
 unfold Z4b at b;unfold Z8p;split at b
 ·rename_i hc;obtain⟨r',d,a⟩:=Z0 b;cases a;rw[hc];exact d
 ·rename_i c hc;obtain⟨tgt,d,a⟩:=Z0 b;rw[hc];cases hp:ZeV E tgt with
  | true =>
   rw[hp]at a;obtain⟨r',f,e⟩:=Z0 a;cases e;exact f
  | false=>rw[hp]at a;cases a
theorem ZbR {df:Bool} {ρ:Nat->Option DV} {op:Op} (a:Z5D E df ρ op=true):∃c f g caps,op=.defer c/\df=true/\c.args = #[]/\c.callee=.value f/\ZX ρ f=some (.fn (.func g) [] caps)/\E.dfr g=true:=by
 unfold Z5D at a;split at a
 ·rename_i c;simp only[jn]at a;obtain⟨⟨h,e⟩,b⟩:=a;split at b
  ·rename_i f d;split at b
   ·rename_i g caps i;exact⟨c,f,g,caps,rfl,h,by simpa using e,d,i,b⟩
   ·cases b
  ·cases b
 ·cases a
theorem Z4a (hE:∀t ti,E.ty t=some ti->ZO P t ti) {df:Bool} (s:df=true->ro=none) {call:Nat->List DV->Option DV} (hp:Z37 P E call) {callH callY:Ye} (hH:YW P E callH) (hY:Z1h P E callY) {ops:Array Oper} {b:Nat} {Q:Exit->Act->World->Prop} :
  ∀(os:List Oper) (k:Nat) (m mf:Mid) (a:Act) (w:World) (β:Bi) (G:Gh),Z2M E df call callH callY V nt ops b k os m=some mf->b+k+os.length<=m.next →
   (∀j,k<=j->j<k+os.length->ZH β m.objs.get (b+j))->MM E w0 G0 outer V nt own m a w β G →
   (∀a' w' β' G',m.next<=mf.next->MM E w0 G0 outer V nt own mf a' w' β' G'->Go2 b β G β' G' m.objs.get mf.objs.get->Q .normal a' w')->wpListIn (fw ro) n P ops Q os a w
 | [],k,m,mf,a,w,β,G,e,_,_,hm,hq=>by
  simp only[Z2M,jh]at e;subst e;exact hq a w β G (Nat.le_refl _) hm (Go2.refl _ _ _ _)
 | o::os,k,m,mf,a,w,β,G,e,hle,hfr,hm,hq=>by
  simp only[Z2M]at e;obtain⟨want,hw,e⟩:=Z0 e;have hwt:=Z2Z hm.fr hw;simp only[List.length_cons]at hle hfr;simp only[wpListIn];rw[hwt];cases want with
  | false =>
   simp only[jA]at e;simp only[jg,if_false];obtain⟨u,q⟩:=Z40 V nt m o.dst (some (.tup []));have l:MM E w0 G0 outer V nt own (m.put V nt o.dst (some (.tup []))) (a.put o.dst undef) w β G :=
    MM.put (objs:=m.objs) (nx:=m.next) hm (Ext.refl β G) (fun d e=>by cases e;exact Z45) hm.hr hm.fresh
   refine⟨fun f _=>trivial,Z4a hE s hp hH hY os (k+1) _ mf _ w β G e (by rw[q];omega) (fun j hj hl=>by rw[u];exact hfr j (by omega) (by omega)) l fun a' w' β' G' hn hm2 hgo=>?_⟩
   exact hq a' w' β' G' (by rw[q]at hn;exact hn) hm2 (by rw[u]at hgo;exact hgo)
  | true =>
   simp only[jB]at e;simp only[if_true];cases hdd:Z5D E df (ZV V m.base m.loc) o.op with
   | true =>
    rw[hdd]at e;simp only[jB]at e;obtain⟨c,f,g,caps,ho,hdt,z,hcal,hop,hg⟩:=ZbR hdd;have hro:(fw ro).round=none:=s hdt;obtain⟨as,cs,hev,has,_⟩:=Zci.1 (Zp hm.fr hop);rw[Zj]at has;subst has;have hrun:(o.semAt (fw ro).round a.eval).run P w=.ok (.defer { target:=.fn (.func g) cs.toArray,args := #[] }) w:=by
     rw[hro,Oper.semAt_none];unfold execOp;rw[ho];simp[resolve,hcal,z,hev,Deferred.ofValue]
    refine⟨fun f _=>trivial,?_⟩;rw[hrun,Oper.uponIn_defer];obtain⟨u,q⟩:=Z40 V nt m o.dst (some (.tup []));have hm0:MM E w0 G0 outer V nt own m { a with defers:={ target:=.fn (.func g) cs.toArray,args := #[] }::a.defers } w β G:=⟨hm.fr,hm.dom,hm.sz,hm.hr,hm.fresh,⟨.fn _ hg hm.df.1,hm.df.2⟩⟩
    have l:MM E w0 G0 outer V nt own (m.put V nt o.dst (some (.tup []))) (({ a with defers:={ target:=.fn (.func g) cs.toArray,args := #[] }::a.defers }:Act).put o.dst undef) w β G :=
     MM.put (objs:=m.objs) (nx:=m.next) hm0 (Ext.refl β G) (fun d e=>by cases e;exact Z45) hm.hr hm.fresh
    refine Z4a hE s hp hH hY os (k+1) _ mf _ w β G e (by rw[q];omega) (fun j hj hl=>by rw[u];exact hfr j (by omega) (by omega)) l fun a' w' β' G' hn hm2 hgo=>?_
    exact hq a' w' β' G' (by rw[q]at hn;exact hn) hm2 (by rw[u]at hgo;exact hgo)
   | false =>
   rw[hdd]at e;simp only[jA]at e;obtain⟨so,hso,e⟩:=Z0 e;cases so with
   | some r =>
    have hr:=Zbl hso;refine Z8q hE hp hm.fr hm.hr (hfr k (Nat.le_refl _) (by omega)) hr _ _ fun v w' β' G' hv hx hh hkp=>?_
    obtain⟨u,q⟩:=Z40 V nt ({ m with objs:=Y6 m.objs r.upd }:Mid) o.dst r.val
    have i:∀id,(Y6 m.objs r.upd).get id=ZC m.objs.get r.upd id:=Z2C _ _;have x:∀id,id≠b+k->YQ β β' m.objs.get (Y6 m.objs r.upd).get id:=fun id p hf=>by
     obtain⟨q1,q2,q3⟩:=hkp id p hf;exact⟨by rw[i];exact q1,q2,q3⟩
    have l:MM E w0 G0 outer V nt own (({ m with objs:=Y6 m.objs r.upd }:Mid).put V nt o.dst r.val) (a.put o.dst v) w' β' G' :=
     MM.put (objs:=Y6 m.objs r.upd) (nx:=m.next) hm hx hv (hh.eq i) (fun id p=>(x id (by omega)).fresh (hm.fresh id p))
    refine Z4a hE s hp hH hY os (k+1) _ mf _ w' β' G' e (by rw[q];show b+(k+1)+os.length<=m.next;omega) (fun j hj hl=>by rw[u];exact(x _ (by omega)).fresh (hfr j (by omega) (by omega))) l fun a' w'' β'' G'' hn hm2 hgo=>?_
    refine hq a' w'' β'' G'' (by rw[q]at hn;exact hn) hm2 (Go2.trans ⟨hx,fun id hi=>?_⟩ hgo)
    rw[u];exact x id (by omega)
   | none =>
    obtain⟨cl,hcl,e⟩:=Z0 e;obtain⟨tgt,htg,e⟩:=Z0 e;obtain⟨⟨out,T,nx'⟩,hx1,e⟩:=Z0 e;refine Z5T hE hH hY hm.fr hcl htg hm.hr hx1 (fun _ _ _ h=>h) hm.fresh fun v w' β' G' hv hle' hx hkp hh hff=>?_;obtain⟨u,q⟩:=Z40 V nt ({ m with objs:=Y6 m.objs out.upd,next:=nx' }:Mid) o.dst out.val
    have i:∀id,(Y6 m.objs out.upd).get id=ZC m.objs.get out.upd id:=Z2C _ _;have y:∀id,id<m.next->YQ β β' m.objs.get (Y6 m.objs out.upd).get id:=fun id p hf=>by
     obtain⟨q1,q2,q3⟩:=hkp id p hf;exact⟨by rw[i];exact q1,q2,q3⟩
    have l:MM E w0 G0 outer V nt own (({ m with objs:=Y6 m.objs out.upd,next:=nx' }:Mid).put V nt o.dst out.val) (a.put o.dst v) w' β' G' :=
     MM.put (objs:=Y6 m.objs out.upd) (nx:=nx') hm hx hv (hh.eq i) (fun id p=>by
      have:=hff id p;exact⟨this.blk,this.hdr,by rw[i];exact this.h⟩)
    refine Z4a hE s hp hH hY os (k+1) _ mf _ w' β' G' e (by rw[q];show b+(k+1)+os.length<=nx';omega) (fun j hj hl=>by rw[u];exact(y _ (by omega)).fresh (hfr j (by omega) (by omega))) l fun a'' w'' β'' G'' hn hm2 hgo2=>?_
    refine hq a'' w'' β'' G'' (by rw[q]at hn;exact Nat.le_trans hle' hn) hm2 (Go2.trans ⟨hx,fun id hi=>?_⟩ hgo2)
    rw[u];exact y id (by omega)
end
end Go.Ab
namespace Go.Ab
open Go.RowKit
structure Z4S (n0:Nat) (β β':Bi):Prop where
 blk:∀id,id<n0->β'.blk id=β.blk id
 hdr:∀id,id<n0->∀u,β'.hdr id u=β.hdr id u
section bddm
variable {n0:Nat} {β β':Bi} {G:Gh}
mutual
theorem Rep.bd (e:Z4S n0 β β'):∀(d:DV) (v:Value),bdd n0 d=true->Rep β G d v->Rep β' G d v
 | .bool _,_,_,h=>by unfold Rep at h⊢;exact h
 | .int _ _,_,_,h=>by unfold Rep at h⊢;exact h
 | .str _,_,_,h=>by unfold Rep at h⊢;exact h
 | .nilp,_,_,h=>by unfold Rep at h⊢;exact h
 | .ptr i _,_,hb,h=>by
  simp only[bdd,Tr.blt_dec,jk]at hb;unfold Rep at h⊢;rw[e.blk i hb];exact h
 | .rptr i _ _ _ _,_,hb,h=>by
  simp only[bdd,Tr.blt_dec,jk]at hb;unfold Rep at h⊢;rw[e.hdr i hb];exact h
 | .pub cs,_,_,h=>by
  unfold Rep at h⊢;obtain⟨k,b,o,g,f⟩:=h;exact⟨k,b,o,g,Pub.free cs b o k f⟩
 | .nils,_,_,h=>by unfold Rep at h⊢;exact h
 | .sl es,v,_,h=>Rep.free _ v rfl h
 | .rs i _,_,hb,h=>by
  simp only[bdd,Tr.blt_dec,jk]at hb;unfold Rep at h⊢;rw[e.hdr i hb];exact h
 | .rv i _ _ _ _,_,hb,h=>by
  simp only[bdd,Tr.blt_dec,jk]at hb;unfold Rep at h⊢;rw[e.hdr i hb];exact h
 | .slen _,_,_,h=>by unfold Rep at h⊢;exact h
 | .agg cs,_,hb,h=>by unfold Rep at h⊢;obtain⟨vs,g,f⟩:=h;exact⟨vs,g,Zh.bd e cs vs (by simpa[bdd]using hb) f⟩
 | .tup cs,_,hb,h=>by unfold Rep at h⊢;obtain⟨vs,g,f⟩:=h;exact⟨vs,g,Zh.bd e cs vs (by simpa[bdd]using hb) f⟩
 | .fn _ a c,_,hb,h=>by
  unfold Rep at h⊢;obtain⟨as,cs,g,f,l⟩:=h;have j:Z1S n0 a=true/\Z1S n0 c=true:=by simpa[bdd]using hb
  exact⟨as,cs,g,Zh.bd e a as j.1 f,Zh.bd e c cs j.2 l⟩
 | .nilfn,_,_,h=>by unfold Rep at h⊢;exact h
 | .map i,_,hb,h=>by
  simp only[bdd,Tr.blt_dec,jk]at hb;unfold Rep at h⊢;rw[e.blk i hb];exact h
 | .nilmap,_,_,h=>by unfold Rep at h⊢;exact h
 | .iface _ d,_,hb,h=>by unfold Rep at h⊢;obtain⟨u,g,f⟩:=h;exact⟨u,g,Rep.bd e d u (by simpa[bdd]using hb) f⟩
 | .nilif,_,_,h=>by unfold Rep at h⊢;exact h
 | .iter i,_,hb,h=>by
  simp only[bdd,Tr.blt_dec,jk]at hb;unfold Rep at h⊢;rw[e.blk i hb];exact h
 | .yld i,_,hb,h=>by
  simp only[bdd,Tr.blt_dec,jk]at hb;unfold Rep at h⊢;rw[e.blk i hb];exact h
theorem Zh.bd (b:Z4S n0 β β'):∀(ds:List DV) (vs:List Value),Z1S n0 ds=true->Zh β G ds vs->Zh β' G ds vs
 | [],_,_,h=>by unfold Zh at h⊢;exact h
 | d::ds,_,hb,h=>by
  unfold Zh at h⊢;have a:bdd n0 d=true/\Z1S n0 ds=true:=by simpa[Z1S]using hb
  obtain⟨v,vs',e,c,f⟩:=h;exact⟨v,vs',e,Rep.bd b d v a.1 c,Zh.bd b ds vs' a.2 f⟩
end
end bddm
theorem Z6j {id v:Nat}:∀{L:List (Option (Nat×Nat))} {j0 j:Nat},Z5U id v j0 L=some j->j0<=j/\L[j-j0]? = some (some (id,v))
 | [],_,_,h=>by cases h
 | none::L,j0,j,h=>by
  simp only[Z5U]at h;obtain⟨b,a⟩:=Z6j h;refine⟨by omega,?_⟩
  rw[show j-j0=(j-(j0+1))+1 by omega];simpa using a
 | some (i,u)::L,j0,j,h=>by
  simp only[Z5U]at h
  by_cases e:(Nat.beq i id&&Nat.beq u v)=true
  ·rw[e]at h;cases h;simp only[jn]at e;have e1:i=id:=je e.1;have e2:u=v:=je e.2;subst e1 e2;exact⟨Nat.le_refl _,by simp⟩
  ·have e':(Nat.beq i id&&Nat.beq u v)=false:=Bool.eq_false_iff.2 e;rw[e']at h;obtain⟨b,a⟩:=Z6j h;refine⟨by omega,?_⟩
   rw[show j-j0=(j-(j0+1))+1 by omega];simpa using a
def Z1d (n0:Nat) (L:List (Option (Nat×Nat))) (β:Bi):Bi where
 blk i:=if i<n0 then β.blk i else none
 hdr i u:=if i<n0 then β.hdr i u else if u=0 then(match L[i-n0]? with|some (some (id,v))=>β.hdr id v|_=>none)else none
theorem Z5m (n0:Nat) (L:List (Option (Nat×Nat))) (β:Bi):Z4S n0 β (Z1d n0 L β):=⟨fun id h=>by simp[Z1d,h],fun id h u=>by simp[Z1d,h]⟩
section
variable {n0:Nat} {L:List (Option (Nat×Nat))} {β:Bi} {G:Gh}
theorem Zbb {j id v:Nat} (h:L[j]? = some (some (id,v))):(Z1d n0 L β).hdr (n0+j) 0=β.hdr id v:=by
 have:¬n0+j<n0:=by omega
 simp[Z1d,h,this]
theorem Z1V {d d':DV} {v:Value} (h:(bif bdd n0 d then some d else none)=some d') (hr:Rep β G d v):Rep (Z1d n0 L β) G d' v/\ZA d'=ZA d:=by
 obtain⟨a,h⟩:=Z3 h;cases h;exact⟨Rep.bd (Z5m n0 L β) _ v a hr,rfl⟩
mutual
theorem Zch:∀{d d':DV} {v:Value},ren n0 L d=some d'->Rep β G d v->Rep (Z1d n0 L β) G d' v/\ZA d'=ZA d
 | .rs id ver,d',v,h,hr=>by
  simp only[ren]at h;cases hj:Z5U id ver 0 L with
  | none =>
   rw[hj]at h;obtain⟨c,h⟩:=Z3 h;cases h;simp only[jn,Tr.blt_dec]at c;exact⟨Rep.bd (Z5m n0 L β) _ v (by simp only[bdd,Tr.blt_dec];exact c.1) hr,rfl⟩
  | some j =>
   rw[hj]at h;cases h;obtain⟨_,a⟩:=Z6j hj;rw[Z1n]at hr⊢;exact⟨⟨(Zbb (by simpa using a)).trans hr.1,hr.2⟩,rfl⟩
 | .agg cs,d',v,h,hr=>by
  simp only[ren]at h;obtain⟨cs',b,h⟩:=Z0 h;cases h;obtain⟨vs,rfl,a⟩:=YN.1 hr;exact⟨YN.2 ⟨vs,rfl,(Z7c b a).1⟩,rfl⟩
 | .tup cs,d',v,h,hr=>by
  simp only[ren]at h;obtain⟨cs',b,h⟩:=Z0 h;cases h;obtain⟨vs,rfl,a⟩:=Yv.1 hr;exact⟨Yv.2 ⟨vs,rfl,(Z7c b a).1⟩,rfl⟩
 | .bool _,d',v,h,hr=>Z1V (d:=.bool _) h hr
 | .int _ _,d',v,h,hr=>Z1V (d:=.int _ _) h hr
 | .str _,d',v,h,hr=>Z1V (d:=.str _) h hr
 | .nilp,d',v,h,hr=>Z1V (d:=.nilp) h hr
 | .ptr _ _,d',v,h,hr=>Z1V (d:=.ptr _ _) h hr
 | .rptr _ _ _ _ _,d',v,h,hr=>Z1V (d:=.rptr _ _ _ _ _) h hr
 | .pub _,d',v,h,hr=>Z1V (d:=.pub _) h hr
 | .nils,d',v,h,hr=>Z1V (d:=.nils) h hr
 | .sl _,d',v,h,hr=>Z1V (d:=.sl _) h hr
 | .rv _ _ _ _ _,d',v,h,hr=>Z1V (d:=.rv _ _ _ _ _) h hr
 | .slen _,d',v,h,hr=>Z1V (d:=.slen _) h hr
 | .fn _ _ _,d',v,h,hr=>Z1V (d:=.fn _ _ _) h hr
 | .nilfn,d',v,h,hr=>Z1V (d:=.nilfn) h hr
 | .map _,d',v,h,hr=>Z1V (d:=.map _) h hr
 | .nilmap,d',v,h,hr=>Z1V (d:=.nilmap) h hr
 | .iface _ _,d',v,h,hr=>Z1V (d:=.iface _ _) h hr
 | .nilif,d',v,h,hr=>Z1V (d:=.nilif) h hr
 | .iter _,d',v,h,hr=>Z1V (d:=.iter _) h hr
 | .yld _,d',v,h,hr=>Z1V (d:=.yld _) h hr
theorem Z7c:∀{ds ds':List DV} {vs:List Value},Z2z n0 L ds=some ds'->Zh β G ds vs->Zh (Z1d n0 L β) G ds' vs/\ds'.all ZA=ds.all ZA
 | [],ds',vs,h,hr=>by simp only[Z2z,jh]at h;subst h;rw[Zj]at hr;subst hr;exact⟨Zj.2 rfl,rfl⟩
 | d::ds,ds',vs,h,hr=>by
  simp only[Z2z]at h;obtain⟨c,f,h⟩:=Z0 h;obtain⟨cs,e,h⟩:=Z0 h;cases h;obtain⟨v,vs',rfl,b,a⟩:=Zd.1 hr;obtain⟨k1,k2⟩:=Zch f b;obtain⟨k3,k4⟩:=Z7c e a;exact⟨Zd.2 ⟨v,vs',rfl,k1,k3⟩,by simp[k2,k4]⟩
end
theorem Z2Q {o:Tr Ze}:∀{L:List (Option (Nat×Nat))} {j0:Nat} {no no':Tr Ze},Z2c o n0 j0 L no=some no'->∀i,
  (no'.get i=no.get i/\∀j id v,i=n0+j0+j->L[j]? ≠ some (some (id,v)))\/∃j id v e es p,i=n0+j0+j/\L[j]? = some (some (id,v))/\o.get id=some (.row e es p v)/\no'.get i=some (.row e es p 0)
 | [],j0,no,no',h,i=>by simp only[Z2c,jh]at h;subst h;exact .inl ⟨rfl,fun j id v _=>by simp⟩
 | none::L,j0,no,no',h,i=>by
  simp only[Z2c]at h;rcases Z2Q h i with⟨a,b⟩|⟨j,id,v,e,es,p,a,b,d,f⟩
  ·refine .inl ⟨a,fun j id v hi=>?_⟩;cases j with
   | zero=>simp
   | succ j=>simpa using b j id v (by omega)
  ·exact .inr ⟨j+1,id,v,e,es,p,by omega,by simpa using b,d,f⟩
 | some (id,v)::L,j0,no,no',h,i=>by
  simp only[Z2c]at h;split at h
  ·rename_i e es p u g;have c:=(Z3 h).1;replace h:=(Z3 h).2;have c:u=v:=je c;subst c;rcases Z2Q h i with⟨a,b⟩|⟨j,id',v',e',es',p',a,b,d,f⟩
   ·rw[Tr.get_set]at a
    by_cases hi:i=n0+j0
    ·rw[if_pos hi]at a;exact .inr ⟨0,id,u,e,es,p,by omega,by simp,g,a⟩
    ·rw[if_neg hi]at a;refine .inl ⟨a,fun j id' v' k=>?_⟩;cases j with
     | zero=>omega
     | succ j=>simpa using b j id' v' (by omega)
   ·exact .inr ⟨j+1,id',v',e',es',p',by omega,by simpa using b,d,f⟩
  ·cases h
theorem Z8h:∀{L:List (Option (Nat×Nat))} {j k id v w:Nat},Zea L=true->L[j]? = some (some (id,v))->L[k]? = some (some (id,w))->j=k
 | [],_,_,_,_,_,_,h,_=>by simp at h
 | none::L,j,k,id,v,w,hu,h1,h2=>by
  cases j with
  | zero=>simp at h1
  | succ j=>cases k with
   | zero=>simp at h2
   | succ k=>exact congrArg (· + 1) (Z8h (L:=L) (j:=j) (k:=k) (id:=id) (v:=v) (w:=w) (by simpa[Zea]using hu) (by simpa using h1) (by simpa using h2))
 | some (i,u)::L,j,k,id,v,w,hu,h1,h2=>by
  simp only[Zea,jn,List.all_eq_true]at hu;have a:∀{k x:Nat},L[k]? = some (some (i,x))->False:=fun {k x} hk=>by
   have:=hu.1 _ (List.mem_of_getElem? hk);simp at this
  cases j with
  | zero =>
   have e1:i=id:=by
    have:i=id/\u=v:=by simpa using h1
    exact this.1
   subst e1;cases k with
   | zero=>rfl
   | succ k=>exact(a (by simpa using h2)).elim
  | succ j =>
   replace h1:L[j]? = some (some (id,v)):=by simpa using h1
   cases k with
   | zero =>
    have e1:i=id:=by
     have:i=id/\u=w:=by simpa using h2
     exact this.1
    subst e1;exact(a h1).elim
   | succ k=>rw[Z8h hu.2 h1 (by simpa using h2)]
end
section
variable {P:Program} {E:Env} {w0:World} {G0:Gh} {D:DD} {w:World} {β:Bi} {G:Gh} {n0:Nat} {L:List (Option (Nat×Nat))} {base:Nat} {h:Nat->Option Ze}
theorem Z1y:∀{es:List (List DV)},(∀c∈es,Zf c=true)->Zf es.flatten=true
 | [],_=>rfl
 | c::es,h=>by
  have a:∀(xs ys:List DV),Zf xs=true->Zf ys=true->Zf (xs++ys)=true:=fun xs=>by
   induction xs with
   | nil=>intro ys _ h;exact h
   | cons x xs ih =>
    intro ys b d;simp only[Zf,jn,List.cons_append]at b⊢;exact⟨b.1,ih ys b.2 d⟩
  rw[List.flatten_cons];exact a _ _ (h c (by simp)) (Z1y fun x e=>h x (by simp[e]))
theorem ZeE {k:DV} (h:keyOk k=true):Zi k=true:=by
 cases k with
 | agg cs =>
  simp only[keyOk,List.all_eq_true]at h;simp only[Zi];exact YM.2 fun c hc=>by have:=h c hc;cases c<;>first|rfl|cases this
 | _=>first|rfl|cases h
theorem Z7N {β':Bi}:∀{es:List (DV×DV)} {ms:List MapEntry},Z69 β G es ms->Z69 β' G es ms
 | [],_,h=>h
 | (k,v)::es,_,⟨m,ms',h1,h2,h3,h4,h5,h6⟩=>⟨m,ms',h1,Rep.free k m.key (ZeE h4) h2,Rep.free v m.val h5 h3,h4,h5,Z7N h6⟩
theorem Zcf {id:Nat} {x x':Ze} (g:id<n0) (h:Z2J n0 L x=some x') (e:Z1Q E base w β G id x):Z1Q E base w (Z1d n0 L β) G id x'/\∀b,Yi (Z1d n0 L β) id x' b↔Yi β id x b:=by
 have a:(Z1d n0 L β).blk id=β.blk id:=by simp[Z1d,g]
 have hh:∀u,(Z1d n0 L β).hdr id u=β.hdr id u:=fun u=>by simp[Z1d,g]
 cases x with
 | cells t cs =>
  simp only[Z2J]at h;obtain⟨cs',i,h⟩:=Z0 h;cases h;obtain⟨b,vs,k1,k2,k3,k4,k5⟩:=e;obtain⟨m1,m2⟩:=Z7c (β:=β) i k3;exact⟨⟨b,vs,by rw[a];exact k1,k2,m1,by rw[m2];exact k4,k5⟩,fun b=>by simp[Yi,a]⟩
 | row t es p u =>
  cases h;obtain⟨hdr,vals,k1,k2,k3,k4,k5,k6,k7⟩:=e;refine⟨⟨hdr,vals,by rw[hh];exact k1,k2,Zh.free _ _ ?_ k3,k4,k5,k6,fun u' j=>by rw[hh];exact k7 u' j⟩,fun b=>by simp[Yi,hh]⟩
  exact Z1y fun c hc=>(k4 c hc).2.1
 | map es =>
  cases h;obtain⟨b,ms,clock,k1,k2,k3,k4⟩:=e;exact⟨⟨b,ms,clock,by rw[a];exact k1,k2,Z7N k3,k4⟩,fun b=>by simp[Yi,a]⟩
 | mit m n se =>
  simp only[Z2J]at h;obtain⟨k,h⟩:=Z3 h;cases h;have k:m<n0:=jf k;obtain⟨b,bm,c0,k1,k2,k3⟩:=e;exact⟨⟨b,bm,c0,by rw[a];exact k1,by simp[Z1d,k];exact k2,k3⟩,fun b=>by simp[Yi,a]⟩
 | bag t es u =>
  cases h;obtain⟨fs,r,hdr,vals,k1,k2,k3,k4,k5,k6,k7⟩:=e;refine⟨⟨fs,r,hdr,vals,by rw[hh];exact k1,k2,Zh.free _ _ ?_ k3,k4,k5,k6,fun u' j=>by rw[hh];exact k7 u' j⟩,fun b=>by simp[Yi,hh]⟩
  exact Z1y fun c hc=>(k4 c hc).2.1
 | siter s pos =>
  cases h;obtain⟨b,k1,k2⟩:=e;exact⟨⟨b,by rw[a];exact k1,k2⟩,fun b=>by simp[Yi,a]⟩
 | loop fid bs ps as bo bid ex =>
  simp only[Z2J]at h;obtain⟨bs',i,h⟩:=Z0 h;cases h;obtain⟨b,tmps,df,fn,F,k1,k2,k3,k4,k5,k6⟩:=e;refine⟨⟨b,tmps,df,fn,F,by rw[a];exact k1,k2,fun t d ht=>?_,k4,k5,fun t d ht=>?_⟩,fun b=>by simp[Yi,a]⟩
  ·rcases Tr.tm_get1 i t with⟨_,f⟩|⟨x,y,f,l,o⟩
   ·rw[f]at ht;cases ht
   ·obtain⟨d',h6,q⟩:=Z0 l;cases q;rw[o]at ht;cases ht;obtain⟨v,z,h9⟩:=k3 t x f;exact⟨v,z,(Zch h6 h9).1⟩
  ·rcases Tr.tm_get1 i t with⟨_,f⟩|⟨x,y,f,l,o⟩
   ·rw[f]at ht;cases ht
   ·exact k6 t x f
theorem Z6o {id:Nat}:∀{L:List (Option (Nat×Nat))},Z3h id L=false->∀(j v:Nat),L[j]? ≠ some (some (id,v))
 | [],_,j,v=>by simp
 | none::L,h,j,v=>by
  cases j with
  | zero=>simp
  | succ j=>simpa using Z6o (L:=L) (by simpa[Z3h]using h) j v
 | some (i,w)::L,h,j,v=>by
  simp only[Z3h,Bool.or_eq_false_iff]at h;cases j with
  | zero =>
   intro e;simp only[List.getElem?_cons_zero,jh,Prod.mk.injEq]at e;rw[e.1,Tr.beq_dec]at h;simp at h
  | succ j=>simpa using Z6o (L:=L) h.2 j v
theorem Zi1 (hh:HR E w0 G0 D w β G h) (hu:Zea L=true) {h':Nat->Option Ze}
  (hs:∀i x',h' i=some x'->((i<n0/\∀(j v:Nat),L[j]? ≠ some (some (i,v)))/\∃x,h i=some x/\Z2J n0 L x=some x')\/(∃j id v e es p,i=n0+j/\L[j]? = some (some (id,v))/\h id=some (.row e es p v)/\x'=.row e es p 0)) :
  HR E w0 G0 D w (Z1d n0 L β) G h':=by
 have a:∀i x',h' i=some x'->∃k x,h k=some x/\Z1Q E w0.heap.size w (Z1d n0 L β) G i x'/\(∀b,Yi (Z1d n0 L β) i x' b->Yi β k x b)/\(((i<n0/\∀(j v:Nat),L[j]? ≠ some (some (i,v)))/\k=i)\/∃j v,i=n0+j/\L[j]? = some (some (k,v))):=fun i x' hi=>by
  rcases hs i x' hi with⟨d,x,q,hr⟩|⟨j,id,v,e,es,p,rfl,r,q,rfl⟩
  ·obtain⟨k1,k2⟩:=Zcf d.1 hr (hh.obj i x q);exact⟨i,x,q,k1,fun b f=>(k2 b).1 f,.inl ⟨d,rfl⟩⟩
  ·obtain⟨hdr,vals,k1,k2,k3,k4,k5,k6,k7⟩:=hh.obj id _ q;have g:=Zbb (n0:=n0) (β:=β) r;refine⟨id,_,q,⟨hdr,vals,by rw[g];exact k1,k2,Zh.free _ _ (Z1y fun c hc=>(k4 c hc).2.1) k3,k4,k5,k6,fun u' hu'=>?_⟩,fun b f=>?_,.inr ⟨j,v,rfl,r⟩⟩
   ·have n:¬n0+j<n0:=by omega
    have t:u'≠0:=by omega
    simp[Z1d,n,t]
   ·obtain⟨m,c,f⟩:=f;exact⟨m,c,by rw[<-g];exact f⟩
 refine⟨hh.below,hh.g0,hh.agree,fun i x' hi=>?_,fun i x' b hi f=>?_,fun i i' x y b hi u f hb'=>?_,hh.marks,hh.inv0⟩
 ·obtain⟨k,x,_,t,_⟩:=a i x' hi;exact t
 ·obtain⟨k,x,n,_,h3,_⟩:=a i x' hi;exact hh.own k x b n (h3 b f)
 ·obtain⟨k,z,n,_,h3,h4⟩:=a i x hi;obtain⟨k',z',h1',_,h3',s⟩:=a i' y u;have hk:k=k':=hh.inj k k' z z' b n h1' (h3 b f) (h3' b hb');subst hk;rcases h4 with⟨d,rfl⟩|⟨j,v,rfl,r⟩<;>rcases s with⟨l,e'⟩|⟨j',v',rfl,o⟩
  ·exact e'
  ·exact absurd o (d.2 _ _)
  ·subst e';exact absurd r (l.2 _ _)
  ·rw[Z8h hu r o]
theorem HR.rebi (hh:HR E w0 G0 D w β G h) {β':Bi} (e:Ext β G β' G) (a:∀i o,h i=some o->β'.blk i=β.blk i/\∀u,β'.hdr i u=β.hdr i u):HR E w0 G0 D w β' G h:=by
 refine⟨hh.below,hh.g0,hh.agree,fun i o hi=>?_,fun i o b hi d=>?_,fun i k o p b hi c d hc=>?_,hh.marks,hh.inv0⟩
 ·exact Z1Q.keep e (a i o hi).2 (fun _ _=>⟨rfl,fun _=>rfl⟩) (hh.obj i o hi)
 ·exact hh.own i o b hi ((Z1j (a i o hi).1 (a i o hi).2 o b).1 d)
 ·exact hh.inj i k o p b hi c ((Z1j (a i o hi).1 (a i o hi).2 o b).1 d) ((Z1j (a k p c).1 (a k p c).2 p b).1 hc)
theorem ZdI:∀{cs:List DV} {vs:List Value} {off:Nat} {d:DV} {v:Value},Zh β G cs vs->vs[off]? = some v->Rep β G d v->Zh β G (cs.set off d) vs
 | [],_,_,_,_,h,_,_=>h
 | c::cs,_,off,d,v,h,hv,hr=>by
  obtain⟨u,vs',rfl,b,a⟩:=Zd.1 h;cases off with
  | zero=>simp at hv;subst hv;exact Zd.2 ⟨u,vs',rfl,hr,a⟩
  | succ off=>exact Zd.2 ⟨u,vs',rfl,b,ZdI a (by simpa using hv) hr⟩
theorem Zfs:∀{cs:List DV} {off:Nat} {d:DV},cs.all ZA=true->ZA d=true->(cs.set off d).all ZA=true
 | [],_,_,h,_=>h
 | c::cs,off,d,h,hd=>by
  simp only[jt,jn]at h;cases off with
  | zero=>simp[hd];simpa using h.2
  | succ off=>simp[h.1];simpa using Zfs (off:=off) h.2 hd
theorem Z2h (tm:Array Value) (V:Nat):∀(as:List Acc) (j:Nat) (b:Tr DV) (no:Tr Ze) (β:Bi) (r:Tr DV×Tr Ze),Yl E n0 j as (b,no)=some r →
  HR E w0 G0 D w β G no.get->FrM β G b.get tm->(∀t d,b.get t=some d->Nat.testBit V t=true)->(∀i,n0<=i->no.get i=none->ZH β no.get i)->(∀i,n0+j+as.length<=i->no.get i=none) →
  ∃β',Ext β G β' G/\Z4S n0 β β'/\HR E w0 G0 D w β' G r.2.get/\FrM β' G r.1.get tm/\(∀t d,r.1.get t=some d->Nat.testBit V t=true)/\(∀i,n0+j+as.length<=i->ZH β' r.2.get i) ∧
   ∀i,i<n0->no.get i=none->r.2.get i=none
 | [],j,b,no,β,r,h,hh,f,hd,hfr,hn=>by
  simp only[Yl,jh]at h;subst h;exact⟨β,Ext.refl β G,⟨fun _ _=>rfl,fun _ _ _=>rfl⟩,hh,f,hd,fun i hi=>hfr i (by simp at hi;omega) (hn i hi),fun _ _ h=>h⟩
 | ac::as,j,b,no,β,r,h,hh,f,hd,hfr,hn=>by
  simp only[List.length_cons]at hn⊢;have skip:Yl E n0 (j+1) as (b,no)=some r->∃β',Ext β G β' G/\Z4S n0 β β'/\HR E w0 G0 D w β' G r.2.get/\FrM β' G r.1.get tm/\(∀t d,r.1.get t=some d->Nat.testBit V t=true)/\(∀i,n0+j+(as.length+1)<=i->ZH β' r.2.get i) ∧
   ∀i,i<n0->no.get i=none->r.2.get i=none:=fun h=>by
   obtain⟨β',k1,k2,k3,k4,k5,k6,k7⟩:=Z2h tm V as (j+1) b no β r h hh f hd hfr (fun i hi=>hn i (by omega))
   exact⟨β',k1,k2,k3,k4,k5,fun i hi=>k6 i (by omega),k7⟩
  have add:∀(b1:Tr DV) (no1:Tr Ze) (e:TypeId) (ei:TI),E.ty e=some ei->0<ei.size->no.get (n0+j)=none->Yl E n0 (j+1) as (b1,no1.set (n0+j) (some (.row e [] 0 0)))=some r →
    (∀i,i≠n0+j->(no1.get i=none↔no.get i=none)) →
    (∀β1,Ext β G β1 G->Z4S n0 β β1->(∀i,i≠n0+j->β1.blk i=β.blk i/\∀u,β1.hdr i u=β.hdr i u)->β1.hdr (n0+j) 0=some (.slice none 0 0)->FrM β1 G b1.get tm/\(∀t d,b1.get t=some d->Nat.testBit V t=true)/\HR E w0 G0 D w β1 G (fun i=>if i=n0+j then none else no1.get i)) →
    ∃β',Ext β G β' G/\Z4S n0 β β'/\HR E w0 G0 D w β' G r.2.get/\FrM β' G r.1.get tm/\(∀t d,r.1.get t=some d->Nat.testBit V t=true)/\(∀i,n0+j+(as.length+1)<=i->ZH β' r.2.get i) ∧
     ∀i,i<n0->no.get i=none->r.2.get i=none:=fun b1 no1 e ei z hpos a1 hrec y hb1=>by
   have p:=hfr (n0+j) (by omega) a1
   let β1:Bi:={ β with hdr:=fun i u=>if i=n0+j/\u=0 then some (.slice none 0 0)else β.hdr i u }
   have l:Ext β G β1 G:=⟨fun _ _ _ h=>h,fun _ _ h=>h,fun i u v hv=>by
    by_cases e1:i=n0+j/\u=0
    ·rw[e1.1,p.hdr]at hv;cases hv
    ·simp only[β1,if_neg e1];exact hv⟩
   have g:Z4S n0 β β1:=⟨fun _ _=>rfl,fun i hi u=>by
    have:¬(i=n0+j/\u=0):=by omega
    simp only[β1,if_neg this]⟩
   have a:∀i,i≠n0+j->β1.blk i=β.blk i/\∀u,β1.hdr i u=β.hdr i u:=fun i hi=>⟨rfl,fun u=>by simp[β1,hi]⟩
   obtain⟨hf1,hd1,n⟩:=hb1 β1 l g a (by simp[β1])
   have hh2:HR E w0 G0 D w β1 G (no1.set (n0+j) (some (.row e [] 0 0))).get:=by
    refine(n.move (fun _=>False) (n0+j) (.row e [] 0 0) (Ext.refl _ _) n.below (fun _ _ _=>rfl) (fun _ _=>rfl) (Nat.le_refl _) (fun _ f=>f.elim) (fun _ _ _ f=>f.elim) (fun _ f=>f.elim) ?_ ?_ ?_ (fun _ _=>⟨rfl,fun _=>rfl⟩)).eq fun i=>?_
    ·refine⟨.slice none 0 0,[],by simp[β1],⟨by simp,.inl ⟨rfl,rfl⟩⟩,Zj.2 rfl,by simp,⟨by rw[Z3V z];exact hpos,Nat.le_refl _⟩,fun b hb=>by simp[Value.ownBlock]at hb,fun u' hu'=>?_⟩
     have:¬(u'=0):=by omega
     simp[β1,this,p.hdr]
    ·rintro x ⟨m,c,hb⟩;simp[β1]at hb
    ·rintro x ⟨m,c,hb⟩;simp[β1]at hb
    ·rw[ZD,Tr.get_set]
     by_cases e1:i=n0+j<;>simp[e1]
   have hs1:∀i,n0<=i->(no1.set (n0+j) (some (.row e [] 0 0))).get i=none->ZH β1 (no1.set (n0+j) (some (.row e [] 0 0))).get i:=fun i hi k=>by
    have hq0:=k;rw[Tr.get_set]at k
    by_cases e1:i=n0+j
    ·rw[if_pos e1]at k;cases k
    ·rw[if_neg e1]at k;have:=hfr i hi ((y i e1).1 k);exact⟨(a i e1).1.trans this.blk,fun u=>((a i e1).2 u).trans (this.hdr u),hq0⟩
   have hs2:∀i,n0+(j+1)+as.length<=i->(no1.set (n0+j) (some (.row e [] 0 0))).get i=none:=fun i hi=>by
    rw[Tr.get_set,if_neg (by omega)]
    exact(y i (by omega)).2 (hn i (by omega))
   obtain⟨β',k1,k2,k3,k4,k5,k6,k7⟩:=Z2h tm V as (j+1) b1 _ β1 r hrec hh2 hf1 hd1 hs1 hs2;refine⟨β',l.trans k1,⟨fun i hi=>(k2.blk i hi).trans (g.blk i hi),fun i hi u=>(k2.hdr i hi u).trans (g.hdr i hi u)⟩,k3,k4,k5,fun i hi=>k6 i (by omega),fun i hi k=>k7 i hi ?_⟩
   rw[Tr.get_set,if_neg (by omega)];exact(y i (by omega)).2 k
  cases ac with
  | slot t e =>
   simp only[Yl]at h;split at h
   ·rename_i a2;obtain⟨ei,z,h⟩:=Z0 h;obtain⟨k,h⟩:=Z3 h;simp only[jn,Option.isNone_iff_eq_none]at k;refine add _ no e ei z (jf k.1) k.2 h (fun _ _=>Iff.rfl) fun β1 l g a hn1=>⟨fun t' d ht=>?_,fun t' d ht=>?_,?_⟩
    ·rw[Tr.get_set]at ht
     by_cases e1:t'=t
     ·subst e1;rw[if_pos rfl]at ht;cases ht;obtain⟨v,h1,h2⟩:=f t' _ a2;rw[Z1t]at h2;exact⟨v,h1,Z1n.2 ⟨by rw[hn1,h2],_,_,_,h2⟩⟩
     ·rw[if_neg e1]at ht;obtain⟨v,h1,h2⟩:=f t' d ht;exact⟨v,h1,Rep.mono l d v h2⟩
    ·rw[Tr.get_set]at ht
     by_cases e1:t'=t
     ·subst e1;exact hd t' _ a2
     ·rw[if_neg e1]at ht;exact hd t' d ht
    ·exact HR.rebi (hh.less fun i o hi=>by
      by_cases e1:i=n0+j
      ·rw[if_pos e1]at hi;cases hi
      ·rw[if_neg e1]at hi;exact hi) l fun i o hi=>by
      by_cases e1:i=n0+j
      ·rw[if_pos e1]at hi;cases hi
      ·exact a i e1
   ·exact skip h
  | cell t off e =>
   simp only[Yl]at h;split at h
   ·split at h
    ·split at h
     ·rename_i q a2 _ ct cs s _ hcs;obtain⟨ei,z,h⟩:=Z0 h;obtain⟨k,h⟩:=Z3 h;simp only[jn,Option.isNone_iff_eq_none]at k;have a0:q≠n0+j:=fun e1=>by rw[e1,k.2]at s;cases s
      refine add b _ e ei z (jf k.1) k.2 h (fun i hi=>?_) fun β1 l g a hn1=>⟨f.mono l,hd,?_⟩
      ·rw[Tr.get_set]
       by_cases e1:i=q
       ·subst e1;simp[s]
       ·rw[if_neg e1]
      ·have n:HR E w0 G0 D w β1 G (fun i=>if i=n0+j then none else no.get i):=HR.rebi (hh.less fun i o hi=>by
        by_cases e1:i=n0+j
        ·rw[if_pos e1]at hi;cases hi
        ·rw[if_neg e1]at hi;exact hi) l fun i o hi=>by
        by_cases e1:i=n0+j
        ·rw[if_pos e1]at hi;cases hi
        ·exact a i e1
       obtain⟨bk,vs,m1,m2,m3,m4,m5⟩:=n.obj q (.cells ct cs) (by rw[if_neg a0];exact s)
       obtain⟨v,m6,m7⟩:=Z42 m3 hcs;rw[Z1t]at m7;subst m7;refine(n.move (fun _=>False) q (.cells ct (cs.set off (.rs (n0+j) 0))) (Ext.refl _ _) n.below (fun _ _ _=>rfl) (fun _ _=>rfl) (Nat.le_refl _) (fun _ f=>f.elim) (fun _ _ _ f=>f.elim) (fun _ f=>f.elim) ?_ ?_ ?_ (fun _ _=>⟨rfl,fun _=>rfl⟩)).eq fun i=>?_
       ·exact⟨bk,vs,m1,m2,ZdI m3 m6 (Z1n.2 ⟨hn1,_,_,_,rfl⟩),Zfs m4 rfl,m5⟩
       ·intro x hx;exact .inr ⟨.cells ct cs,by rw[if_neg a0];exact s,hx⟩
       ·intro x hx;exact(n.own q (.cells ct cs) x (by rw[if_neg a0];exact s) hx).2.1
       ·rw[ZD,Tr.get_set]
        by_cases e1:i=q
        ·subst e1;simp[a0]
        ·simp[e1]
     ·exact skip h
    ·exact skip h
   ·exact skip h
end
end Go.Ab
namespace Go.Ab
open Go.RowKit
section
variable {P:Program} {E:Env} {w0:World} {G0:Gh} {outer:DD} {own:List Nat} {V nt:Nat} {a:Act} {w:World} {β:Bi} {G:Gh} {n0:Nat}
abbrev SS (E:Env) (w0:World) (G0:Gh) (outer:DD) (V nt:Nat) (own:List Nat) (s:St) (a:Act) (w:World) (β:Bi) (G:Gh):Prop :=
 MI E w0 G0 outer V nt own s.base.get s.base s.objs.get s.next a w β G
theorem ZhE {id:Nat} {x:Ze} (h:Z1Q E w0.heap.size w β G id x):Z1Q E w0.heap.size w β G id (Z5a x):=by
 cases x with
 | row t es p u =>
  obtain⟨hdr,vals,k1,k2,k3,k4,k5,k6,k7⟩:=h;exact⟨hdr,vals,k1,k2,k3,k4,⟨k5.1,Z9U _ _⟩,fun b c o a=>k6 b c o (Nat.le_trans (Nat.mul_le_mul_right _ (Z9U _ _)) a),k7⟩
 | _=>exact h
theorem Z7M {id:Nat} {x:Ze} {b:Nat}:Yi β id (Z5a x) b↔Yi β id x b:=by cases x<;>exact Iff.rfl
theorem Tr.mapv_get1 {α γ:Type} (f:α->γ):∀(t:Tr α) (k:Nat),(t.mapv f).get k=(t.get k).map f
 | .leaf,_=>rfl
 | .node l v r,k=>by
  simp only[Tr.mapv,Tr.get];cases Nat.beq k 0 with
  | true=>rfl
  | false =>
   simp only[jA];cases Nat.beq (k % 2) 1 with
   | true=>exact mapv_get1 f l _
   | false=>exact mapv_get1 f r _
theorem HR.lift {h:Nat->Option Ze} {D:DD} (hh:HR E w0 G0 D w β G h) {h':Nat->Option Ze} (d:∀i,h' i=(h i).map Z5a):HR E w0 G0 D w β G h':=by
 have key:∀i x',h' i=some x'->∃x,h i=some x/\x'=Z5a x:=fun i x' hi=>by
  rw[d i]at hi;cases hq:h i with
  | none=>rw[hq]at hi;cases hi
  | some x=>rw[hq]at hi;cases hi;exact⟨x,rfl,rfl⟩
 refine⟨hh.below,hh.g0,hh.agree,fun i x' hi=>?_,fun i x' b hi c=>?_,fun i j x y b hi f c hc=>?_,hh.marks,hh.inv0⟩
 ·obtain⟨x,a,rfl⟩:=key i x' hi;exact ZhE (hh.obj i x a)
 ·obtain⟨x,a,rfl⟩:=key i x' hi;exact hh.own i x b a (Z7M.1 c)
 ·obtain⟨x',a,rfl⟩:=key i x hi;obtain⟨y',e,rfl⟩:=key j y f;exact hh.inj i j x' y' b a e (Z7M.1 c) (Z7M.1 hc)
theorem Zdw {c:Z3P} {s s':St} (k:Zdv E c n0 s=some s') (hm:SS E w0 G0 outer V nt own s a w β G) :
  ∃β',SS E w0 G0 outer V nt own s' a w β' G/\Z4S n0 β β'/\(∀i,i<n0->s.objs.get i=none->s'.objs.get i=none)/\n0<=s'.next:=by
 unfold Zdv at k;simp only at k;obtain⟨hu,k⟩:=Z3 k;obtain⟨b,hb,k⟩:=Z0 k;obtain⟨o1,a0,k⟩:=Z0 k;obtain⟨o2,o,k⟩:=Z0 k;obtain⟨r,hr,k⟩:=Z0 k;cases k;generalize ZbK s.objs s.base n0 c.keep (c.accs.map (Z6c s.objs s.base))=XL at hu hb a0 o hr;generalize hLdef:XL.map some++c.accs.map (Z6c s.objs s.base)=L at hu hb a0 o;have hLlen:L.length=XL.length+c.accs.length:=by rw[<-hLdef,List.length_append,List.length_map,List.length_map]
 have g:∀i x',o2.get i=some x'->((i<n0/\∀(j v:Nat),L[j]? ≠ some (some (i,v)))/\∃x,s.objs.get i=some x/\Z2J n0 L x=some x')\/(∃j id v e es p,i=n0+j/\L[j]? = some (some (id,v))/\s.objs.get id=some (.row e es p v)/\x'=.row e es p 0):=fun i x' hi=>by
  rcases Z2Q o i with⟨h,l⟩|⟨j,id,v,e,es,p,h,l,n,f⟩
  ·rw[h]at hi;rcases Tr.tm_get1 a0 i with⟨_,f⟩|⟨x,y,n,f,h5⟩
   ·rw[f]at hi;cases hi
   ·rw[h5]at hi;cases hl:(Nat.blt i n0 && !Z3h i L)with
    | true =>
     rw[hl]at f;simp only[jB]at f;obtain⟨z,h6,h7⟩:=Z0 f;cases h7;cases hi;simp only[jn,Bool.not_eq_true',Tr.blt_dec,jk]at hl;exact .inl ⟨⟨hl.1,Z6o hl.2⟩,x,n,h6⟩
    | false =>
     rw[hl]at f;simp only[jA]at f;cases f;cases hi
  ·rw[f]at hi;cases hi;exact .inr ⟨j,id,v,e,es,p,by omega,l,n,rfl⟩
 have hh1:=Zi1 hm.hr hu g
 have m:∀t d',b.get t=some d'->∃d,s.base.get t=some d/\ren n0 L d=some d':=fun t d' ht=>by
  rcases Tr.tm_get1 hb t with⟨_,f⟩|⟨x,y,n,f,h5⟩
  ·rw[f]at ht;cases ht
  ·rw[h5]at ht;subst ht;cases hk:Nat.testBit c.keep t with
   | true =>
    rw[hk]at f;simp only[jB]at f;obtain⟨z,h6,h7⟩:=Z0 f;cases h7;exact⟨x,n,h6⟩
   | false =>
    rw[hk]at f;simp only[jA]at f;cases f
 have hf1:FrM (Z1d n0 L β) G b.get a.tmps:=fun t d' ht=>by
  obtain⟨d,h,l⟩:=m t d' ht;obtain⟨v,n,f⟩:=hm.fr t d h;exact⟨v,n,(Zch l f).1⟩
 have hd1:∀t d,b.get t=some d->Nat.testBit V t=true:=fun t d' ht=>by
  obtain⟨d,h,_⟩:=m t d' ht;exact hm.dom t d h
 have a1:∀i,n0<=i->o2.get i=none->ZH (Z1d n0 L β) o2.get i:=fun i hi q=>by
  have h:¬i<n0:=by omega
  refine⟨by simp[Z1d,h],fun u=>?_,q⟩
  simp only[Z1d,h,if_false]
  by_cases hu0:u=0
  ·rw[if_pos hu0];split
   ·rename_i id v hj;rcases Z2Q o i with⟨l,n⟩|⟨j,id',v',e,es,p,l,n,f,h5⟩
    ·exact absurd hj (n (i-n0) id v (by omega))
    ·rw[h5]at q;cases q
   ·rfl
  ·rw[if_neg hu0]
 have hn1:∀i,n0+XL.length+c.accs.length<=i->o2.get i=none:=fun i hi=>by
  cases q:o2.get i with
  | none=>rfl
  | some x =>
   rcases g i x q with⟨h,_⟩|⟨j,id,v,e,es,p,h,l,_⟩
   ·have:=h.1;omega
   ·have:=(jc.1 l).1;omega
 obtain⟨β',k1,k2,k3,k4,k5,k6,k7⟩:=Z2h a.tmps V c.accs XL.length b o2 _ r hr hh1 hf1 hd1 a1 hn1;have a2:=Z5m n0 L β;refine⟨β',⟨k4,k5,hm.sz,k3,fun i hi=>k6 i hi,hm.df⟩,⟨fun i hi=>(k2.blk i hi).trans (a2.blk i hi),fun i hi u=>(k2.hdr i hi u).trans (a2.hdr i hi u)⟩,fun i hi q=>k7 i hi ?_,by show n0<=n0+XL.length+c.accs.length;omega⟩
 cases hz:o2.get i with
 | none=>rfl
 | some x =>
  rcases g i x hz with⟨_,x',l,_⟩|⟨j,id,v,e,es,p,h,_⟩
  ·rw[q]at l;cases l
  ·omega
theorem ZeN {b:Z3P} {s s':St} (c:Zdu E b n0 s=some s') (f:SS E w0 G0 outer V nt own s a w β G) :
  ∃β',SS E w0 G0 outer V nt own s' a w β' G/\Z4S n0 β β'/\(∀i,i<n0->s.objs.get i=none->s'.objs.get i=none)/\n0<=s'.next:=by
 unfold Zdu at c;obtain⟨s1,j,c⟩:=Z0 c;cases c;obtain⟨β',k1,k2,k3,k4⟩:=Zdw j f;cases b.raw with
 | true=>exact⟨β',k1,k2,k3,k4⟩
 | false =>
  simp only[jA];have e:∀i,(s1.objs.mapv Z5a).get i=(s1.objs.get i).map Z5a:=Tr.mapv_get1 Z5a _;refine⟨β',⟨k1.fr,k1.dom,k1.sz,k1.hr.lift e,fun i hi=>?_,k1.df⟩,k2,fun i hi g=>?_,k4⟩
  ·have d:=k1.fresh i hi;exact⟨d.blk,d.hdr,by show(s1.objs.mapv Z5a).get i=none;rw[e,d.h];rfl⟩
  ·show(s1.objs.mapv Z5a).get i=none;rw[e,k3 i hi g];rfl
end
end Go.Ab
namespace Go.Ab
open Go.RowKit
theorem Z3g {i:Nat}:∀{l:List Nat},Z3M i l=true↔i∈l
 | []=>by simp[Z3M]
 | j::l=>by
  simp only[Z3M,Tr.beq_dec,jv]
  by_cases e:i=j
  ·simp[e]
  ·simp[e,Z3g (l:=l)]
theorem Z5B {i:Nat}:∀{l:List Nat},i∈l->Z1U i l<Z2u l
 | j::l,h=>by
  simp only[Z1U,Z2u,Tr.beq_dec]
  by_cases e:i=j
  ·simp[e]
  ·have:=Z5B (l:=l) (by simpa[e]using h)
   simp[e,this]
theorem Z4t {d i:Nat}:∀{l:List Nat},i∈l->Z6p d (Z1U i l) l=i
 | j::l,h=>by
  simp only[Z1U,Tr.beq_dec]
  by_cases e:i=j
  ·simp[e,Z6p]
  ·have:=Z4t (d:=d) (l:=l) (by simpa[e]using h)
   simp[e,Z6p,this]
theorem Zc3 {d:Nat}:∀{l:List Nat} {j:Nat},j<Z2u l->Z6p d j l∈l
 | [],j,h=>by simp[Z2u]at h
 | i::l,0,_=>by simp[Z6p]
 | i::l,j+1,h=>by
  simp only[Z2u]at h;simp only[Z6p,jv];exact .inr (Zc3 (by omega))
theorem Z8V {d:Nat}:∀{l:List Nat} {j:Nat},Zan l=true->j<Z2u l->Z1U (Z6p d j l) l=j
 | [],j,_,h=>by simp[Z2u]at h
 | i::l,0,_,_=>by simp[Z6p,Z1U]
 | i::l,j+1,hu,h=>by
  simp only[Z2u]at h;simp only[Zan,jn,Bool.not_eq_true']at hu;have b:=Zc3 (d:=d) (l:=l) (j:=j) (by omega)
  have a:¬Z6p d j l=i:=fun e=>by
   have:=Z3g.2 b;rw[e,hu.1]at this;cases this
  simp only[Z6p,Z1U,Tr.beq_dec,a,decide_false,jA,Z8V hu.2 (by omega:j<Z2u l)]
theorem Z5G {j:Nat}:∀{n i:Nat},j∈upN i n↔i<=j/\j<i+n
 | 0,i=>by simp[upN]
 | n+1,i=>by
  simp only[upN,jv,Z5G];omega
theorem ZbZ {k i:Nat}:∀{l:List Nat},i∈geN k l↔i∈l/\k<=i
 | []=>by simp[geN]
 | j::l=>by
  simp only[geN];cases hb:Nat.ble k j with
  | true =>
   have:=jf hb;simp only[jB,jv,ZbZ (l:=l)];constructor
   ·rintro(e|⟨b,a⟩)
    ·subst e;exact⟨.inl rfl,this⟩
    ·exact⟨.inr b,a⟩
   ·rintro⟨e|e,a⟩
    ·exact .inl e
    ·exact .inr ⟨e,a⟩
  | false =>
   have:¬k<=j:=fun h=>by rw[Nat.ble_eq_true_of_le h]at hb;cases hb
   simp only[jA,jv,ZbZ (l:=l)];constructor
   ·rintro⟨b,a⟩;exact⟨.inr b,a⟩
   ·rintro⟨e|e,a⟩
    ·subst e;exact absurd a this
    ·exact⟨e,a⟩
theorem Tr.allV_get {α:Type} {p:α->Bool}:∀{t:Tr α},t.allV p=true->∀{k:Nat} {x:α},t.get k=some x->p x=true
 | .leaf,_,k,x,h=>by cases h
 | .node l v r,ha,k,x,h=>by
  simp only[Tr.allV,jn]at ha;rw[Tr.get_node]at h
  by_cases e0:k=0
  ·rw[if_pos e0]at h;subst h;exact ha.2.1
  ·rw[if_neg e0]at h
   by_cases e1:k % 2=1
   ·rw[if_pos e1]at h;exact Tr.allV_get ha.1 h
   ·rw[if_neg e1]at h;exact Tr.allV_get ha.2.2 h
theorem Tr.mapv_get' {α β:Type} (f:α->β):∀(t:Tr α) (k:Nat),(t.mapv f).get k=(t.get k).map f
 | .leaf,_=>rfl
 | .node l v r,k=>by
  simp only[Tr.mapv];rw[Tr.get_node,Tr.get_node]
  by_cases e0:k=0
  ·rw[if_pos e0,if_pos e0]
  ·rw[if_neg e0,if_neg e0]
   by_cases e1:k % 2=1
   ·rw[if_pos e1,if_pos e1];exact Tr.mapv_get' f l _
   ·rw[if_neg e1,if_neg e1];exact Tr.mapv_get' f r _
theorem Tr.ents_get {α:Type}:∀(t:Tr α) (a b k:Nat) (x:α),t.get k=some x->(a*k+b,x)∈t.ents a b
 | .leaf,_,_,_,_,h=>by cases h
 | .node l v r,a,b,k,x,h=>by
  rw[Tr.get_node]at h;simp only[Tr.ents,List.mem_append]
  by_cases e0:k=0
  ·rw[if_pos e0]at h;subst h;subst e0;exact .inr (.inl (by simp))
  ·rw[if_neg e0]at h
   by_cases e1:k % 2=1
   ·rw[if_pos e1]at h;have:=Tr.ents_get l (2*a) (a+b) _ _ h;rw[show 2*a*(k / 2)+(a+b)=a*k+b by
     have:k=2*(k / 2)+1:=by omega
     generalize k / 2=m at this;subst this;rw[Nat.mul_add,<-Nat.mul_assoc,Nat.mul_comm a 2];omega]at this
    exact .inl this
   ·rw[if_neg e1]at h;have:=Tr.ents_get r (2*a) (2*a+b) _ _ h;rw[show 2*a*(k / 2-1)+(2*a+b)=a*k+b by
     have:k=2*(k / 2-1)+2:=by omega
     generalize k / 2-1=m at this;subst this;rw[Nat.mul_add,<-Nat.mul_assoc,Nat.mul_comm a 2];omega]at this
    exact .inr (.inr this)
theorem Z4z (h:Nat->Option Ze):∀(n:Nat) (todo acc:List Nat) (i:Nat),i∈Z1l h n todo acc->(∀j∈acc,∃x,h j=some x)->∃x,h i=some x
 | 0,_,acc,i,hi,ha=>ha i hi
 | n+1,[],acc,i,hi,ha=>ha i hi
 | n+1,j::todo,acc,i,hi,ha=>by
  simp only[Z1l]at hi;cases hq:acc.any (Nat.beq j)with
  | true=>rw[hq]at hi;exact Z4z h n _ _ i hi ha
  | false =>
   rw[hq]at hi;simp only[jA]at hi;cases hj:h j with
   | none=>rw[hj]at hi;exact Z4z h n _ _ i hi ha
   | some o =>
    rw[hj]at hi;refine Z4z h n _ _ i hi fun k a=>?_;rcases jv.1 a with e|e
    ·exact e▸⟨o,hj⟩
    ·exact ha k e
theorem Zc5 {p:Nat->Bool} {h:Nat->Option Ze}:∀{is:List Nat},okH p h is=true->∀i∈is,∀o,h i=some o->okO p o=true
 | [],_,i,hi,_,_=>by cases hi
 | j::is,hb,i,hi,o,ho=>by
  simp only[okH,jn]at hb;rcases jv.1 hi with e|e
  ·subst e;rw[ho]at hb;exact hb.1
  ·exact Zc5 hb.2 i e o ho
mutual
theorem Z74:∀d:DV,okD (fun _=>true) d=true
 | .ptr _ _ | .rptr _ _ _ _ _ | .rs _ _ | .rv _ _ _ _ _ | .map _ | .iter _ | .yld _=>by simp[okD]
 | .agg cs=>by simp only[okD];exact Z32 cs
 | .tup cs=>by simp only[okD];exact Z32 cs
 | .fn _ a b=>by simp only[okD,Z32 a,Z32 b,ju]
 | .iface _ v=>by simp only[okD];exact Z74 v
 | .bool _ | .int _ _ | .str _ | .nilp | .pub _ | .nils | .sl _ | .slen _ | .nilfn | .nilmap | .nilif=>by simp[okD]
theorem Z32:∀ds:List DV,Z1m (fun _=>true) ds=true
 | []=>by simp[Z1m]
 | d::ds=>by simp only[Z1m,Z74 d,Z32 ds,ju]
end
theorem Z7x {α:Type} {p:α->Bool} (a:∀x,p x=true):∀t:Tr α,t.allV p=true
 | .leaf=>rfl
 | .node l v r=>by
  simp only[Tr.allV,Z7x a l,Z7x a r,Bool.true_and,Bool.and_true];cases v with
  | none=>rfl
  | some x=>exact a x
theorem ZhS (o:Ze):okO (fun _=>true) o=true:=by
 cases o<;>simp only[okO]
 ·exact Z32 _
 ·exact Z7x Z74 _
def Z8k (p:Nat->Bool) (f:Nat->Nat) (β β':Bi):Prop:=∀i,p i=true->β'.blk (f i)=β.blk i/\∀u,β'.hdr (f i) u=β.hdr i u
section
variable {P:Program} {E:Env} {w0:World} {G0:Gh} {D:DD} {w:World} {β β':Bi} {G:Gh} {h:Nat->Option Ze} {p:Nat->Bool} {f:Nat->Nat}
mutual
theorem Rep.rn (e:Z8k p f β β'):∀(d:DV) (v:Value),okD p d=true->Rep β G d v->Rep β' G (rn f d) v
 | .bool _,_,_,h=>by unfold Ab.rn;unfold Rep at h⊢;exact h
 | .int _ _,_,_,h=>by unfold Ab.rn;unfold Rep at h⊢;exact h
 | .str _,_,_,h=>by unfold Ab.rn;unfold Rep at h⊢;exact h
 | .nilp,_,_,h=>by unfold Ab.rn;unfold Rep at h⊢;exact h
 | .ptr i _,_,hb,h=>by
  unfold Ab.rn;unfold Rep at h⊢;rw[(e i hb).1];exact h
 | .rptr i _ _ _ _,_,hb,h=>by
  unfold Ab.rn;unfold Rep at h⊢;simp only[(e i hb).2];exact h
 | .pub cs,_,_,h=>by
  unfold Ab.rn;unfold Rep at h⊢;obtain⟨l,b,o,j,g⟩:=h;exact⟨l,b,o,j,Pub.free cs b o l g⟩
 | .nils,_,_,h=>by unfold Ab.rn;unfold Rep at h⊢;exact h
 | .sl es,v,_,h=>by unfold Ab.rn;exact Rep.free _ v rfl h
 | .rs i _,_,hb,h=>by
  unfold Ab.rn;unfold Rep at h⊢;rw[(e i hb).2];exact h
 | .rv i _ _ _ _,_,hb,h=>by
  unfold Ab.rn;unfold Rep at h⊢;rw[(e i hb).2];exact h
 | .slen _,_,_,h=>by unfold Ab.rn;unfold Rep at h⊢;exact h
 | .agg cs,_,hb,h=>by unfold Ab.rn;unfold Rep at h⊢;obtain⟨vs,j,g⟩:=h;exact⟨vs,j,Zh.rn e cs vs (by simpa[okD]using hb) g⟩
 | .tup cs,_,hb,h=>by unfold Ab.rn;unfold Rep at h⊢;obtain⟨vs,j,g⟩:=h;exact⟨vs,j,Zh.rn e cs vs (by simpa[okD]using hb) g⟩
 | .fn _ a c,_,hb,h=>by
  unfold Ab.rn;unfold Rep at h⊢;obtain⟨as,cs,j,g,m⟩:=h;have k:Z1m p a=true/\Z1m p c=true:=by simpa[okD]using hb
  exact⟨as,cs,j,Zh.rn e a as k.1 g,Zh.rn e c cs k.2 m⟩
 | .nilfn,_,_,h=>by unfold Ab.rn;unfold Rep at h⊢;exact h
 | .map i,_,hb,h=>by
  unfold Ab.rn;unfold Rep at h⊢;rw[(e i hb).1];exact h
 | .nilmap,_,_,h=>by unfold Ab.rn;unfold Rep at h⊢;exact h
 | .iface _ d,_,hb,h=>by unfold Ab.rn;unfold Rep at h⊢;obtain⟨u,j,g⟩:=h;exact⟨u,j,Rep.rn e d u (by simpa[okD]using hb) g⟩
 | .nilif,_,_,h=>by unfold Ab.rn;unfold Rep at h⊢;exact h
 | .iter i,_,hb,h=>by
  unfold Ab.rn;unfold Rep at h⊢;rw[(e i hb).1];exact h
 | .yld i,_,hb,h=>by
  unfold Ab.rn;unfold Rep at h⊢;rw[(e i hb).1];exact h
theorem Zh.rn (b:Z8k p f β β'):∀(ds:List DV) (vs:List Value),Z1m p ds=true->Zh β G ds vs->Zh β' G (rns f ds) vs
 | [],_,_,h=>by unfold rns;unfold Zh at h⊢;exact h
 | d::ds,_,hb,h=>by
  unfold rns;unfold Zh at h⊢;have a:okD p d=true/\Z1m p ds=true:=by simpa[Z1m]using hb
  obtain⟨v,vs',e,c,g⟩:=h;exact⟨v,vs',e,Rep.rn b d v a.1 c,Zh.rn b ds vs' a.2 g⟩
end
theorem Zj7 (f:Nat->Nat) (d:DV):ZA (rn f d)=ZA d:=by cases d<;>simp[rn,ZA]
theorem ZdN (f:Nat->Nat):∀ds:List DV,(rns f ds).all ZA=ds.all ZA
 | []=>by simp[rns]
 | d::ds=>by simp only[rns,jt,Zj7,ZdN f ds]
theorem Z4q:∀{es:List (List DV)},(∀c∈es,Zf c=true)->Zf es.flatten=true
 | [],_=>rfl
 | c::es,h=>by
  have d:∀(a b:List DV),Zf a=true->Zf b=true->Zf (a++b)=true:=fun a b e f=>by
   induction a with
   | nil=>exact f
   | cons x a ih =>
    simp only[Zf,jn,List.cons_append]at e⊢;exact⟨e.1,ih e.2⟩
  rw[List.flatten_cons];exact d _ _ (h c (by simp)) (Z4q fun c hc=>h c (by simp[hc]))
theorem Z1Q.rn (h:Z8k p f β β') {id base:Nat} (a:p id=true):∀{o:Ze},okO p o=true->Z1Q E base w β G id o->Z1Q E base w β' G (f id) (rnO f o)
 | .cells t cs,hb,hr=>by
  obtain⟨b,vs,g,e,i,j,k⟩:=hr;exact⟨b,vs,by rw[(h id a).1];exact g,e,Zh.rn h cs _ hb i,by rw[ZdN];exact j,k⟩
 | .row t es q u,_,hr=>by
  obtain⟨hdr,vals,g,e,i,j,k,l,r⟩:=hr;exact⟨hdr,vals,by rw[(h id a).2];exact g,e,Zh.free _ _ (Z4q fun c hc=>(j c hc).2.1) i,j,k,l,fun u' x=>by rw[(h id a).2];exact r u' x⟩
 | .map es,_,hr=>by
  obtain⟨b,ms,clock,g,e,i,j⟩:=hr;exact⟨b,ms,clock,by rw[(h id a).1];exact g,e,Z7N i,j⟩
 | .mit m n se,hb,hr=>by
  obtain⟨b,bm,c0,g,e,i⟩:=hr;exact⟨b,bm,c0,by rw[(h id a).1];exact g,by rw[(h m hb).1];exact e,i⟩
 | .bag t es u,_,hr=>by
  obtain⟨fs,y,hdr,vals,g,e,i,j,k,l,r⟩:=hr;exact⟨fs,y,hdr,vals,by rw[(h id a).2];exact g,e,Zh.free _ _ (Z4q fun c hc=>(j c hc).2.1) i,j,k,l,fun u' x=>by rw[(h id a).2];exact r u' x⟩
 | .siter s pos,_,hr=>by
  obtain⟨b,g,e⟩:=hr;exact⟨b,by rw[(h id a).1];exact g,e⟩
 | .loop fid bs ps as bo bid ex,hb,hr=>by
  obtain⟨b,tmps,df,fn,F,g,e,i,j,k,l⟩:=hr;refine⟨b,tmps,df,fn,F,by rw[(h id a).1];exact g,e,fun t d ht=>?_,j,k,fun t d ht=>?_⟩
  ·rw[Tr.mapv_get']at ht;cases hq:bs.get t with
   | none=>rw[hq]at ht;cases ht
   | some d0 =>
    rw[hq]at ht;cases ht;obtain⟨v,r,z⟩:=i t d0 hq;exact⟨v,r,Rep.rn h d0 v (Tr.allV_get hb hq) z⟩
  ·rw[Tr.mapv_get']at ht;cases hq:bs.get t with
   | none=>rw[hq]at ht;cases ht
   | some d0=>exact l t d0 hq
theorem Zc9 (c:Z8k p f β β') {id:Nat} (a:p id=true) (o:Ze) (b:Nat):Yi β' (f id) (rnO f o) b↔Yi β id o b:=by
 cases o<;>simp only[rnO,Yi,(c id a).1,(c id a).2]
theorem HR.rn (e:Z8k p f β β') (n:∀i j,p i=true->p j=true->f i=f j->i=j) (hh:HR E w0 G0 D w β G h) {h':Nat->Option Ze}
  (hi:∀i y,h' i=some y->∃j x,p j=true/\f j=i/\h j=some x/\y=rnO f x/\okO p x=true):HR E w0 G0 D w β' G h' :=
 ⟨hh.below,hh.g0,hh.agree,fun i o a=>by
   obtain⟨j,x,d,rfl,c,rfl,m⟩:=hi i o a;exact Z1Q.rn e d m (hh.obj j x c),
  fun i o b a k=>by
   obtain⟨j,x,d,rfl,c,rfl,m⟩:=hi i o a;exact hh.own j x b c ((Zc9 e d x b).1 k),
  fun i i' o o' b a g k l=>by
   obtain⟨j,x,d,rfl,c,rfl,m⟩:=hi i o a;obtain⟨j',x',g1,rfl,g3,rfl,g5⟩:=hi i' o' g;rw[hh.inj j j' x x' b c g3 ((Zc9 e d x b).1 k) ((Zc9 e g1 x' b).1 l)],hh.marks,hh.inv0⟩
theorem Z46:∀{is:List Nat} {i:Nat} {y:Ze},(Z3n f h is).get i=some y->∃j∈is,∃x,f j=i/\h j=some x/\y=rnO f x
 | [],i,y,hy=>by cases hy
 | j::is,i,y,hy=>by
  simp only[Z3n,Tr.get_set]at hy
  by_cases e:i=f j
  ·rw[if_pos e]at hy;cases hj:h j with
   | none=>rw[hj]at hy;cases hy
   | some x=>rw[hj]at hy;cases hy;exact⟨j,by simp,x,e.symm,hj,rfl⟩
  ·rw[if_neg e]at hy;obtain⟨k,a,x,b⟩:=Z46 hy;exact⟨k,by simp[a],x,b⟩
theorem Zcm:∀{is:List Nat} {j:Nat},j∈is->(∀i∈is,f i=f j->i=j)->(Z3n f h is).get (f j)=(h j).map (rnO f)
 | i::is,j,b,hinj=>by
  simp only[Z3n,Tr.get_set]
  by_cases e:f j=f i
  ·rw[if_pos e];rw[hinj i (by simp) e.symm]
  ·rw[if_neg e];have a:j∈is:=by
    rcases jv.1 b with q|q
    ·subst q;exact absurd rfl e
    ·exact q
   exact Zcm a fun i hi=>hinj i (by simp[hi])
theorem Z6z:∀{is:List Nat} {i:Nat},(∀j∈is,f j≠i)->Zu i (Z47 f h is)=none
 | [],_,_=>rfl
 | j::is,i,hn=>by
  have a:Zu i (Z47 f h is)=none:=Z6z fun k b=>hn k (List.mem_cons_of_mem _ b);have:=hn j (by simp)
  simp only[Z47,Zu,a,Tr.beq_dec];simp[this]
theorem ZdL:∀{is:List Nat} {j:Nat},j∈is->(∀i∈is,f i=f j->i=j)->Zu (f j) (Z47 f h is)=some ((h j).map (rnO f))
 | i::is,j,b,hinj=>by
  simp only[Z47,Zu]
  by_cases hm:j∈is
  ·rw[ZdL hm fun i hi=>hinj i (by simp[hi])]
  ·have e:j=i:=by
    rcases jv.1 b with q|q
    ·exact q
    ·exact absurd q hm
   subst e;have c:Zu (f j) (Z47 f h is)=none:=Z6z fun k a q=>by
    have:=hinj k (by simp[a]) q
    subst this;exact hm a
   rw[c];simp
theorem Zd5 {h':Nat->Option Ze} {G':Gh} (b:Ext β G β G') (a:∀i t es p u,h i=some (.row t es p u)->∃p',h' i=some (.row t es p' u)) :
  ∀{ds:List DV} {vs:List Value},(∀i∈Zl ds,Z2L E β G' h' i)->Zh β G ds vs->Zh β G' (ds.map fun d=>(frz h d).getD d) vs
 | [],vs,_,hr=>by rw[Zj]at hr;exact Zj.2 hr
 | d::ds,vs,hs,hr=>by
  obtain⟨v,vs',rfl,c,e⟩:=Zd.1 hr;refine Zd.2 ⟨v,vs',rfl,?_,Zd5 b a (fun i hi=>hs i (by simp[Zl,hi])) e⟩
  show Rep β G' ((frz h d).getD d) v;cases hq:frz h d with
  | none=>exact Rep.mono b _ _ c
  | some d'=>exact(Z5z b a hq (fun i hi=>hs i (by simp[Zl,hi])) c).1
theorem ZiG {D:DD} {s:Tr Ze} {k:Nat} {β0:Bi} {G1:Gh} {r:DV} {o:Tr Ze} {n:Nat} {e:Ending} {w':World} (hfr:∀id,k<=id->ZH β0 s.get id) (hp:YL E w0 G0 D β0 G1 s k r o n e w')
  {y:DV×Tr Ze×Nat} (hy:Z8r k (r,o,n)=some y):YL E w0 G0 D β0 G1 s k y.1 y.2.1 y.2.2 e w':=by
 obtain⟨v,β',G',rfl,hle,w,hhr,hf',hv⟩:=hp;unfold Z8r at hy;simp only at hy;generalize hR:geN k (Z1l o.get 4096 (rid r++upN 0 k) [])=R at hy;obtain⟨hb,hy⟩:=Z3 hy;cases hy;simp only[jn]at hb;obtain⟨hu,hr1,hr2⟩:=hb;have hge:∀i∈R,k<=i:=fun i hi=>by rw[<-hR]at hi;exact(ZbZ.1 hi).2
 have m:∀j,(Nat.blt j k||Z3M j R)=true↔j<k\/j∈R:=fun j=>by
  simp only[Bool.or_eq_true,Tr.blt_dec,jk,Z3g]
 have l:∀j,j<k->Z2t k R j=j:=fun j c=>by simp[Z2t,Tr.blt_dec,c]
 have p:∀j,j∈R->Z2t k R j=k+Z1U j R:=fun j c=>by
  have:=hge j c;simp[Z2t,Tr.blt_dec,show ¬j<k by omega]
 have z:∀i j,(Nat.blt i k||Z3M i R)=true->(Nat.blt j k||Z3M j R)=true->Z2t k R i=Z2t k R j->i=j:=fun i j hi c he=>by
  rcases(m i).1 hi with hi|hi<;>rcases(m j).1 c with c|c
  ·rw[l i hi,l j c]at he;exact he
  ·rw[l i hi,p j c]at he;omega
  ·rw[p i hi,l j c]at he;omega
  ·rw[p i hi,p j c]at he;have:Z1U i R=Z1U j R:=by omega
   rw[<-Z4t (d:=0) hi,this,Z4t c]
 have a1:∀j,j∈upN 0 k++R↔j<k\/j∈R:=fun j=>by
  rw[List.mem_append,Z5G];simp
 have t:∀i y,(Z3n (Z2t k R) o.get (upN 0 k++R)).get i=some y->∃j x,(Nat.blt j k||Z3M j R)=true/\Z2t k R j=i/\o.get j=some x/\y=rnO (Z2t k R) x/\okO (fun j=>Nat.blt j k||Z3M j R) x=true:=fun i y hy=>by
  obtain⟨j,c,x,h1,h2,h3⟩:=Z46 hy;exact⟨j,x,(m j).2 ((a1 j).1 c),h1,h2,h3,Zc5 hr2 j c x h2⟩
 let β3:Bi:=⟨fun i=>if i<k then β'.blk i else if i<k+Z2u R then β'.blk (Z6p 0 (i-k) R)else none,fun i u=>if i<k then β'.hdr i u else if i<k+Z2u R then β'.hdr (Z6p 0 (i-k) R) u else none⟩
 have a0:Z8k (fun j=>Nat.blt j k||Z3M j R) (Z2t k R) β' β3:=fun j c=>by
  rcases(m j).1 c with c|c
  ·rw[l j c];simp only[β3,if_pos c];exact⟨trivial,fun _=>trivial⟩
  ·rw[p j c];have:=Z5B c;simp only[β3,show ¬k+Z1U j R<k by omega,if_false,show k+Z1U j R<k+Z2u R by omega,if_true,show k+Z1U j R-k=Z1U j R by omega,Z4t c]
   exact⟨trivial,fun _=>trivial⟩
 refine⟨v,β3,G',rfl,Nat.le_add_right _ _,⟨⟨w.ext.g,fun id b a=>?_,fun id u x a=>?_⟩,fun id a hn=>?_⟩,HR.rn a0 z hhr t,fun id a=>⟨?_,fun u=>?_,?_⟩,Rep.rn a0 r v hr1 hv⟩
 ·by_cases q:id<k
  ·simp only[β3,if_pos q];exact w.ext.blk id b a
  ·rw[(hfr id (by omega)).blk]at a;cases a
 ·by_cases q:id<k
  ·simp only[β3,if_pos q];exact w.ext.hdr id u x a
  ·rw[(hfr id (by omega)).hdr]at a;cases a
 ·obtain⟨k1,k2,k3⟩:=w.keep id a hn;refine⟨?_,?_,fun u=>?_⟩
  ·have:=Zcm (f:=Z2t k R) (h:=o.get) (is:=upN 0 k++R) (j:=id) ((a1 id).2 (.inl a)) (fun i hi he=>z i id ((m i).2 ((a1 i).1 hi)) ((m id).2 (.inl a)) he);rw[l id a,k1]at this;exact this
  ·simp only[β3,if_pos a];exact k2
  ·simp only[β3,if_pos a];exact k3 u
 ·have q:k+Z2u R<=id:=a;simp only[β3,show ¬id<k by omega,if_false,show ¬id<k+Z2u R by omega]
 ·have q:k+Z2u R<=id:=a;simp only[β3,show ¬id<k by omega,if_false,show ¬id<k+Z2u R by omega]
 ·have q:k+Z2u R<=id:=a;cases hq:(Z3n (Z2t k R) o.get (upN 0 k++R)).get id with
  | none=>rfl
  | some y =>
   obtain⟨j,x,h1,h2,_⟩:=t id y hq;rcases(m j).1 h1 with c|c
   ·rw[l j c]at h2;omega
   ·rw[p j c]at h2;have:=Z5B c;omega
theorem Zgi {callH:Ye} (hH:YW P E callH):YW P E (Z4j E callH):=fun g as o nx r o' nx' s=>by
 unfold Z4j at s;obtain⟨F,hF,s⟩:=Z0 s;cases hc:F.can with
 | false=>rw[hc]at s;exact hH g as o nx r o' nx' s
 | true =>
  rw[hc]at s;simp only[jB]at s;generalize hfs:(as.map fun d=>(frz o.get d).getD d)=fs at s;generalize ho1:Y6 o (Zs o.get (Zl as))=o1 at s;generalize hR:Z1l o1.get 4096 (Z1v fs) []=R at s;generalize hk:Z2u R=k at s;obtain⟨hb,s⟩:=Z3 s;obtain⟨⟨r1,o2,n2⟩,hcall,s⟩:=Z0 s;obtain⟨⟨r3,o3,n3⟩,hexit,s⟩:=Z0 s;cases s;simp only[jn]at hb;obtain⟨hu,hb1,hb2⟩:=hb;obtain⟨hent,hcs⟩:=hH _ _ _ _ _ _ _ hcall;refine⟨hent,fun w0 G0 D w β G vs hh hfr hrep=>?_⟩
  obtain⟨G1,hx1,a8,hs1⟩:=Z1N hh (Zl as);have hrep1:Zh β G1 fs vs.toList:=by rw[<-hfs];exact Zd5 hx1 (Z2a _ _) hs1 hrep
  have a4:∀i,o1.get i=ZC o.get (Zs o.get (Zl as)) i:=fun i=>by rw[<-ho1];exact Z2C _ _ _
  have a8:HR E w0 G0 D w β G1 o1.get:=a8.eq a4;have hk1:∀i,o.get i=none->o1.get i=none:=fun i hi=>by
   rw[a4];unfold ZC;cases z:Zu i (Zs o.get (Zl as))with
   | none=>exact hi
   | some y =>
    obtain⟨t',es',p',u',k1,_⟩:=Yb o.get _ i y z;rw[hi]at k1;cases k1
  have a1:∀id,nx<=id->ZH β o1.get id:=fun id a=>⟨(hfr id a).blk,(hfr id a).hdr,hk1 id (hfr id a).h⟩;have hRs:∀i∈R,∃x,o1.get i=some x:=fun i hi=>Z4z _ _ _ _ _ (by rw[<-hR]at hi;exact hi) (fun _ z=>by cases z)
  have hRlt:∀i∈R,i<nx:=fun i hi=>by
   obtain⟨x,hx⟩:=hRs i hi;rcases Nat.lt_or_ge i nx with q|q
   ·exact q
   ·rw[(a1 i q).h]at hx;cases hx
  have hs:∀i x,(Z2A o1.get R).get i=some x->o1.get i=some x:=fun i x hi=>by
   rw[Z2b]at hi;split at hi
   ·exact hi
   ·cases hi
  have hsR:∀i x,(Z2A o1.get R).get i=some x->i∈R:=fun i x hi=>by
   rw[Z2b]at hi;split at hi
   ·assumption
   ·cases hi
  have hcut:=Zet (D:=D) a8 hs
  have a3:∀j,j<k->ZI k nx R j=Z6p 0 j R:=fun j f=>by simp[ZI,Tr.blt_dec,f]
  have n:∀j,k<=j->ZI k nx R j=nx+(j-k):=fun j f=>by simp[ZI,Tr.blt_dec,show ¬j<k by omega]
  have a7:∀i,i∈R->ZI k nx R (Z1U i R)=i:=fun i hi=>by
   rw[a3 _ (by rw[<-hk];exact Z5B hi),Z4t hi]
  let β0:Bi:=⟨fun j=>β.blk (ZI k nx R j),fun j u=>β.hdr (ZI k nx R j) u⟩
  have a2:Z8k (fun i=>Z3M i R) (Z4O R) β β0:=fun i hi=>by
   have hi:=Z3g.1 hi;show β.blk (ZI k nx R (Z1U i R))=_/\∀u,β.hdr (ZI k nx R (Z1U i R)) u=_;rw[a7 i hi];exact⟨rfl,fun _=>rfl⟩
  have hinj0:∀i j,Z3M i R=true->Z3M j R=true->Z4O R i=Z4O R j->i=j:=fun i j hi f p=>by
   have hi:=Z3g.1 hi;have f:=Z3g.1 f;have p:Z1U i R=Z1U j R:=p;rw[<-Z4t (d:=0) hi,p,Z4t f]
  have hh0:HR E w0 G0 (Z7A D w β G1 o1.get (Z2A o1.get R).get) w β0 G1 (Z3n (Z4O R) o1.get R).get:=HR.rn a2 hinj0 hcut fun i y hy=>by
   obtain⟨j,f,x,l,h2,h3⟩:=Z46 hy;exact⟨j,x,Z3g.2 f,l,by rw[Z2b,if_pos f];exact h2,h3,Zc5 hb2 j f x h2⟩
  have hfr0:∀j,k<=j->ZH β0 (Z3n (Z4O R) o1.get R).get j:=fun j f=>by
   have z:=hfr (nx+(j-k)) (by omega)
   refine⟨?_,fun u=>?_,?_⟩
   ·show β.blk (ZI k nx R j)=none;rw[n j f];exact z.blk
   ·show β.hdr (ZI k nx R j) u=none;rw[n j f];exact z.hdr u
   ·cases z:(Z3n (Z4O R) o1.get R).get j with
    | none=>rfl
    | some y =>
     obtain⟨i,hi,x,l,_⟩:=Z46 z;have:Z1U i R<Z2u R:=Z5B hi;have l:Z1U i R=j:=l;omega
  refine Calls.mono (hcs w0 G0 _ w β0 G1 vs hh0 hfr0 (Zh.rn a2 _ _ hb1 hrep1)) fun e w' p=>?_;obtain⟨v,β3,G',rfl,hle,a9,hhr,hf3,hv⟩:=ZiG hfr0 p hexit;simp only at hle a9 hhr hf3 hv
  let β4:Bi:=⟨fun i=>if i∈R then β3.blk (Z1U i R)else if nx<=i then β3.blk (i-nx+k)else β.blk i,fun i u=>if i∈R then β3.hdr (Z1U i R) u else if nx<=i then β3.hdr (i-nx+k) u else β.hdr i u⟩
  have m:∀j,j<k->ZI k nx R j∈R:=fun j f=>by rw[a3 j f];exact Zc3 (by omega)
  have a6:∀j,k<=j->ZI k nx R j∉R:=fun j f t=>by
   rw[n j f]at t;have:=hRlt _ t;omega
  have a5:Z8k (fun _=>true) (ZI k nx R) β3 β4:=fun j _=>by
   by_cases q:j<k
   ·have t:=m j q;simp only[β4,if_pos t];rw[a3 j q,Z8V hu (by omega)]
    exact⟨rfl,fun _=>rfl⟩
   ·have t:=a6 j (by omega)
    simp only[β4,if_neg t];rw[n j (by omega),if_pos (by omega),show nx+(j-k)-nx+k=j by omega]
    refine⟨rfl,fun u=>?_⟩;rw[if_pos (by omega)]
  have a0:∀i j,ZI k nx R i=ZI k nx R j->i=j:=fun i j p=>by
   by_cases qi:i<k<;>by_cases qj:j<k
   ·have l:=Z8V (d:=0) hu (by omega:i<Z2u R)
    rw[<-a3 i qi,p,a3 j qj,Z8V hu (by omega)]at l
    exact l.symm
   ·have:=m i qi;rw[p]at this;exact absurd this (a6 j (by omega))
   ·have:=m j qj;rw[<-p]at this;exact absurd this (a6 i (by omega))
   ·rw[n i (by omega),n j (by omega)]at p
    omega
  have c:∀i y,(Z3n (ZI k nx R) o3.get (upN 0 n3)).get i=some y->∃j x,j<n3/\ZI k nx R j=i/\o3.get j=some x/\y=rnO (ZI k nx R) x:=fun i y hy=>by
   obtain⟨j,f,x,l,h2,h3⟩:=Z46 hy;exact⟨j,x,by rw[Z5G]at f;omega,l,h2,h3⟩
  have hat4:∀j,j<n3->(Z3n (ZI k nx R) o3.get (upN 0 n3)).get (ZI k nx R j)=(o3.get j).map (rnO (ZI k nx R)):=fun j f =>
   Zcm (Z5G.2 ⟨by omega,by omega⟩) fun i _ p=>a0 i j p
  have hpost:YL E w0 G0 (Z7A D w β G1 o1.get (Z2A o1.get R).get) β G1 (Z2A o1.get R) nx (rn (ZI k nx R) r3) (Z3n (ZI k nx R) o3.get (upN 0 n3)) (nx+(n3-k)) (.returned v) w':=by
   refine⟨v,β4,G',rfl,Nat.le_add_right _ _,⟨⟨a9.ext.g,fun id b a=>?_,fun id u x a=>?_⟩,fun id a hn=>?_⟩,?_,fun id a=>?_,Rep.rn a5 _ _ (Z74 _) hv⟩
   ·simp only[β4]
    by_cases q:id∈R
    ·rw[if_pos q];refine a9.ext.blk _ b ?_;show β.blk (ZI k nx R (Z1U id R))=some b;rw[a7 id q];exact a
    ·rw[if_neg q]
     by_cases q2:nx<=id
     ·rw[(hfr id q2).blk]at a;cases a
     ·rw[if_neg q2];exact a
   ·simp only[β4]
    by_cases q:id∈R
    ·rw[if_pos q];refine a9.ext.hdr _ u x ?_;show β.hdr (ZI k nx R (Z1U id R)) u=some x;rw[a7 id q];exact a
    ·rw[if_neg q]
     by_cases q2:nx<=id
     ·rw[(hfr id q2).hdr]at a;cases a
     ·rw[if_neg q2];exact a
   ·by_cases q:id∈R
    ·rw[Z2b,if_pos q]at hn;obtain⟨x,hx⟩:=hRs id q;rw[hn]at hx;cases hx
    ·refine⟨?_,?_,fun u=>?_⟩
     ·cases z:(Z3n (ZI k nx R) o3.get (upN 0 n3)).get id with
      | none=>rfl
      | some y =>
       obtain⟨j,x,_,l,_⟩:=c id y z
       by_cases qj:j<k
       ·exact absurd (l▸m j qj) q
       ·rw[n j (by omega)]at l;omega
     ·simp only[β4,if_neg q,show ¬nx<=id by omega,if_false]
     ·simp only[β4,if_neg q,show ¬nx<=id by omega,if_false]
   ·refine HR.rn a5 (fun i j _ _ p=>a0 i j p) hhr fun i y hy=>?_;obtain⟨j,x,_,l,h2,h3⟩:=c i y hy;exact⟨j,x,rfl,l,h2,h3,ZhS x⟩
   ·have t:id∉R:=fun t=>by have:=hRlt id t;omega
    have hf:=hf3 (id-nx+k) (by omega)
    refine⟨?_,fun u=>?_,?_⟩
    ·simp only[β4,if_neg t,show nx<=id by omega,if_true];exact hf.blk
    ·simp only[β4,if_neg t,show nx<=id by omega,if_true];exact hf.hdr u
    ·cases z:(Z3n (ZI k nx R) o3.get (upN 0 n3)).get id with
     | none=>rfl
     | some y =>
      obtain⟨j,x,h0,l,_⟩:=c id y z
      by_cases qj:j<k
      ·exact absurd (l▸m j qj) t
      ·rw[n j (by omega)]at l;omega
  obtain⟨v2,β2,G2,e2,hle2,hx2,hkp,hh2,hf2,hv2⟩:=ZbD a8 hs hsR a1 hpost;have heq:∀i,(Y6 o1 (Z47 (ZI k nx R) o3.get (upN 0 n3))).get i=ZC o1.get (Z51 (Z3n (ZI k nx R) o3.get (upN 0 n3)) R nx) i:=fun i=>by
   rw[Z2C,Z7u]
   by_cases hi:∃j,j<n3/\ZI k nx R j=i
   ·obtain⟨j,f,rfl⟩:=hi;have l:ZC o1.get (Z47 (ZI k nx R) o3.get (upN 0 n3)) (ZI k nx R j)=(o3.get j).map (rnO (ZI k nx R)):=by
     unfold ZC;rw[ZdL (Z5G.2 ⟨by omega,by omega⟩) fun i _ p=>a0 i j p]
    rw[l,<-hat4 j f];split
    ·rfl
    ·rename_i t;have hm1:ZI k nx R j∉R:=fun q=>t (List.mem_append_left _ q);have hkj:¬j<k:=fun q=>hm1 (m j q);have hge:nx<=ZI k nx R j:=by rw[n j (by omega)];omega
     rw[(a1 _ hge).h];cases z:(Z3n (ZI k nx R) o3.get (upN 0 n3)).get (ZI k nx R j)with
     | none=>rfl
     | some y =>
      refine absurd ?_ t;refine List.mem_append_right _ (List.mem_filter.2 ⟨List.mem_map.2 ⟨(1*ZI k nx R j+0,y),Tr.ents_get _ 1 0 _ y z,by simp⟩,Nat.ble_eq_true_of_le hge⟩)
   ·have l:ZC o1.get (Z47 (ZI k nx R) o3.get (upN 0 n3)) i=o1.get i:=by
     unfold ZC;rw[Z6z fun j f p=>hi ⟨j,by rw[Z5G]at f;omega,p⟩]
    have h2:(Z3n (ZI k nx R) o3.get (upN 0 n3)).get i=none:=by
     cases z:(Z3n (ZI k nx R) o3.get (upN 0 n3)).get i with
     | none=>rfl
     | some y =>
      obtain⟨j,x,h0,l,_⟩:=c i y z;exact absurd ⟨j,h0,l⟩ hi
    rw[l,h2];split
    ·rename_i t;rcases Zhj t with q|q
     ·refine absurd ⟨Z1U i R,?_,a7 i q⟩ hi;have:=Z5B q;omega
     ·exact(a1 i q).h
    ·rfl
  refine⟨v2,β2,G2,e2,hle2,⟨hx1.trans hx2,fun id a hn=>?_⟩,hh2.eq heq,fun id a=>?_,hv2⟩
  ·obtain⟨k1,k2,k3⟩:=hkp id a (hk1 id hn);exact⟨by rw[heq];exact k1,k2,k3⟩
  ·have:=hf2 id a;exact⟨this.blk,this.hdr,by rw[heq];exact this.h⟩
end
end Go.Ab
namespace Go.Ab
def Le (h h':Nat->Option Ze) (d:DV):Prop:=∀id,id∈Zx d->∀o,h id=some o->h' id=some o
section
variable {E:Env} {ρ ρ':Nat->Option DV} {h h':Nat->Option Ze} {nid:Nat}
def OkX (ρ ρ':Nat->Option DV) (h h':Nat->Option Ze) (x:Operand):Prop:=∀d,ZX ρ x=some d->ZX ρ' x=some d/\Le h h' d
mutual
theorem Za4:∀(d:DV) (i:Nat),i∈Zk d->i∈Zx d
 | .rs _ _,_,h=>by simpa[Zk,Zx]using h
 | .rv _ _ _ _ _,_,h=>by simpa[Zk,Zx]using h
 | .slen _,_,h=>by simp[Zk]at h
 | .agg cs,i,h=>by simp only[Zk,Zx]at h⊢;exact Z35 cs i h
 | .tup cs,i,h=>by simp only[Zk,Zx]at h⊢;exact Z35 cs i h
 | .iface _ v,i,h=>by simp only[Zk,Zx]at h⊢;exact Za4 v i h
 | .bool _,_,h=>by simp[Zk]at h
 | .int _ _,_,h=>by simp[Zk]at h
 | .str _,_,h=>by simp[Zk]at h
 | .nilp,_,h=>by simp[Zk]at h
 | .ptr _ _,_,h=>by simp[Zk]at h
 | .rptr _ _ _ _ _,_,h=>by simp[Zk]at h
 | .pub _,_,h=>by simp[Zk]at h
 | .nils,_,h=>by simp[Zk]at h
 | .sl _,_,h=>by simp[Zk]at h
 | .fn _ _ _,_,h=>by simp[Zk]at h
 | .nilfn,_,h=>by simp[Zk]at h
 | .map _,_,h=>by simp[Zk]at h
 | .nilmap,_,h=>by simp[Zk]at h
 | .nilif,_,h=>by simp[Zk]at h
 | .iter _,_,h=>by simp[Zk]at h
 | .yld _,_,h=>by simp[Zk]at h
theorem Z35:∀(ds:List DV) (i:Nat),i∈Zl ds->i∈ZG ds
 | [],_,h=>by simp[Zl]at h
 | d::ds,i,h=>by
  simp only[Zl,ZG,List.mem_append]at h⊢;rcases h with h|h
  ·exact .inl (Za4 d i h)
  ·exact .inr (Z35 ds i h)
end
mutual
theorem Z7D:∀(d d':DV),frz h d=some d'->∀i∈Zk d,∃o,h i=some o
 | .rs id v,_,hd,i,hi=>by
  simp only[frz]at hd;obtain⟨o,b,_⟩:=Z0 hd;simp only[Zk,List.mem_singleton]at hi;subst hi;exact⟨o,b⟩
 | .rv _ _ _ _ _,_,hd,_,_=>by simp[frz,Zi]at hd
 | .slen _,_,hd,i,hi=>by simp[Zk]at hi
 | .agg cs,_,hd,i,hi=>by
  simp only[frz]at hd;obtain⟨cs',a,_⟩:=Z0 hd;exact Z4p cs cs' a i (by simpa[Zk]using hi)
 | .tup cs,_,hd,i,hi=>by
  simp only[frz]at hd;obtain⟨cs',a,_⟩:=Z0 hd;exact Z4p cs cs' a i (by simpa[Zk]using hi)
 | .iface _ v,_,hd,i,hi=>by
  simp only[frz]at hd;obtain⟨v',a,_⟩:=Z0 hd;exact Z7D v v' a i (by simpa[Zk]using hi)
 | .bool _,_,_,_,h=>by simp[Zk]at h
 | .int _ _,_,_,_,h=>by simp[Zk]at h
 | .str _,_,_,_,h=>by simp[Zk]at h
 | .nilp,_,_,_,h=>by simp[Zk]at h
 | .ptr _ _,_,_,_,h=>by simp[Zk]at h
 | .rptr _ _ _ _ _,_,_,_,h=>by simp[Zk]at h
 | .pub _,_,_,_,h=>by simp[Zk]at h
 | .nils,_,_,_,h=>by simp[Zk]at h
 | .sl _,_,_,_,h=>by simp[Zk]at h
 | .fn _ _ _,_,_,_,h=>by simp[Zk]at h
 | .nilfn,_,_,_,h=>by simp[Zk]at h
 | .map _,_,_,_,h=>by simp[Zk]at h
 | .nilmap,_,_,_,h=>by simp[Zk]at h
 | .nilif,_,_,_,h=>by simp[Zk]at h
 | .iter _,_,_,_,h=>by simp[Zk]at h
 | .yld _,_,_,_,h=>by simp[Zk]at h
theorem Z4p:∀(ds ds':List DV),Z1P h ds=some ds'->∀i∈Zl ds,∃o,h i=some o
 | [],_,_,i,hi=>by simp[Zl]at hi
 | d::ds,_,a,i,hi=>by
  simp only[Z1P]at a;obtain⟨c,e,a⟩:=Z0 a;obtain⟨cs,b,_⟩:=Z0 a;simp only[Zl,List.mem_append]at hi;rcases hi with hi|hi
  ·exact Z7D d c e i hi
  ·exact Z4p ds cs b i hi
end
mutual
theorem Z9x:∀(d d':DV),Le h h' d->frz h d=some d'->frz h' d=some d'
 | .rs id v,d',hl,hd=>by
  simp only[frz]at hd⊢;obtain⟨o,e,b⟩:=Z0 hd;rw[hl id (by simp[Zx]) o e];exact b
 | .rv _ _ _ _ _,_,_,hd=>by simpa only[frz]using hd
 | .slen _,_,_,hd=>by simpa only[frz]using hd
 | .agg cs,d',hl,hd=>by
  simp only[frz]at hd⊢;obtain⟨cs',c,b⟩:=Z0 hd;rw[Z5A cs cs' (fun id a=>hl id (by simpa[Zx]using a)) c];exact b
 | .tup cs,d',hl,hd=>by
  simp only[frz]at hd⊢;obtain⟨cs',c,b⟩:=Z0 hd;rw[Z5A cs cs' (fun id a=>hl id (by simpa[Zx]using a)) c];exact b
 | .iface _ v,d',hl,hd=>by
  simp only[frz]at hd⊢;obtain⟨v',c,b⟩:=Z0 hd;rw[Z9x v v' (fun id a=>hl id (by simpa[Zx]using a)) c];exact b
 | .bool _,_,_,hd=>by simpa only[frz]using hd
 | .int _ _,_,_,hd=>by simpa only[frz]using hd
 | .str _,_,_,hd=>by simpa only[frz]using hd
 | .nilp,_,_,hd=>by simpa only[frz]using hd
 | .ptr _ _,_,_,hd=>by simpa only[frz]using hd
 | .rptr _ _ _ _ _,_,_,hd=>by simpa only[frz]using hd
 | .pub _,_,_,hd=>by simpa only[frz]using hd
 | .nils,_,_,hd=>by simpa only[frz]using hd
 | .sl _,_,_,hd=>by simpa only[frz]using hd
 | .fn _ _ _,_,_,hd=>by simpa only[frz]using hd
 | .nilfn,_,_,hd=>by simpa only[frz]using hd
 | .map _,_,_,hd=>by simpa only[frz]using hd
 | .nilmap,_,_,hd=>by simpa only[frz]using hd
 | .nilif,_,_,hd=>by simpa only[frz]using hd
 | .iter _,_,_,hd=>by simpa only[frz]using hd
 | .yld _,_,_,hd=>by simpa only[frz]using hd
theorem Z5A:∀(ds ds':List DV),(∀id,id∈ZG ds->∀o,h id=some o->h' id=some o)->Z1P h ds=some ds'->Z1P h' ds=some ds'
 | [],_,_,hd=>hd
 | d::ds,d',hl,hd=>by
  simp only[Z1P]at hd⊢;obtain⟨c,f,b⟩:=Z0 hd;obtain⟨cs,g,e⟩:=Z0 b;rw[Z9x d c (fun id a=>hl id (by simp[ZG,a])) f]
  simp only[jm];rw[Z5A ds cs (fun id a=>hl id (by simp[ZG,a])) g]
  exact e
end
theorem Zez {d d':DV} (a:Z9w E h d=some d'):∀i∈Zk d,∃o,h i=some o:=by
 unfold Z9w at a;split at a
 ·obtain⟨o,b,_⟩:=Z0 a;intro i hi;simp only[Zk,List.mem_singleton]at hi;subst hi;exact⟨o,b⟩
 ·exact Z7D _ _ a
theorem Z8u:∀(ds ds':List DV),Z3X E h ds=some ds'->∀i∈Zl ds,∃o,h i=some o
 | [],_,_,i,hi=>by simp[Zl]at hi
 | d::ds,_,a,i,hi=>by
  simp only[Z3X]at a;obtain⟨c,e,a⟩:=Z0 a;obtain⟨cs,b,_⟩:=Z0 a;simp only[Zl,List.mem_append]at hi;rcases hi with hi|hi
  ·exact Zez e i hi
  ·exact Z8u ds cs b i hi
theorem Zgt {d d':DV} (b:Le h h' d) (a:Z9w E h d=some d'):Z9w E h' d=some d':=by
 unfold Z9w at a⊢;split at a
 ·obtain⟨o,c,e⟩:=Z0 a;rw[b _ (by simp[Zx]) o c];exact e
 ·exact Z9x _ _ b a
theorem Z9y:∀(ds ds':List DV),(∀id,id∈ZG ds->∀o,h id=some o->h' id=some o)->Z3X E h ds=some ds'->Z3X E h' ds=some ds'
 | [],_,_,a=>a
 | d::ds,d',hl,a=>by
  simp only[Z3X]at a⊢;obtain⟨c,f,a⟩:=Z0 a;obtain⟨cs,e,a⟩:=Z0 a;rw[Zgt (fun id b=>hl id (by simp[ZG,b])) f,Z9y ds cs (fun id b=>hl id (by simp[ZG,b])) e];exact a
theorem Z5s:∀(is:List Nat),(∀i∈is,h i=h' i)->Zs h is=Zs h' is
 | [],_=>rfl
 | i::is,hs=>by
  simp only[Zs];rw[hs i (by simp),Z5s is (fun j a=>hs j (by simp[a]))]
theorem Z2W:∀(is:List Nat) (u:Nat×Option Ze),u∈Zs h is->u.1∈is
 | [],u,a=>by simp[Zs]at a
 | i::is,u,a=>by
  simp only[Zs,List.mem_append]at a;rcases a with a|a
  ·split at a
   ·rename_i p _ _;cases hp:Nat.beq p 1 with
    | true=>rw[hp]at a;cases a
    | false=>rw[hp]at a;simp only[jA,List.mem_singleton]at a;subst a;simp
   ·cases a
  ·exact List.mem_cons_of_mem _ (Z2W is u a)
theorem Z8a {ds:List DV} (c:∀id,id∈ZG ds->∀o,h id=some o->h' id=some o) (b:∀i∈Zl ds,∃o,h i=some o):Zs h' (Zl ds)=Zs h (Zl ds) :=
 (Z5s _ fun i hi=>by
  obtain⟨o,a⟩:=b i hi;rw[a,c i (Z35 ds i hi) o a]).symm
theorem Zdc {d:DV} {es:List (List DV)} (c:Le h h' d) (a:ZW h d=some es):Z3b h' d=Z3b h d:=by
 cases d with
 | rs id v =>
  simp only[ZW]at a;obtain⟨o,b,_⟩:=Z0 a;simp only[Z3b,b,c id (by simp[Zx]) o b]
 | _=>rfl
theorem Z6i {d:DV} {es:List (List DV)} (f:Le h h' d) (a:ZW h d=some es):ZW h' d=some es:=by
 cases d with
 | rs id v =>
  simp only[ZW]at a⊢;obtain⟨o,b,c⟩:=Z0 a;rw[f id (by simp[Zx]) o b];exact c
 | rv id v i n e =>
  simp only[ZW]at a⊢;obtain⟨o,b,c⟩:=Z0 a;rw[f id (by simp[Zx]) o b];exact c
 | nils=>exact a
 | sl es=>exact a
 | _=>cases a
theorem ZcT {d:DV} {es:List (List DV)} (a:ZW h d=some es):∀i∈Zl [d],∃o,h i=some o:=fun i hi=>by
 cases d with
 | rs id v =>
  simp only[ZW]at a;obtain⟨o,b,_⟩:=Z0 a;simp[Zl,Zk]at hi;subst hi;exact⟨o,b⟩
 | rv id v i n e =>
  simp only[ZW]at a;obtain⟨o,b,_⟩:=Z0 a;simp[Zl,Zk]at hi;subst hi;exact⟨o,b⟩
 | nils=>simp[Zl,Zk]at hi
 | sl es=>simp[Zl,Zk]at hi
 | _=>cases a
theorem ZgC {ti:TI} {a d:DV} (g:Le h h' a) (b:Z3f ti h a=some d):Z3f ti h' a=some d:=by
 cases a with
 | ptr id off =>
  simp only[Z3f]at b⊢;obtain⟨o,c,f⟩:=Z0 b;rw[g id (by simp[Zx]) o c];exact f
 | rptr id v i e off =>
  simp only[Z3f]at b⊢;obtain⟨o,c,f⟩:=Z0 b;rw[g id (by simp[Zx]) o c];exact f
 | pub cs=>exact b
 | _=>cases b
theorem Zff {ti:TI} {a v:DV} {us:List (Nat×Option Ze)} (j:Le h h' a) (c:Z5t ti h a v=some us):Z5t ti h' a v=some us/\∀u∈us,u.1∈Zx a:=by
 unfold Z5t at c⊢;obtain⟨k,c⟩:=Z3 c;rw[k];cases a with
 | ptr id off =>
  simp only[jB]at c⊢;obtain⟨o,f,b⟩:=Z0 c;rw[j id (by simp[Zx]) o f]
  refine⟨b,?_⟩;split at b
  ·obtain⟨_,g⟩:=Z3 b;cases g;intro u d;simp only[List.mem_singleton]at d;subst d;simp[Zx]
  ·cases b
 | rptr id v i e off =>
  simp only[jB]at c⊢;obtain⟨o,f,b⟩:=Z0 c;rw[j id (by simp[Zx]) o f]
  refine⟨b,?_⟩;split at b
  ·obtain⟨_,_,b⟩:=Z0 b;obtain⟨_,g⟩:=Z3 b;cases g;intro u d;simp only[List.mem_singleton]at d;subst d;simp[Zx]
  ·cases b
 | _=>cases c
theorem ZhC {k:TK} {d r:DV} (c:Le h h' d) (a:Z5P k h d=some r):Z5P k h' d=some r:=by
 unfold Z5P at a⊢;split at a
 ·exact a
 ·exact a
 ·rename_i id;obtain⟨o,e,b⟩:=Z0 a;rw[c id (by simp[Zx]) o e];exact b
 ·exact a
 ·obtain⟨es,f,b⟩:=Z0 a;rw[Z6i c f];exact b
 ·exact a
 ·cases a
theorem Zel {t t':TypeId} {x:DV} {xs:List (List DV)} (b:Le h h' x) (a:Z8l E h t t' x=some xs):Z8l E h' t t' x=some xs:=by
 unfold Z8l at a⊢;cases hq:Nat.beq t t' with
 | true=>rw[hq]at a;exact Z6i b a
 | false=>rw[hq]at a;exact a
theorem ZcI {t t':TypeId} {s x:DV} {r:Out} (k:Le h h' s) (l:Le h h' x) (a:Z2d E nid h t t' s x=some r):Z2d E nid h' t t' s x=some r/\∀u∈r.upd,u.1=nid\/u.1∈Zx s:=by
 unfold Z2d at a⊢;obtain⟨ti,e,a⟩:=Z0 a;rw[e];simp only[jm];split at a
 ·obtain⟨ei,g,a⟩:=Z0 a;obtain⟨xs,f,a⟩:=Z0 a;rw[g];simp only[jm,Zel l f];obtain⟨m,a⟩:=Z3 a;rw[m];simp only[jB];cases s with
  | nils =>
   refine⟨a,?_⟩;cases xs with
   | nil=>cases a;simp
   | cons c cs =>
    obtain⟨_,a⟩:=Z3 a;cases a;intro u b;simp only[List.mem_singleton]at b;subst b;exact .inl rfl
  | rs id v =>
   simp only at a⊢;obtain⟨o,i,d⟩:=Z0 a;rw[k id (by simp[Zx]) o i]
   refine⟨d,?_⟩;split at d
   ·obtain⟨_,j⟩:=Z3 d;cases j;intro u b;simp only[List.mem_singleton]at b;subst b;exact .inr (by simp[Zx])
   ·cases d
  | _=>cases a
 ·cases a
theorem Z1B:∀{xs:List Operand} {ds:List DV},(∀x∈xs,OkX ρ ρ' h h' x)->Z1s ρ xs=some ds->Z1s ρ' xs=some ds/\∀id,id∈ZG ds->(∀o,h id=some o->h' id=some o)/\∃x∈xs,∃d,ZX ρ x=some d/\id∈Zx d
 | [],ds,_,b=>by simp only[Z1s,jh]at b;subst b;exact⟨rfl,fun id a=>by simp[ZG]at a⟩
 | x::xs,ds,ho,b=>by
  simp only[Z1s]at b⊢;obtain⟨d,c,b⟩:=Z0 b;obtain⟨ds',e,b⟩:=Z0 b;cases b;obtain⟨k1,k2⟩:=ho x (by simp) d c
  obtain⟨k3,k4⟩:=Z1B (fun y hy=>ho y (by simp[hy])) e
  refine⟨by rw[k1,k3];rfl,fun id a=>?_⟩
  simp only[ZG,List.mem_append]at a;rcases a with a|a
  ·exact⟨k2 id a,x,by simp,d,c,a⟩
  ·obtain⟨m1,y,m2,m3⟩:=k4 id a;exact⟨m1,y,by simp[m2],m3⟩
theorem Z6q:∀{ps:List (Nat×Operand)} {vs:List (Nat×DV)},(∀x∈ps.map (·.2),OkX ρ ρ' h h' x)->Z27 ρ ps=some vs->Z27 ρ' ps=some vs/\∀id,id∈ZG (vs.map (·.2))->(∀o,h id=some o->h' id=some o)/\∃x∈ps.map (·.2),∃d,ZX ρ x=some d/\id∈Zx d
 | [],vs,_,b=>by simp only[Z27,jh]at b;subst b;exact⟨rfl,fun id a=>by simp[ZG]at a⟩
 | (i,x)::ps,vs,ho,b=>by
  simp only[Z27]at b⊢;obtain⟨d,c,b⟩:=Z0 b;obtain⟨vs',e,b⟩:=Z0 b;cases b;obtain⟨k1,k2⟩:=ho x (by simp) d c
  obtain⟨k3,k4⟩:=Z6q (fun y hy=>ho y (by simp at hy⊢;exact .inr hy)) e
  refine⟨by rw[k1,k3];rfl,fun id a=>?_⟩
  simp only[jr,ZG,List.mem_append]at a;rcases a with a|a
  ·exact⟨k2 id a,x,by simp,d,c,a⟩
  ·obtain⟨m1,y,m2,m3⟩:=k4 id a;exact⟨m1,y,by simp at m2⊢;exact .inr m2,m3⟩
theorem Zgv (d:DV):ZG (cellsOf d)=Zx d:=by
 cases d<;>simp[cellsOf,ZG,Zx]
theorem Za3 {size:Nat}:∀{ps:List (Nat×DV)} {k:Nat} {es:List (List DV)},(∀id,id∈ZG (ps.map (·.2))->∀o,h id=some o->h' id=some o)->Z63 h size k ps=some es->Z63 h' size k ps=some es/\∀i∈Zl (ps.map (·.2)),∃o,h i=some o
 | [],k,es,_,a=>⟨a,fun i hi=>by simp[Zl]at hi⟩
 | (i,v)::ps,k,es,hl,a=>by
  simp only[Z63]at a⊢;obtain⟨l,a⟩:=Z3 a;obtain⟨c,f,a⟩:=Z0 a;obtain⟨e,a⟩:=Z3 a;obtain⟨r,g,a⟩:=Z0 a;obtain⟨k1,k2⟩:=Za3 (fun id b=>hl id (by simp[ZG,b])) g
  refine⟨?_,fun j d=>?_⟩
  ·rw[l];simp only[jB];rw[Z5A _ _ (fun id b=>hl id (by rw[Zgv]at b;simp[ZG,b])) f]
   simp only[jm,e,jB];rw[k1];exact a
  ·simp only[jr,Zl,List.mem_append]at d;rcases d with d|d
   ·exact Z4p _ _ f j (by rw[Z7j];exact d)
   ·exact k2 j d
end
end Go.Ab
namespace Go.Ab
section
variable {E:Env} {ρ ρ':Nat->Option DV} {h h':Nat->Option Ze} {nid:Nat}
theorem Yw {x:Option DV} {r:Out} (a:x.bind ret=some r):r.upd=[]:=by
 obtain⟨d,_,h⟩:=Z0 a;cases h;rfl
def Ups (ρ:Nat->Option DV) (nid:Nat) (xs:Array Operand) (r:Out):Prop:=∀u∈r.upd,u.1=nid\/∃x∈xs,∃d,ZX ρ x=some d/\u.1∈Zx d
theorem ZN {xs:Array Operand} {r:Out} (h:r.upd=[]):Ups ρ nid xs r:=fun u a=>by rw[h]at a;cases a
theorem ZgD {c:Call} {r:Out} (m:∀x∈c.operands,OkX ρ ρ' h h' x) (a:ZB E nid ρ h (.call c)=some r):ZB E nid ρ' h' (.call c)=some r/\Ups ρ nid c.operands r:=by
 have b:∀x∈c.args.toList,x∈c.operands:=fun x w=>by simp[Call.operands];exact .inr (by simpa using w)
 simp only[ZB]at a⊢;split at a
 ·split at a
  ·rename_i x t ts f _;obtain⟨ti,p,a⟩:=Z0 a;obtain⟨d,g,a⟩:=Z0 a;have w:=b x (by rw[f];simp)
   obtain⟨k1,k2⟩:=m x w d g;obtain⟨q,i,j⟩:=Z0 a;rw[p];simp only[jm];rw[k1];simp only[jm];rw[ZhC k2 i];exact⟨j,ZN (Yw a)⟩
  ·cases a
 ·split at a
  ·rename_i s x t t' f _;obtain⟨ds,g,a⟩:=Z0 a;obtain⟨dx,i,a⟩:=Z0 a;have y:=b s (by rw[f];simp)
   obtain⟨k1,k2⟩:=m s y ds g;obtain⟨k3,k4⟩:=m x (b x (by rw[f];simp)) dx i
   obtain⟨k5,k6⟩:=ZcI k2 k4 a;simp only[jB,k1,k3,jm];refine⟨k5,fun u hu=>?_⟩;rcases k6 u hu with e|e
   ·exact .inl e
   ·exact .inr ⟨s,y,ds,g,e⟩
  ·cases a
 ·split at a
  ·rename_i x f;obtain⟨d,g,a⟩:=Z0 a;obtain⟨k1,k2⟩:=m x (b x (by rw[f];simp)) d g
   rw[k1];simp only[jm];split at a
   ·exact⟨a,ZN (by obtain rfl:=Z1u a;rfl)⟩
   ·rename_i id v;obtain⟨o,ho,i⟩:=Z0 a;simp only[k2 id (by simp[Zx]) o ho,jm]
    refine⟨i,?_⟩;split at i
    ·obtain⟨_,j⟩:=Z3 i;obtain rfl:=Z1u j;exact ZN rfl
    ·cases i
   ·cases a
  ·cases a
 ·split at a
  ·rename_i x n t t' f _;obtain⟨dx,g,a⟩:=Z0 a;obtain⟨dn,i,a⟩:=Z0 a;obtain⟨ti,p,a⟩:=Z0 a;have z:=b x (by rw[f];simp)
   obtain⟨k1,k2⟩:=m x z dx g;obtain⟨k3,_⟩:=m n (b n (by rw[f];simp)) dn i
   simp only[k1,k3,p,jm];split at a
   ·exact⟨a,ZN (by obtain rfl:=Z1u a;rfl)⟩
   ·rename_i id v k e _ _ _ _;obtain⟨o,ho,j⟩:=Z0 a;simp only[k2 id (by simp[Zx]) o ho,jm]
    refine⟨j,?_⟩;split at j
    ·obtain⟨_,h4⟩:=Z3 j;obtain⟨l,_,h5⟩:=Z0 h4;cases h5;intro u hu;simp only[List.mem_singleton]at hu;subst hu;exact .inr ⟨x,z,_,g,by simp[Zx]⟩
    ·cases j
   ·cases a
  ·cases a
 ·obtain⟨vs,g,a⟩:=Z0 a;obtain⟨k1,_⟩:=Z1B (h:=h) (h':=h') (fun x w=>m x (b x w)) g;rw[k1];refine⟨a,?_⟩;split at a
  ·exact ZN (Yw a)
  ·cases a
 ·obtain⟨vs,g,a⟩:=Z0 a;obtain⟨k1,_⟩:=Z1B (h:=h) (h':=h') (fun x w=>m x (b x w)) g;rw[k1];refine⟨a,?_⟩;split at a
  ·exact ZN (Yw a)
  ·cases a
 ·cases a
theorem Zb3 {x:Option Operand} {d:Option DV} (e:∀y,x=some y->OkX ρ ρ' h h' y) (a:Z2i ρ x=some d):Z2i ρ' x=some d:=by
 cases x with
 | none=>exact a
 | some y =>
  simp only[Z2i]at a⊢;obtain⟨v,b,c⟩:=Z0 a;rw[(e y rfl v b).1];exact c
theorem ZiX {op:Op} {r:Out} (hx:∀x∈op.operands,OkX ρ ρ' h h' x) (p:ZB E nid ρ h op=some r):ZB E nid ρ' h' op=some r/\Ups ρ nid op.operands r:=by
 cases op with
 | call c=>exact ZgD hx p
 | move x =>
  simp only[ZB]at p⊢;obtain⟨d,h1,g⟩:=Z0 p;rw[(hx x (by simp[Op.operands]) d h1).1]
  exact⟨g,ZN (Yw p)⟩
 | assign x =>
  simp only[ZB]at p⊢;obtain⟨d,h1,g⟩:=Z0 p;rw[(hx x (by simp[Op.operands]) d h1).1]
  exact⟨g,ZN (Yw p)⟩
 | pick c x y =>
  simp only[ZB]at p⊢;obtain⟨d,h1,g⟩:=Z0 p;rw[(hx c (by simp[Op.operands]) d h1).1]
  simp only[jm];split at g
  ·rename_i b;cases b
   ·obtain⟨e,a,h4⟩:=Z0 g;simp only[jA];rw[show ZX ρ' y=some e from(hx y (by simp[Op.operands]) e a).1]
    exact⟨h4,ZN (Yw g)⟩
   ·obtain⟨e,a,h4⟩:=Z0 g;simp only[jB];rw[show ZX ρ' x=some e from(hx x (by simp[Op.operands]) e a).1]
    exact⟨h4,ZN (Yw g)⟩
  ·cases g
 | alloc t =>
  simp only[ZB]at p⊢;refine⟨p,?_⟩;obtain⟨ti,_,g⟩:=Z0 p;cases g;intro u hu;simp only[List.mem_singleton]at hu;subst hu;exact .inl rfl
 | box t x =>
  simp only[ZB]at p⊢;obtain⟨d,h1,g⟩:=Z0 p;rw[(hx x (by simp[Op.operands]) d h1).1]
  refine⟨g,?_⟩;obtain⟨_,a⟩:=Z3 g;cases a;intro u hu;simp only[List.mem_singleton]at hu;subst hu;exact .inl rfl
 | build t ps =>
  simp only[ZB]at p⊢;obtain⟨ti,w,h1⟩:=Z0 p;obtain⟨vs,g,a⟩:=Z0 h1;rw[w];simp only[jm];rw[(Z6q (h:=h) (h':=h') (fun x hm=>hx x (by simpa[Op.operands]using hm)) g).1]
  refine⟨a,?_⟩;split at a
  ·obtain⟨cs,_,h5⟩:=Z0 a;cases h5;exact ZN rfl
  ·obtain⟨ei,_,h4⟩:=Z0 a;obtain⟨cs,_,h5⟩:=Z0 h4;cases h5;exact ZN rfl
  ·cases a
 | buildSlice t n ps =>
  simp only[ZB]at p⊢;obtain⟨ti,w,h1⟩:=Z0 p;rw[w];simp only[jm];cases hk:ti.k with
  | slice e =>
   rw[hk]at h1;simp only at h1⊢;obtain⟨ei,hei,g⟩:=Z0 h1;obtain⟨vs,a,h4⟩:=Z0 g;obtain⟨es,h5,h6⟩:=Z0 h4;obtain⟨k1,k2⟩:=Z6q (h:=h) (h':=h') (fun x hm=>hx x (by simpa[Op.operands]using hm)) a
   obtain⟨k3,k4⟩:=Za3 (fun id hid=>(k2 id hid).1) h5;have k5:=Z8a (fun id hid=>(k2 id hid).1) k4;rw[hei];simp only[jm];rw[k1];simp only[jm];rw[k3];simp only[jm];rw[k5];refine⟨h6,?_⟩;obtain⟨_,h7⟩:=Z3 h6;cases h7;intro u hu;rcases jv.1 hu with rfl|hu
   ·exact .inl rfl
   ·obtain⟨_,x,m1,d,m2,m3⟩:=k2 u.1 (Z35 _ _ (Z2W _ u hu));exact .inr ⟨x,by simpa[Op.operands]using m1,d,m2,m3⟩
  | _=>rw[hk]at h1;cases h1
 | load t x =>
  simp only[ZB]at p⊢;obtain⟨ti,w,h1⟩:=Z0 p;obtain⟨d,g,a⟩:=Z0 h1;obtain⟨v,h4,h5⟩:=Z0 a;obtain⟨k1,k2⟩:=hx x (by simp[Op.operands]) d g
  rw[w];simp only[jm];rw[k1];simp only[jm];rw[ZgC k2 h4];exact⟨h5,ZN (Yw a)⟩
 | store t x y =>
  simp only[ZB]at p⊢;obtain⟨ti,w,h1⟩:=Z0 p;obtain⟨d,g,a⟩:=Z0 h1;obtain⟨v,h4,h5⟩:=Z0 a;obtain⟨us,h6,h7⟩:=Z0 h5;obtain⟨k1,k2⟩:=hx x (by simp[Op.operands]) d g
  obtain⟨k3,_⟩:=hx y (by simp[Op.operands]) v h4
  obtain⟨k5,k6⟩:=Zff k2 h6;rw[w];simp only[jm];rw[k1];simp only[jm];rw[k3];simp only[jm];rw[k5];refine⟨h7,?_⟩;cases h7;intro u hu;exact .inr ⟨x,by simp[Op.operands],d,g,k6 u hu⟩
 | nilCheck x =>
  simp only[ZB]at p⊢;obtain⟨d,h1,g⟩:=Z0 p;rw[(hx x (by simp[Op.operands]) d h1).1]
  refine⟨g,?_⟩;split at g<;>first|(cases g;exact ZN rfl)|cases g
 | binOp op t x y z =>
  simp only[ZB]at p⊢;obtain⟨d,h1,g⟩:=Z0 p;obtain⟨e,a,h4⟩:=Z0 g;rw[(hx x (by simp[Op.operands]) d h1).1];simp only[jm];rw[(hx y (by simp[Op.operands]) e a).1]
  exact⟨h4,ZN (Yw h4)⟩
 | unOp op t x =>
  simp only[ZB]at p⊢;obtain⟨d,h1,g⟩:=Z0 p;rw[(hx x (by simp[Op.operands]) d h1).1]
  exact⟨g,ZN (Yw g)⟩
 | convert s t x =>
  simp only[ZB]at p⊢;obtain⟨si,hsi,h0⟩:=Z0 p;obtain⟨ti,w,h1⟩:=Z0 h0;obtain⟨d,g,a⟩:=Z0 h1;rw[hsi];simp only[jm];rw[w];simp only[jm];rw[(hx x (by simp[Op.operands]) d g).1]
  refine⟨a,?_⟩;split at a<;>first|(cases a;exact ZN rfl)|cases a
 | makeInterface t x =>
  simp only[ZB]at p⊢;obtain⟨ti,w,h1⟩:=Z0 p;obtain⟨d,g,a⟩:=Z0 h1;rw[w];simp only[jm];rw[(hx x (by simp[Op.operands]) d g).1]
  refine⟨a,?_⟩;cases hk:ti.k<;>rw[hk]at a<;>first|(cases a;exact ZN rfl)|cases a
 | typeAssert x xt t ok =>
  simp only[ZB]at p⊢;obtain⟨ti,w,h1⟩:=Z0 p;obtain⟨d,g,a⟩:=Z0 h1;rw[w];simp only[jm];rw[(hx x (by simp[Op.operands]) d g).1]
  refine⟨a,?_⟩;have fin:∀{r:Out},(bif ok then(Z1g ti).bind fun z=>ret (.tup [z,.bool false])else none)=some r->r.upd=[]:=fun h=>by
   obtain⟨_,h⟩:=Z3 h;obtain⟨z,_,h⟩:=Z0 h;cases h;rfl
  have fin2:∀{v:DV} {q:Bool} {r:Out},(bif q then ret v else bif ok then(Z1g ti).bind fun z=>ret (.tup [z,.bool false])else none)=some r->r.upd=[]:=fun {v q r} h=>by
   cases q with
   | true=>cases h;rfl
   | false=>exact fin h
  cases d with
  | nilif=>cases hk:ti.k<;>rw[hk]at a<;>first|exact ZN (fin a)|cases a
  | iface t' v=>cases hk:ti.k<;>rw[hk]at a<;>first|exact ZN (fin2 a)|cases a
  | _=>cases hk:ti.k<;>rw[hk]at a<;>cases a
 | makeSlice t l c =>
  simp only[ZB]at p⊢;obtain⟨ti,w,h1⟩:=Z0 p;obtain⟨dl,g,a⟩:=Z0 h1;obtain⟨dc,h4,h5⟩:=Z0 a;rw[w];simp only[jm];rw[(hx l (by simp[Op.operands]) dl g).1];simp only[jm];rw[(hx c (by simp[Op.operands]) dc h4).1]
  refine⟨h5,?_⟩;split at h5
  ·obtain⟨ei,_,h6⟩:=Z0 h5;obtain⟨_,h7⟩:=Z3 h6;cases h7;intro u hu;simp only[List.mem_singleton]at hu;subst hu;exact .inl rfl
  ·cases h5
 | makeFunc f x y =>
  simp only[ZB]at p⊢;obtain⟨d,h1,g⟩:=Z0 p;obtain⟨e,a,h4⟩:=Z0 g;rw[(Z1B (h:=h) (h':=h') (fun z hm=>hx z (by simp[Op.operands];exact .inl (by simpa using hm))) h1).1];simp only[jm]
  rw[(Z1B (h:=h) (h':=h') (fun z hm=>hx z (by simp[Op.operands];exact .inr (by simpa using hm))) a).1]
  refine⟨h4,?_⟩;cases h4;exact ZN rfl
 | makeMap t x =>
  cases x with
  | some x=>simp[ZB]at p
  | none =>
   refine⟨by simpa only[ZB]using p,?_⟩
   simp only[ZB]at p;cases p;intro u hu;simp only[List.mem_singleton]at hu;subst hu;exact .inl rfl
 | slice t x lo hi mx =>
  cases mx with
  | some m=>simp[ZB]at p
  | none =>
   simp only[ZB]at p⊢;obtain⟨ti,w,h1⟩:=Z0 p;obtain⟨d,g,a⟩:=Z0 h1;obtain⟨dl,h4,h5⟩:=Z0 a;obtain⟨dh,h6,h7⟩:=Z0 h5;obtain⟨k1,k2⟩:=hx x (by simp[Op.operands]) d g
   rw[w];simp only[jm];rw[k1];simp only[jm];rw[Zb3 (h:=h) (h':=h') (fun y hy=>hx y (by subst hy;simp[Op.operands])) h4];simp only[jm]
   rw[Zb3 (h:=h) (h':=h') (fun y hy=>hx y (by subst hy;simp[Op.operands])) h6];simp only[jm]
   cases hk:ti.k with
   | string =>
    rw[hk]at h7;cases d with
    | str s=>exact⟨h7,ZN (Yw h7)⟩
    | _=>cases h7
   | array n e =>
    rw[hk]at h7;cases d with
    | ptr id off =>
     simp only at h7⊢;obtain⟨ei,hei,h8⟩:=Z0 h7;obtain⟨ob,h9,h10⟩:=Z0 h8;rw[hei];simp only[jm];rw[k2 id (by simp[Zx]) _ h9];simp only[jm]
     refine⟨h10,?_⟩;cases ob with
     | cells ct cs =>
      obtain⟨_,h11⟩:=Z3 h10;obtain⟨q,_,h12⟩:=Z0 h11;cases h12;intro u hu;simp only[List.mem_singleton]at hu;subst hu;exact .inr ⟨x,by simp[Op.operands],.ptr id off,g,by simp[Zx]⟩
     | _=>cases h10
    | pub cs =>
     simp only at h7⊢;refine⟨h7,?_⟩;obtain⟨ei,_,h8⟩:=Z0 h7;obtain⟨_,h9⟩:=Z3 h8;exact ZN (Yw h9)
    | _=>cases h7
   | slice e =>
    rw[hk]at h7;simp only at h7⊢;obtain⟨ei,hei,h8⟩:=Z0 h7;obtain⟨es,h9,h10⟩:=Z0 h8;have k5:=Z8a (h:=h) (h':=h') (ds:=[d]) (fun id hid=>k2 id (by simpa[ZG]using hid)) (ZcT h9)
    simp only[Zl,jo]at k5;have k6:Z3b h' d=Z3b h d:=Zdc k2 h9;rw[hei];simp only[jm];rw[Z6i k2 h9];simp only[jm];rw[k5,k6];refine⟨h10,?_⟩;obtain⟨_,h11⟩:=Z3 h10;cases hvw:ti.view&&Z3b h d with
    | true =>
     rw[hvw]at h11;simp only[jB]at h11;exact ZN (Yw h11)
    | false =>
    rw[hvw]at h11;simp only[jA]at h11;obtain⟨q,_,h12⟩:=Z0 h11;cases h12;intro u hu;exact .inr ⟨x,by simp[Op.operands],d,g,Za4 d _ (Z2W _ u hu)⟩
   | _=>rw[hk]at h7;cases h7
 | fieldAddr s x f =>
  simp only[ZB]at p⊢;obtain⟨ti,w,h1⟩:=Z0 p;obtain⟨d,g,a⟩:=Z0 h1;rw[w];simp only[jm];rw[(hx x (by simp[Op.operands]) d g).1]
  refine⟨a,?_⟩;split at a
  ·obtain⟨q,_,h4⟩:=Z0 a;obtain⟨fi,_,h5⟩:=Z0 h4;obtain⟨_,h6⟩:=Z3 h5;exact ZN (Yw h6)
  ·cases a
 | field s x f =>
  simp only[ZB]at p⊢;obtain⟨ti,w,h1⟩:=Z0 p;obtain⟨d,g,a⟩:=Z0 h1;rw[w];simp only[jm];rw[(hx x (by simp[Op.operands]) d g).1]
  refine⟨a,?_⟩;split at a
  ·obtain⟨q,_,h4⟩:=Z0 a;obtain⟨fi,_,h5⟩:=Z0 h4;exact ZN (Yw h5)
  ·cases a
 | indexAddr t x i =>
  simp only[ZB]at p⊢;obtain⟨ti,w,h1⟩:=Z0 p;obtain⟨d,g,a⟩:=Z0 h1;obtain⟨di,h4,h5⟩:=Z0 a;obtain⟨k1,k2⟩:=hx x (by simp[Op.operands]) d g
  rw[w];simp only[jm];rw[k1];simp only[jm];rw[(hx i (by simp[Op.operands]) di h4).1];simp only[jm]
  cases hk:ti.k with
  | array len e =>
   rw[hk]at h5;refine⟨h5,?_⟩;obtain⟨ei,_,h6⟩:=Z0 h5;obtain⟨j,_,h7⟩:=Z0 h6;exact ZN (Yw h7)
  | slice e =>
   rw[hk]at h5;simp only at h5⊢;obtain⟨ei,hei,h6⟩:=Z0 h5;rw[hei];simp only[jm];cases d with
   | sl es =>
    refine⟨h6,?_⟩;obtain⟨j,_,h7⟩:=Z0 h6;obtain⟨c,_,h8⟩:=Z0 h7;obtain⟨_,h9⟩:=Z3 h8;cases h9;exact ZN rfl
   | rs id v =>
    simp only at h6⊢;obtain⟨o,ho,h7⟩:=Z0 h6;rw[k2 id (by simp[Zx]) o ho]
    refine⟨h7,?_⟩;split at h7
    ·obtain⟨j,_,h8⟩:=Z0 h7;obtain⟨_,h9⟩:=Z3 h8;cases h9;exact ZN rfl
    ·cases h7
   | _=>cases h6
  | _=>rw[hk]at h5;cases h5
 | index t x i =>
  simp only[ZB]at p⊢;obtain⟨ti,w,h1⟩:=Z0 p;obtain⟨d,g,a⟩:=Z0 h1;obtain⟨di,h4,h5⟩:=Z0 a;rw[w];simp only[jm];rw[(hx x (by simp[Op.operands]) d g).1];simp only[jm];rw[(hx i (by simp[Op.operands]) di h4).1]
  refine⟨h5,?_⟩;split at h5
  ·obtain⟨ei,_,h6⟩:=Z0 h5;obtain⟨j,_,h7⟩:=Z0 h6;exact ZN (Yw h7)
  ·obtain⟨j,_,h7⟩:=Z0 h5;obtain⟨c,_,h8⟩:=Z0 h7;cases h8;exact ZN rfl
  ·cases h5
 | lookup t m k ok =>
  simp only[ZB]at p⊢;obtain⟨ti,w,h1⟩:=Z0 p;obtain⟨dm,g,a⟩:=Z0 h1;obtain⟨dk,h4,h5⟩:=Z0 a;obtain⟨k1,k2⟩:=hx m (by simp[Op.operands]) dm g
  rw[w];simp only[jm];rw[k1];simp only[jm];rw[(hx k (by simp[Op.operands]) dk h4).1];simp only[jm]
  cases hk:ti.k with
  | map kt e =>
   rw[hk]at h5;simp only at h5⊢;obtain⟨ei,hei,h6⟩:=Z0 h5;obtain⟨ki,hki,h7⟩:=Z0 h6;obtain⟨hq,h8⟩:=Z3 h7;obtain⟨es,h9,h10⟩:=Z0 h8;rw[hei];simp only[jm];rw[hki];simp only[jm];rw[hq];simp only[jB];have k3:∀(z:Option (List (DV×DV))),z=some es->(z.bind fun es=>(Z2U dk es).bind fun r=>match r,ei.zero with
     | some v,_=>ret (bif ok then .tup [v,.bool true]else v)
     | none,z::_=>ret (bif ok then .tup [z,.bool false]else z)
     | _,_=>none)=some r:=fun z hz=>by rw[hz];exact h10
   refine⟨k3 _ ?_,?_⟩
   ·cases dm with
    | nilmap=>exact h9
    | map id =>
     simp only at h9⊢;obtain⟨o,ho,h11⟩:=Z0 h9;rw[k2 id (by simp[Zx]) o ho];exact h11
    | _=>cases h9
   ·obtain⟨q,_,h12⟩:=Z0 h10;split at h12<;>first|(cases h12;exact ZN rfl)|cases h12
  | _=>rw[hk]at h5;cases h5
 | mapUpdate t m k x =>
  simp only[ZB]at p⊢;obtain⟨ti,w,h1⟩:=Z0 p;obtain⟨dm,g,a⟩:=Z0 h1;obtain⟨dk,h4,h5⟩:=Z0 a;obtain⟨dx,h6,h7⟩:=Z0 h5;obtain⟨k1,k2⟩:=hx m (by simp[Op.operands]) dm g
  rw[w];simp only[jm];rw[k1];simp only[jm];rw[(hx k (by simp[Op.operands]) dk h4).1];simp only[jm];rw[(hx x (by simp[Op.operands]) dx h6).1];simp only[jm]
  cases hk:ti.k with
  | map kt e =>
   rw[hk]at h7;cases dm with
   | map id =>
    simp only at h7⊢;obtain⟨ki,hki,h8⟩:=Z0 h7;obtain⟨o,ho,h9⟩:=Z0 h8;rw[hki];simp only[jm];rw[k2 id (by simp[Zx]) o ho]
    refine⟨h9,?_⟩;split at h9
    ·obtain⟨_,h10⟩:=Z3 h9;obtain⟨es,_,h11⟩:=Z0 h10;cases h11;intro u hu;simp only[List.mem_singleton]at hu;subst hu;exact .inr ⟨m,by simp[Op.operands],.map id,g,by simp[Zx]⟩
    ·cases h9
   | _=>cases h7
  | _=>rw[hk]at h7;cases h7
 | range t x =>
  simp only[ZB]at p⊢;obtain⟨ti,w,h1⟩:=Z0 p;obtain⟨d,g,a⟩:=Z0 h1;obtain⟨k1,k2⟩:=hx x (by simp[Op.operands]) d g
  rw[w];simp only[jm];rw[k1];simp only[jm];cases hk:ti.k with
  | string =>
   rw[hk]at a;cases d with
   | str s =>
    refine⟨a,?_⟩;cases a;intro u hu;simp only[List.mem_singleton]at hu;subst hu;exact .inl rfl
   | _=>cases a
  | map kt e =>
   rw[hk]at a;cases d with
   | map id =>
    simp only at a⊢;obtain⟨ob,ho,h4⟩:=Z0 a;rw[k2 id (by simp[Zx]) _ ho];simp only[jm]
    refine⟨h4,?_⟩;cases ob with
    | map es =>
     cases h4;intro u hu;simp only[List.mem_singleton]at hu;subst hu;exact .inl rfl
    | _=>cases h4
   | _=>cases a
  | _=>rw[hk]at a;cases a
 | next it s =>
  cases s with
  | false=>simp[ZB]at p
  | true =>
   simp only[ZB]at p⊢;obtain⟨d,h1,g⟩:=Z0 p;obtain⟨k1,k2⟩:=hx it (by simp[Op.operands]) d h1
   rw[k1];simp only[jm];cases d with
   | iter id =>
    simp only at g⊢;obtain⟨o,ho,a⟩:=Z0 g;rw[k2 id (by simp[Zx]) o ho]
    refine⟨a,?_⟩;split at a
    ·rename_i s pos
     by_cases hp:pos<s.size
     ·simp only[hp,decide_true,jB]at a;cases a;intro u hu;simp only[List.mem_singleton]at hu;subst hu;exact .inr ⟨it,by simp[Op.operands],.iter id,h1,by simp[Zx]⟩
     ·simp only[hp,decide_false,jA]at a;cases a;exact ZN rfl
    ·cases a
   | _=>cases g
 | extract t i =>
  simp only[ZB]at p⊢;obtain⟨d,h1,g⟩:=Z0 p;rw[(hx t (by simp[Op.operands]) d h1).1]
  refine⟨g,?_⟩;split at g
  ·exact ZN (Yw g)
  ·cases g
 | _=>simp[ZB]at p
theorem ZbP:∀(xs ys:List DV) (i:Nat),i∈ZG (xs++ys)↔i∈ZG xs\/i∈ZG ys
 | [],ys,i=>by simp[ZG]
 | x::xs,ys,i=>by simp[ZG,ZbP xs ys i,or_assoc]
theorem Ze7 {c:Call} {g:FuncId} {x y as:List DV} (q:∀z∈c.operands,OkX ρ ρ' h h' z) (l:target E ρ c=some (.fn (.func g) x y,as)) :
  target E ρ' c=some (.fn (.func g) x y,as)/\∀id,id∈ZG as->(∀o,h id=some o->h' id=some o)/\∃z∈c.operands,∃d,ZX ρ z=some d/\id∈Zx d:=by
 unfold target at l⊢;split at l
 ·rename_i f hc;have k:f∈c.operands:=by simp[Call.operands,hc]
  have b:∀z∈c.args.toList,z∈c.operands:=fun z i=>by simp[Call.operands];exact .inr (by simpa using i)
  obtain⟨d,j,e⟩:=Z0 l;obtain⟨k1,k2⟩:=q f k d j;rw[k1];simp only[jm];split at e
  ·rename_i g' first caps
   obtain⟨as',p,n⟩:=Z0 e;obtain⟨k3,k4⟩:=Z1B (h:=h) (h':=h') (fun z i=>q z (b z i)) p;rw[k3];cases n;refine⟨rfl,fun id a=>?_⟩;rw[ZbP,ZbP]at a;rcases a with(a|a)|a
   ·have:id∈Zx (.fn (.func g) first caps):=by simp only[Zx,List.mem_append];exact .inl a
    exact⟨k2 id this,f,k,_,j,this⟩
   ·obtain⟨m1,z,m2,m3⟩:=k4 id a;exact⟨m1,z,b z m2,m3⟩
   ·have:id∈Zx (.fn (.func g) first caps):=by simp only[Zx,List.mem_append];exact .inr a
    exact⟨k2 id this,f,k,_,j,this⟩
  ·obtain⟨as',p,n⟩:=Z0 e;cases n
  ·cases e
 ·rename_i f m hc;have k:f∈c.operands:=by simp[Call.operands,hc]
  have b:∀z∈c.args.toList,z∈c.operands:=fun z i=>by simp[Call.operands];exact .inr (by simpa using i)
  obtain⟨d,j,e⟩:=Z0 l;obtain⟨k1,k2⟩:=q f k d j;rw[k1];simp only[jm];split at e
  ·rename_i t v;obtain⟨ti,r,e⟩:=Z0 e;obtain⟨g',s,e⟩:=Z0 e;obtain⟨as',p,n⟩:=Z0 e;obtain⟨k3,k4⟩:=Z1B (h:=h) (h':=h') (fun z i=>q z (b z i)) p;simp only[r,s,k3,jm];cases n;refine⟨rfl,fun id a=>?_⟩;simp only[ZG,List.mem_append]at a;rcases a with a|a
   ·have:id∈Zx (.iface t v):=by simpa only[Zx]using a
    exact⟨k2 id this,f,k,_,j,this⟩
   ·obtain⟨m1,z,m2,m3⟩:=k4 id a;exact⟨m1,z,b z m2,m3⟩
  ·cases e
 ·cases l
theorem ZhL {call:Nat->List DV->Option DV} {op:Op} {r:Out} (k:∀x∈op.operands,OkX ρ ρ' h h' x) (d:Z8p E call nid ρ h op=some r):Z8p E call nid ρ' h' op=some r/\Ups ρ nid op.operands r:=by
 unfold Z8p at d⊢;split at d
 ·rename_i c hc;have i:=Z3B hc;subst i;unfold Z53 at d⊢;obtain⟨tg,n,f⟩:=Z0 d;split at f
  ·rename_i g x y as;obtain⟨fs,j,m⟩:=Z0 f;obtain⟨q,o,a⟩:=Z0 m;have e:∀z∈c.operands,OkX ρ ρ' h h' z:=k;obtain⟨k1,k2⟩:=Ze7 e n;rw[k1];simp only[jm];rw[Z9y as fs (fun id b=>(k2 id b).1) j];simp only[jm];rw[o];simp only[jm];cases hrv:as.any Zhy with
   | true =>
    rw[hrv]at a;simp only[jB]at a⊢;exact⟨a,ZN (Yw a)⟩
   | false =>
   rw[hrv]at a;simp only[jA]at a⊢;cases a;rw[Z8a (fun id b=>(k2 id b).1) (Z8u as fs j)];refine⟨rfl,fun u l=>?_⟩;obtain⟨_,z,m1,m2⟩:=k2 u.1 (Z35 as _ (Z2W _ u l));exact .inr ⟨z,m1,m2⟩
  ·cases f
 ·exact ZiX k d
end
end Go.Ab
namespace Go.Ab
open Go.RowKit
section
variable {E:Env} {call:Nat->List DV->Option DV} {callH callY:Ye} {V nt:Nat} {ops:Array Oper} {b:Nat}
structure Z4e (E:Env) (call:Nat->List DV->Option DV) (callH callY:Ye) (V nt:Nat) (ops:Array Oper) (b:Nat) (m:Mid) (k nx nx2:Nat) (o:Oper) (d:YK) (ds:List (Nat×YK)):Prop where
 op:ops[k]? = some o
 dst:d.dst=o.dst
 anc:d.anc=Z1R ops ds o k
 edges:∀e∈o.after,Region.binds .any e=true->e.on<k
 fits:∀t,o.dst=some t->t<nt
 apart:∀e∈ds,Nat.testBit d.anc e.1=true\/∀t,o.dst=some t->t∉(ops.getD e.1 o).looksAt ops/\e.2.dst≠some t
 ups:∀e∈ds,Nat.testBit d.anc e.1=true\/((d.new≠none->e.2.new=none)/\∀u∈d.out.upd,u.1∉e.2.touch/\Zu u.1 e.2.out.upd=none)
 run:(Z1z ops (seen d.anc (ZV V m.base m.loc) ds) o=some true/\Z8p E call (b+k) (seen d.anc (ZV V m.base m.loc) ds) (Z65 d.anc m.objs.get ds) o.op=some d.out/\d.touch=touch (seen d.anc (ZV V m.base m.loc) ds) o.op/\d.new=none/\nx2=nx) ∨
  (Z1z ops (seen d.anc (ZV V m.base m.loc) ds) o=some false/\d.touch=[]/\d.out=⟨some (.tup []),[]⟩/\d.new=none/\nx2=nx) ∨
  (Z1z ops (seen d.anc (ZV V m.base m.loc) ds) o=some true/\d.new=some (nx,nx2)/\∃cl tgt,Z3d o.op=some cl/\target E (seen d.anc (ZV V m.base m.loc) ds) cl=some tgt/\YX callH callY (Z65 d.anc m.objs.get ds) nx tgt=some (d.out,d.touch,nx2))
def Z38 (E:Env) (call:Nat->List DV->Option DV) (callH callY:Ye) (V nt:Nat) (ops:Array Oper) (b:Nat) (m:Mid):Nat->Nat->List (Nat×YK)->Prop
 | k,nx,[]=>k=0/\nx=m.next
 | k,nx,(j,d)::ds=>k=j+1/\∃nx0,(∃o,Z4e E call callH callY V nt ops b m j nx0 nx o d ds)/\Z38 E call callH callY V nt ops b m j nx0 ds
theorem Zgn {k:Nat} {o:Oper} {os:List Oper} (h:o::os=ops.toList.drop k):ops[k]? = some o/\os=ops.toList.drop (k+1):=by
 have a:k<ops.toList.length:=by
  rcases Nat.lt_or_ge k ops.toList.length with b|b
  ·exact b
  ·rw[jd b]at h;cases h
 rw[jb a]at h;simp only[List.cons.injEq]at h;refine⟨?_,h.2⟩;rw[h.1,<-Array.getElem?_toList];exact List.getElem?_eq_getElem a
theorem Z4l {m:Mid}:∀(os:List Oper) (k:Nat) (mf:Mid) (nx:Nat) (ds:List (Nat×YK)),Z19 E call callH callY V nt ops b k os { m with next:=nx } ds=some mf->os=ops.toList.drop k->Z38 E call callH callY V nt ops b m k nx ds->k<=ops.size →
  ∃nx2 ds2,Z38 E call callH callY V nt ops b m ops.size nx2 ds2/\mf=YU V nt ds2 { m with next:=nx2 }
 | [],k,mf,nx,ds,a,ho,hs,hk=>by
  simp only[Z19,jh]at a;have:=List.drop_eq_nil_iff.1 ho.symm;simp at this;have:k=ops.size:=by omega
  subst this;exact⟨nx,ds,hs,a.symm⟩
 | o::os,k,mf,nx,ds,a,ho,hs,hk=>by
  obtain⟨g,n⟩:=Zgn ho;have j:k<ops.size:=(ja.1 g).1;simp only[Z19]at a;obtain⟨v,a⟩:=Z3 a;simp only[jn,List.all_eq_true,Bool.or_eq_true]at v;obtain⟨⟨q1,q2⟩,q4⟩:=v;have c:∀e∈o.after,Region.binds .any e=true->e.on<k:=fun e p hb=>by
   have:=(Array.all_eq_true_iff_forall_mem.1 q1) e p;simp only[hb,Bool.not_true,Bool.false_or,Tr.blt_dec,jk]at this;exact this
  have d:∀t,o.dst=some t->t<nt:=fun t ht=>by
   rw[ht]at q2;simpa[Tr.blt_dec]using q2
  have l:∀e∈ds,Nat.testBit (Z1R ops ds o k) e.1=true\/∀t,o.dst=some t->t∉(ops.getD e.1 o).looksAt ops/\e.2.dst≠some t:=fun e p=>by
   rcases q4 e p with h|h
   ·exact .inl h
   ·refine .inr fun t ht=>?_;rw[ht]at h;simp only[jn,Bool.not_eq_true']at h;refine⟨by simpa using h.1,fun w=>?_⟩
    have x:=h.2;rw[w]at x;simp at x
  obtain⟨want,y,a⟩:=Z0 a;cases want with
  | false =>
   simp only[jA]at a;exact Z4l os (k+1) mf nx _ a n ⟨rfl,nx,⟨o,g,rfl,rfl,c,d,l,fun e _=>.inr ⟨fun h=>absurd rfl h,fun u q=>by cases q⟩,.inr (.inl ⟨y,rfl,rfl,rfl,rfl⟩)⟩,hs⟩ j
  | true =>
   simp only[jB]at a;obtain⟨so,z,a⟩:=Z0 a;cases so with
   | some r =>
    have hr:=Zbl z;obtain⟨s,a⟩:=Z3 a;have f:∀e∈ds,Nat.testBit (Z1R ops ds o k) e.1=true\/(((none:Option (Nat×Nat))≠none->e.2.new=none)/\∀u∈r.upd,u.1∉e.2.touch/\Zu u.1 e.2.out.upd=none):=fun e p=>by
     simp only[List.all_eq_true,Bool.or_eq_true,jn,Bool.not_eq_true',Option.isNone_iff_eq_none]at s
     by_cases v:Nat.testBit (Z1R ops ds o k) e.1=true
     ·exact .inl v
     ·refine .inr ⟨fun h=>absurd rfl h,fun u q=>?_⟩;rcases s u q e p with h|h
      ·exact absurd h v
      ·exact⟨by simpa using h.1,h.2⟩
    exact Z4l os (k+1) mf nx _ a n ⟨rfl,nx,⟨o,g,rfl,rfl,c,d,l,f,.inl ⟨y,hr,rfl,rfl,rfl⟩⟩,hs⟩ j
   | none =>
    obtain⟨cl,h1,a⟩:=Z0 a;obtain⟨tgt,x,a⟩:=Z0 a;obtain⟨⟨out,T,nx2⟩,h3,a⟩:=Z0 a;obtain⟨i,a⟩:=Z3 a;simp only[List.all_eq_true,Bool.or_eq_true,jn,Bool.not_eq_true',Option.isNone_iff_eq_none]at i;have f:∀e∈ds,Nat.testBit (Z1R ops ds o k) e.1=true\/((some (nx,nx2)≠none->e.2.new=none)/\∀u∈out.upd,u.1∉e.2.touch/\Zu u.1 e.2.out.upd=none):=fun e p=>by
     rcases i e p with h|⟨h,h'⟩
     ·exact .inl h
     ·exact .inr ⟨fun _=>h,fun u q=>⟨by simpa using (h' u q).1,(h' u q).2⟩⟩
    exact Z4l os (k+1) mf nx2 _ a n ⟨rfl,nx,⟨o,g,rfl,rfl,c,d,l,f,.inr (.inr ⟨y,rfl,cl,tgt,h1,x,h3⟩)⟩,hs⟩ j
theorem Zha {ds:List (Nat×YK)} {o:Oper} {k i:Nat} (h:Nat.testBit (Z1R ops ds o k) i=true):∃e∈o.after,Region.binds .any e=true/\e.on<k/\(i=e.on\/∃d,(e.on,d)∈ds/\Nat.testBit d.anc i=true):=by
 unfold Z1R at h;have key:∀(es:List Edge) (x:Nat),Nat.testBit (es.foldl (fun m e=>bif Region.binds .any e&&Nat.blt e.on k then m ||| (1 <<< e.on) ||| ((ds.find? (fun d=>Nat.beq d.1 e.on)).map (·.2.anc)).getD 0 else m) x) i=true →
   Nat.testBit x i=true\/∃e∈es,Region.binds .any e=true/\e.on<k/\(i=e.on\/∃d,(e.on,d)∈ds/\Nat.testBit d.anc i=true):=by
  intro es
  induction es with
  | nil=>intro x b;exact .inl b
  | cons e es ih =>
   intro x b;rw[List.foldl_cons]at b;rcases ih _ b with a|⟨e',a,c⟩
   ·cases hq:(Region.binds .any e&&Nat.blt e.on k)with
    | false=>rw[hq]at a;exact .inl a
    | true =>
     rw[hq]at a;simp only[jn,Tr.blt_dec,jk]at hq;simp only[jB,Nat.testBit_or,Bool.or_eq_true]at a;rcases a with(a|a)|a
     ·exact .inl a
     ·refine .inr ⟨e,by simp,hq.1,hq.2,.inl ?_⟩
      rw[Nat.one_shiftLeft,Nat.testBit_two_pow]at a;simpa using (of_decide_eq_true a).symm
     ·refine .inr ⟨e,by simp,hq.1,hq.2,.inr ?_⟩
      cases hf:ds.find? (fun d=>Nat.beq d.1 e.on)with
      | none=>rw[hf]at a;simp at a
      | some p =>
       rw[hf]at a;obtain⟨j,d⟩:=p;have f:=List.find?_some hf;have f:j=e.on:=je f;subst f;exact⟨d,List.mem_of_find?_eq_some hf,a⟩
   ·exact .inr ⟨e',by simp[a],c⟩
 rcases key _ _ h with a|⟨e,a,c⟩
 ·simp at a
 ·exact⟨e,by simpa using a,c⟩
def Z1M (L:Nat->Bool) (ρ:Nat->Option DV):List (Nat×YK)->Nat->Option DV
 | [],t=>ρ t
 | (j,d)::ds,t=>if L j=true/\d.dst=some t then d.out.val else Z1M L ρ ds t
def hL (L:Nat->Bool) (h:Nat->Option Ze):List (Nat×YK)->Nat->Option Ze
 | [],id=>h id
 | (j,d)::ds,id=>if L j=true then(match Zu id d.out.upd with|some x=>x|none=>hL L h ds id)else hL L h ds id
theorem Z8K {id:Nat}:∀{us:List (Nat×Option Ze)} {x:Option Ze},Zu id us=some x->∃u∈us,u.1=id
 | [],_,h=>by cases h
 | (i,y)::us,x,h=>by
  simp only[Zu]at h;cases hq:Zu id us with
  | some z =>
   obtain⟨u,a,b⟩:=Z8K hq;exact⟨u,by simp[a],b⟩
  | none =>
   rw[hq]at h;simp only[Tr.beq_dec]at h
   by_cases e:i=id
   ·exact⟨(i,y),by simp,e⟩
   ·simp[e]at h
variable {m:Mid}
theorem Zct:∀{ds:List (Nat×YK)} {k nx:Nat},Z38 E call callH callY V nt ops b m k nx ds->∀j d,(j,d)∈ds->j<k
 | [],k,_,h=>fun _ _ h=>by cases h
 | (j,d)::ds,k,_,h=>by
  obtain⟨rfl,_,_,a⟩:=h;have k2:=Zct a;intro i e hi;rcases jv.1 hi with hi|hi
  ·cases hi;omega
  ·have:=k2 i e hi;omega
def Zh4 (L:Nat->Bool) (ds:List (Nat×YK)):Prop:=∀j d,(j,d)∈ds->L j=true->∀i,Nat.testBit d.anc i=true->L i=true
theorem Zi8:∀{ds:List (Nat×YK)} {k nx:Nat},Z38 E call callH callY V nt ops b m k nx ds->∀j,j<k->∃d tl o nx1 nx2,(j,d)∈ds/\Z4e E call callH callY V nt ops b m j nx1 nx2 o d tl/\(∀e∈tl,e∈ds)/\Z38 E call callH callY V nt ops b m j nx1 tl
 | [],k,_,h,j,h2=>by rw[h.1]at h2;omega
 | (i,d)::ds,k,nx,h,j,h2=>by
  obtain⟨rfl,nx0,⟨o,f⟩,c⟩:=h
  by_cases e:j=i
  ·subst e;exact⟨d,ds,o,nx0,nx,by simp,f,fun e a=>by simp[a],c⟩
  ·obtain⟨d',tl,o',n1,n2,k1,k2,k3,k4⟩:=Zi8 c j (by omega)
   exact⟨d',tl,o',n1,n2,by simp[k1],k2,fun e a=>by simp[k3 e a],k4⟩
theorem Zbi {L:Nat->Bool} {anc:Nat} (a:∀i,Nat.testBit anc i=true->L i=true) {ρ:Nat->Option DV} {t:Nat} {v:DV}:∀{ds:List (Nat×YK)},seen anc ρ ds t=some v->Z1M L ρ ds t=some v
 | [],h=>h
 | (j,d)::ds,h=>by
  simp only[seen]at h;simp only[Z1M]
  by_cases e:d.dst=some t
  ·rw[e]at h;simp only[Tr.beq_dec,decide_true,jB]at h;cases hq:Nat.testBit anc j with
   | false=>rw[hq]at h;cases h
   | true=>rw[hq]at h;rw[if_pos ⟨a j hq,e⟩];exact h
  ·rw[if_neg (fun q=>e q.2)];refine Zbi a ?_;cases hd:d.dst with
   | none=>rw[hd]at h;exact h
   | some s =>
    have b:s≠t:=fun q=>e (by rw[hd,q])
    rw[hd]at h;simpa[Tr.beq_dec,b]using h
theorem Zac {L:Nat->Bool} {anc:Nat} (a:∀i,Nat.testBit anc i=true->L i=true) {h:Nat->Option Ze} {id:Nat} {ob:Ze}:∀{ds:List (Nat×YK)},Z65 anc h ds id=some ob->hL L h ds id=some ob
 | [],h=>h
 | (j,d)::ds,h=>by
  simp only[Z65]at h;simp only[hL];cases hq:Zu id d.out.upd with
  | some x =>
   rw[hq]at h;simp only at h⊢;cases hb:Nat.testBit anc j with
   | false=>rw[hb]at h;cases h
   | true=>rw[hb]at h;rw[if_pos (a j hb)];exact h
  | none =>
   rw[hq]at h;simp only at h⊢;have:=Zac a h
   by_cases e:L j=true
   ·rw[if_pos e];exact this
   ·rw[if_neg e];exact this
theorem Z8H {L L':Nat->Bool} {ρ:Nat->Option DV} {t:Nat}:∀{ds:List (Nat×YK)},(∀i e,(i,e)∈ds->L' i=L i)->Z1M L' ρ ds t=Z1M L ρ ds t
 | [],_=>rfl
 | (j,d)::ds,h=>by
  simp only[Z1M];rw[h j d (by simp),Z8H fun i e hi=>h i e (by simp[hi])]
theorem Zdb {L L':Nat->Bool} {h:Nat->Option Ze} {id:Nat}:∀{ds:List (Nat×YK)},(∀i e,(i,e)∈ds->L' i=L i)->hL L' h ds id=hL L h ds id
 | [],_=>rfl
 | (j,d)::ds,h=>by
  simp only[hL];rw[h j d (by simp),Zdb fun i e hi=>h i e (by simp[hi])]
theorem ZdX {L:Nat->Bool} {k:Nat} (s:L k=false) {L':Nat->Bool} (g:∀j,L' j=if j=k then true else L j):∀{ds:List (Nat×YK)} {n nx:Nat},Z38 E call callH callY V nt ops b m n nx ds->Zh4 L ds->k<n->∃d tl o nx1 nx2,(k,d)∈ds/\Z4e E call callH callY V nt ops b m k nx1 nx2 o d tl ∧
  ((∀i,Nat.testBit d.anc i=true->L i=true) →
   (∀t v,t∈o.looksAt ops->seen d.anc (ZV V m.base m.loc) tl t=some v->Z1M L (ZV V m.base m.loc) ds t=some v) ∧
   (∀id ob,id∈d.touch->Z65 d.anc m.objs.get tl id=some ob->hL L m.objs.get ds id=some ob)) ∧
  (∀t,Z1M L' (ZV V m.base m.loc) ds t=if d.dst=some t then d.out.val else Z1M L (ZV V m.base m.loc) ds t) ∧
  (∀id,hL L' m.objs.get ds id=match Zu id d.out.upd with|some x=>x|none=>hL L m.objs.get ds id)
 | [],n,_,h,_,h2=>by rw[h.1]at h2;omega
 | (j,dj)::ds,n,nx,h,hd,h2=>by
  obtain⟨rfl,nx0,⟨o,w⟩,h4⟩:=h;have hd':Zh4 L ds:=fun i e hi=>hd i e (by simp[hi])
  by_cases e:k=j
  ·subst e;have a1:=Zct h4;have f:L' k=true:=by rw[g];simp
   have c:∀i e,(i,e)∈ds->L' i=L i:=fun i e hi=>by
    have:=a1 i e hi;rw[g,if_neg (by omega)]
   refine⟨dj,ds,o,nx0,nx,by simp,w,fun a=>⟨fun t v _ p=>?_,fun id ob _ p=>?_⟩,fun t=>?_,fun id=>?_⟩
   ·simp only[Z1M,s,jg,false_and,if_false];exact Zbi a p
   ·simp only[hL,s,jg,if_false];exact Zac a p
   ·simp only[Z1M,f,s,jg,false_and,if_false,true_and];rw[Z8H c]
   ·simp only[hL,f,s,jg,if_false,if_true];rw[Zdb c]
  ·obtain⟨d,tl,o',n1,n2,k1,k2,k3,k4,k5⟩:=ZdX s g h4 hd' (by omega)
   have y:L' j=L j:=by rw[g,if_neg (fun q=>e q.symm)]
   have r:L j=true->Nat.testBit dj.anc k=false:=fun hj=>by
    cases l:Nat.testBit dj.anc k with
    | false=>rfl
    | true=>have:=hd j dj (by simp) hj k l;rw[s]at this;cases this
   have a2:(ops.getD k o).looksAt ops=o'.looksAt ops:=by
    have:ops.getD k o=o':=by
     have:=k2.op;simp[this]
    rw[this]
   have z:L j=true->∀id x,Zu id dj.out.upd=some x->id∉d.touch/\Zu id d.out.upd=none:=fun hj id x l=>by
    obtain⟨u,hu,rfl⟩:=Z8K l;rcases w.ups (k,d) k1 with q|q
    ·rw[r hj]at q;cases q
    ·exact q.2 u hu
   refine⟨d,tl,o',n1,n2,by simp[k1],k2,fun a=>⟨fun t v ht p=>?_,fun id ob a0 p=>?_⟩,fun t=>?_,fun id=>?_⟩
   ·simp only[Z1M];rw[if_neg,(k3 a).1 t v ht p];rintro⟨e1,e2⟩;rcases w.apart (k,d) k1 with q|q
    ·rw[r e1]at q;cases q
    ·have:=(q t (by rw[<-w.dst];exact e2)).1
     rw[a2]at this;exact this ht
   ·simp only[hL];rw[(k3 a).2 id ob a0 p]
    by_cases e1:L j=true
    ·rw[if_pos e1];cases l:Zu id dj.out.upd with
     | none=>rfl
     | some x=>exact absurd a0 (z e1 id x l).1
    ·rw[if_neg e1]
   ·simp only[Z1M,y];rw[k4]
    by_cases e1:L j=true/\dj.dst=some t
    ·rw[if_pos e1,if_pos e1,if_neg];intro e2;rcases w.apart (k,d) k1 with q|q
     ·rw[r e1.1]at q;cases q
     ·exact(q t (by rw[<-w.dst];exact e1.2)).2 e2
    ·rw[if_neg e1,if_neg e1]
   ·simp only[hL,y];rw[k5]
    by_cases e1:L j=true
    ·rw[if_pos e1,if_pos e1];cases l:Zu id dj.out.upd with
     | none=>rfl
     | some x=>rw[(z e1 id x l).2]
    ·rw[if_neg e1,if_neg e1]
theorem Zhr {k nx nx2:Nat} {o:Oper} {d:YK} {ds:List (Nat×YK)} (a:Z4e E call callH callY V nt ops b m k nx nx2 o d ds):nx<=nx2:=by
 rcases a.run with⟨_,_,_,_,h⟩|⟨_,_,_,_,h⟩|⟨_,_,_,_,_,_,h⟩
 ·omega
 ·omega
 ·exact Zeq _ _ _ _ _ _ h
theorem Z5y {k nx nx2:Nat} {o:Oper} {d:YK} {ds:List (Nat×YK)} (c:Z4e E call callH callY V nt ops b m k nx nx2 o d ds) {lo hi:Nat} (a:d.new=some (lo,hi)):lo=nx/\hi=nx2:=by
 rcases c.run with⟨_,_,_,h,_⟩|⟨_,_,_,h,_⟩|⟨_,h,_⟩
 ·rw[a]at h;cases h
 ·rw[a]at h;cases h
 ·rw[a]at h;cases h;exact⟨rfl,rfl⟩
theorem Zex {k nx nx2:Nat} {o:Oper} {d:YK} {ds:List (Nat×YK)} (a:Z4e E call callH callY V nt ops b m k nx nx2 o d ds) (c:d.new=none):nx2=nx:=by
 rcases a.run with⟨_,_,_,_,h⟩|⟨_,_,_,_,h⟩|⟨_,h,_⟩
 ·exact h
 ·exact h
 ·rw[c]at h;cases h
theorem Zcs:∀{ds:List (Nat×YK)} {k nx:Nat},Z38 E call callH callY V nt ops b m k nx ds->m.next<=nx/\∀j d lo hi,(j,d)∈ds->d.new=some (lo,hi)->m.next<=lo/\lo<=hi/\hi<=nx
 | [],k,nx,h=>⟨by rw[h.2];exact Nat.le_refl _,fun _ _ _ _ h=>by cases h⟩
 | (i,d)::ds,k,nx,h=>by
  obtain⟨rfl,nx0,⟨o,f⟩,n⟩:=h;obtain⟨q,l⟩:=Zcs n;have p:=Zhr f;refine⟨by omega,fun j d' lo hi e g=>?_⟩
  rcases jv.1 e with e|e
  ·cases e;obtain⟨rfl,rfl⟩:=Z5y f g;exact⟨q,p,Nat.le_refl _⟩
  ·obtain⟨a,b,c⟩:=l j d' lo hi e g;exact⟨a,b,by omega⟩
theorem Zbj:∀{ds:List (Nat×YK)} {n nx:Nat},Z38 E call callH callY V nt ops b m n nx ds->∀k d lo hi,(k,d)∈ds->d.new=some (lo,hi)->∀id,lo<=id->id<nx →
  ∃j dj lo' f,(j,dj)∈ds/\dj.new=some (lo',f)/\lo'<=id/\id<f/\(j=k\/Nat.testBit dj.anc k=true)
 | [],_,_,_,_,_,_,_,h,_,_,_,_=>by cases h
 | (i,di)::ds,n,nx,h,k,d,lo,hi,g,hn,id,h1,h2=>by
  obtain⟨rfl,nx0,⟨o,l⟩,s⟩:=h;rcases jv.1 g with g|g
  ·cases g;obtain⟨rfl,rfl⟩:=Z5y l hn;exact⟨i,di,_,_,by simp,hn,h1,h2,.inl rfl⟩
  ·rcases Nat.lt_or_ge id nx0 with r|r
   ·obtain⟨j,dj,lo',f,a,b,c,d',e⟩:=Zbj s k d lo hi g hn id h1 r;exact⟨j,dj,lo',f,by simp[a],b,c,d',e⟩
   ·cases hq:di.new with
    | none=>have:=Zex l hq;omega
    | some p =>
     obtain⟨lo',f⟩:=p;obtain⟨rfl,rfl⟩:=Z5y l hq;refine⟨i,di,lo',f,by simp,hq,r,h2,.inr ?_⟩
     rcases l.ups (k,d) g with q|q
     ·exact q
     ·have:=q.1 (by rw[hq];simp)
      rw[hn]at this;cases this
theorem Zg8:∀{ds:List (Nat×YK)} {n nx:Nat},Z38 E call callH callY V nt ops b m n nx ds->∀k d lo hi j dj lo' hi',(k,d)∈ds->d.new=some (lo,hi)->(j,dj)∈ds->dj.new=some (lo',hi')->j≠k->Nat.testBit d.anc j=true\/hi<=lo'
 | [],_,_,_,_,_,_,_,_,_,_,_,h,_,_,_,_=>by cases h
 | (i,di)::ds,n,nx,h,k,d,lo,hi,j,dj,lo',hi',c,hn,a,hnj,hne=>by
  obtain⟨rfl,nx0,⟨o,e⟩,f⟩:=h;rcases jv.1 c with c|c
  ·cases c;rcases jv.1 a with a|a
   ·cases a;exact absurd rfl hne
   ·rcases e.ups (j,dj) a with q|q
    ·exact .inl q
    ·have:=q.1 (by rw[hn];simp)
     rw[hnj]at this;cases this
  ·rcases jv.1 a with a|a
   ·cases a;obtain⟨rfl,rfl⟩:=Z5y e hnj;exact .inr ((Zcs f).2 k d lo hi c hn).2.2
   ·exact Zg8 f k d lo hi j dj lo' hi' c hn a hnj hne
end
end Go.Ab
namespace Go.Ab
open Go.RowKit
section
variable {P:Program} {E:Env} {w0:World} {G0:Gh} {outer:DD} {own:List Nat} {V nt:Nat} {a:Act} {w:World} {β:Bi} {G:Gh} {ro:Option Nat} {n:Nat} {call:Nat->List DV->Option DV} {callH callY:Ye} {ops:Array Oper} {b:Nat} {m:Mid}
structure DS (E:Env) (w0:World) (G0:Gh) (outer:DD) (V nt:Nat) (own:List Nat) (ops:Array Oper) (b nx:Nat) (m:Mid) (ds:List (Nat×YK)) (L:Nat->Bool) (β0:Bi) (Gz:Gh) (hz:Nat->Option Ze) (a:Act) (w:World) (β:Bi) (G:Gh):Prop where
 fr:FrM β G (Z1M L (ZV V m.base m.loc) ds) a.tmps
 dom:∀t d,m.base.get t=some d->Nat.testBit V t=true
 sz:a.tmps.size=nt
 hr:HR E w0 G0 (Yx own outer) w β G (hL L m.objs.get ds)
 fresh:∀id,nx<=id->ZH β (hL L m.objs.get ds) id
 df:Z6C E own a.defers/\Z92 own outer
 un:∀j,j<ops.size->L j=false->ZH β (hL L m.objs.get ds) (b+j)
 unc:∀j d lo hi,(j,d)∈ds->d.new=some (lo,hi)->L j=false->∀id,lo<=id->id<hi->ZH β (hL L m.objs.get ds) id
 down:Zh4 L ds
 go:Go2 b β0 Gz β G hz (hL L m.objs.get ds)
theorem Zg7:∀{ds:List (Nat×YK)} {k nx:Nat},Z38 E call callH callY V nt ops b m k nx ds->∀j d,(j,d)∈ds->∃tl o nx1 nx2,Z4e E call callH callY V nt ops b m j nx1 nx2 o d tl/\∀e∈tl,e∈ds
 | [],_,_,_,_,_,h=>by cases h
 | (i,d)::ds,k,nx,h,j,d',a=>by
  obtain⟨_,nx0,⟨o,f⟩,g⟩:=h;rcases jv.1 a with a|a
  ·cases a;exact⟨ds,o,nx0,nx,f,fun e c=>by simp[c]⟩
  ·obtain⟨tl,o',n1,n2,k1,k2⟩:=Zg7 g j d' a;exact⟨tl,o',n1,n2,k1,fun e c=>by simp[k2 e c]⟩
theorem Zhb {ds:List (Nat×YK)} {L:Nat->Bool} {o:Oper} {k:Nat} (g:Zh4 L ds) {tl:List (Nat×YK)} (a:∀e∈tl,e∈ds) (c:∀e∈o.after,Region.binds .any e=true->L e.on=true) :
  ∀i,Nat.testBit (Z1R ops tl o k) i=true->L i=true:=fun i hi=>by
 obtain⟨e,f,b,_,j⟩:=Zha hi;rcases j with rfl|⟨d,l,h⟩
 ·exact c e f b
 ·exact g e.on d (a _ l) (c e f b) i h
theorem ZhG {o:Oper} {t:Nat} (h:Operand.tmp t∈o.op.operands):t∈o.looksAt ops :=
 List.mem_append_left _ (List.mem_filterMap.2 ⟨.tmp t,by simpa using h,rfl⟩)
theorem Zb2 {o:Oper} {ρ ρ':Nat->Option DV} (h:∀t v,t∈o.looksAt ops->ρ t=some v->ρ' t=some v) {x:Operand} (b:x∈o.op.operands) {d:DV} (a:ZX ρ x=some d):ZX ρ' x=some d:=by
 cases x with
 | tmp t=>exact h t d (ZhG b) a
 | _=>exact a
theorem Z5u {o:Oper} {ρ ρ':Nat->Option DV} (h:∀t v,t∈o.looksAt ops->ρ t=some v->ρ' t=some v) {want:Bool} (a:Z1z ops ρ o=some want):Z1z ops ρ' o=some want:=by
 unfold Z1z at a⊢;cases hg:o.guard with
 | none=>rw[hg]at a;exact a
 | some g =>
  obtain⟨j,wt⟩:=g;rw[hg]at a;simp only at a⊢;cases hd:(ops[j]?).bind (·.dst)with
  | none=>rw[hd]at a;cases a
  | some t =>
   rw[hd]at a;simp only at a⊢;cases hr:ρ t with
   | none=>rw[hr]at a;cases a
   | some d =>
    rw[hr]at a;rw[h t d (List.mem_append_right _ (by rw[hg];simp[hd])) hr]
    exact a
theorem Z4u {ρ ρ':Nat->Option DV}:∀{xs:List Operand} {ds:List DV},(∀x∈xs,∀dd,ZX ρ x=some dd->ZX ρ' x=some dd)->Z1s ρ xs=some ds->Z1s ρ' xs=some ds
 | [],_,_,h=>h
 | x::xs,ds,hv,h=>by
  simp only[Z1s]at h⊢;obtain⟨v,b,h⟩:=Z0 h;obtain⟨vs,a,h⟩:=Z0 h;rw[hv x (by simp) v b,jm,Z4u (fun y hy=>hv y (by simp[hy])) a]
  exact h
theorem Ze8 {ρ ρ':Nat->Option DV} {c:Call} {tgt:DV×List DV} (hv:∀x∈c.operands,∀dd,ZX ρ x=some dd->ZX ρ' x=some dd) (h:target E ρ c=some tgt):target E ρ' c=some tgt:=by
 have a:∀x∈c.args.toList,x∈c.operands:=fun x b=>by
  unfold Call.operands;split<;>simp_all
 unfold target at h⊢;split at h
 ·rename_i f hc;obtain⟨v,i,h⟩:=Z0 h;have e:f∈c.operands:=by unfold Call.operands;rw[hc];simp
  rw[hv f e v i];simp only[jm];split at h
  ·obtain⟨as,d,h⟩:=Z0 h;rw[Z4u (fun x b=>hv x (a x b)) d];exact h
  ·obtain⟨as,d,h⟩:=Z0 h;rw[Z4u (fun x b=>hv x (a x b)) d];exact h
  ·cases h
 ·rename_i rv mm hc;obtain⟨v,i,h⟩:=Z0 h;have e:rv∈c.operands:=by unfold Call.operands;rw[hc];simp
  rw[hv rv e v i];simp only[jm];split at h
  ·obtain⟨ti,d,h⟩:=Z0 h;obtain⟨g,j,h⟩:=Z0 h;obtain⟨as,k,h⟩:=Z0 h;rw[d,jm,j,jm,Z4u (fun x b=>hv x (a x b)) k];exact h
  ·cases h
 ·cases h
theorem ZgX {ρ:Nat->Option DV} {op:Op} {x:Operand} (c:x∈op.operands) {d:DV} (b:ZX ρ x=some d) {id:Nat} (a:id∈Zx d):id∈touch ρ op:=by
 unfold touch;rw[List.mem_flatMap];exact⟨x,by simpa using c,by rw[b];exact a⟩
theorem Zj0 (hE:∀t ti,E.ty t=some ti->ZO P t ti) (hp:Z37 P E call) (hH:YW P E callH) (hY:Z1h P E callY) {ds:List (Nat×YK)} {nx:Nat} (hs:Z38 E call callH callY V nt ops b m ops.size nx ds) {L L':Nat->Bool} {k:Nat} (hk2:k<ops.size) (hle:b+ops.size<=m.next)
  (hk:L k=false) (p:∀j,L' j=if j=k then true else L j) {o:Oper} (ho:ops[k]? = some o) (a0:∀e∈o.after,Region.binds .any e=true->L e.on=true) {β0:Bi} {Gz:Gh} {hz:Nat->Option Ze}
  (c:DS E w0 G0 outer V nt own ops b nx m ds L β0 Gz hz a w β G) {K:Act->World->Prop} {Q:Exit->Act->World->Prop} (hK:∀a' w' β' G',DS E w0 G0 outer V nt own ops b nx m ds L' β0 Gz hz a' w' β' G'->K a' w'):wpOpIn (fw ro) n P ops Q k K a w:=by
 obtain⟨d,tl,o',nx1,nx2,h1,h2,h3,h4,h5⟩:=ZdX hk p hs c.down hk2;have heo:o'=o:=by have:=h2.op;rw[ho]at this;cases this;rfl
 subst heo;obtain⟨hnx,u⟩:=Zcs hs;have l:∀d',(k,d')∈ds->∀i,Nat.testBit d'.anc i=true->L i=true:=fun d' hd' i hi=>by
  obtain⟨tl',o2,_,_,q1,q2⟩:=Zg7 hs k d' hd';have:o2=o':=by have:=q1.op;rw[ho]at this;cases this;rfl
  subst this;rw[q1.anc]at hi;exact Zhb c.down q2 a0 i hi
 obtain⟨v1,v2⟩:=h3 (l d h1);have hdown:Zh4 L' ds:=fun j dj hj f i hi=>by
  rw[p]
  by_cases e:i=k
  ·rw[if_pos e]
  ·rw[if_neg e]
   by_cases e2:j=k
   ·subst e2;exact l dj hj i hi
   ·rw[p,if_neg e2]at f;exact c.down j dj hj f i hi
 have z:∀id,hL L' m.objs.get ds id=ZC (hL L m.objs.get ds) d.out.upd id:=fun id=>h5 id
 have y:∀(v:Value) (w':World) (β':Bi) (G':Gh),(∀dd,d.out.val=some dd->Rep β' G' dd v)->Ext β G β' G'->HR E w0 G0 (Yx own outer) w' β' G' (ZC (hL L m.objs.get ds) d.out.upd) →
   (∀id,id<b->YQ β β' (hL L m.objs.get ds) (hL L' m.objs.get ds) id)->(∀id,nx<=id->ZH β' (hL L' m.objs.get ds) id)->(∀j,j<ops.size->j≠k->ZH β (hL L m.objs.get ds) (b+j)->ZH β' (hL L' m.objs.get ds) (b+j)) →
   (∀j dj lo hi,(j,dj)∈ds->dj.new=some (lo,hi)->L' j=false->∀id,lo<=id->id<hi->ZH β' (hL L' m.objs.get ds) id) →
   DS E w0 G0 outer V nt own ops b nx m ds L' β0 Gz hz (a.put o'.dst v) w' β' G':=fun v w' β' G' hv s hh hkp hf1 hf2 hf3=>by
  obtain⟨s1,s2⟩:=ZdC (a:=a) o'.dst v;refine⟨ZfE s c.sz c.fr hv fun t dd ht=>?_,c.dom,s1.trans c.sz,hh.eq z,hf1,⟨by rw[s2];exact c.df.1,c.df.2⟩,fun j a3 f=>?_,hf3,hdown,c.go.trans ⟨s,hkp⟩⟩
  ·rw[h4,h2.dst]at ht
   by_cases e:o'.dst=some t
   ·rw[if_pos e]at ht;exact .inl ⟨e,h2.fits t e,ht⟩
   ·rw[if_neg e]at ht;exact .inr ⟨fun q=>e q.1,ht⟩
  ·rw[p]at f
   by_cases e:j=k
   ·rw[if_pos e]at f;cases f
   ·rw[if_neg e]at f;exact hf2 j a3 e (c.un j a3 f)
 have r:d.new=none->∀(v:Value) (w':World) (β':Bi) (G':Gh),(∀dd,d.out.val=some dd->Rep β' G' dd v)->Ext β G β' G'->HR E w0 G0 (Yx own outer) w' β' G' (ZC (hL L m.objs.get ds) d.out.upd)->Z2p β β' (hL L m.objs.get ds) (ZC (hL L m.objs.get ds) d.out.upd) (b+k) →
   DS E w0 G0 outer V nt own ops b nx m ds L' β0 Gz hz (a.put o'.dst v) w' β' G':=fun hdn v w' β' G' hv s hh hkp=>by
  have a1:∀id,id≠b+k->YQ β β' (hL L m.objs.get ds) (hL L' m.objs.get ds) id:=fun id g hf=>by
   obtain⟨q1,q2,q3⟩:=hkp id g hf;exact⟨by rw[z];exact q1,q2,q3⟩
  refine y v w' β' G' hv s hh (fun id g=>a1 id (by omega)) (fun id g=>(a1 id (by omega)).fresh (c.fresh id g)) (fun j a3 hne hf=>(a1 _ (by omega)).fresh hf) fun j dj lo hi hj hn f id hl1 hl2=>?_
  have a2:j≠k:=fun e=>by subst e;rw[p,if_pos rfl]at f;cases f
  rw[p,if_neg a2]at f;have:=(u j dj lo hi hj hn).1;exact(a1 id (by omega)).fresh (c.unc j dj lo hi hj hn f id hl1 hl2)
 unfold wpOpIn;rw[ho];simp only;rcases h2.run with⟨r1,r2,r3,r4,_⟩|⟨r1,_,r3,r4,_⟩|⟨r1,r4,cl,tgt,r5,r6,r7⟩
 ·rw[Z2Z c.fr (Z5u v1 r1)];simp only[if_true];have hmono:=(ZhL (ρ':=Z1M L (ZV V m.base m.loc) ds) (h':=hL L m.objs.get ds) (fun x s dd hd=>⟨Zb2 v1 s hd,fun id g ob hob=>v2 id ob (by rw[r3];exact ZgX s hd g) hob⟩) r2).1
  exact Z8q hE hp c.fr c.hr (c.un k hk2 hk) hmono K Q fun v w' β' G' hv s hh hkp=>hK _ _ _ _ (r r4 v w' β' G' hv s hh hkp)
 ·rw[Z2Z c.fr (Z5u v1 r1)];simp only[jg,if_false];refine⟨fun _ _=>trivial,hK _ _ β G (r r4 undef w β G (fun dd hdd=>?_) (Ext.refl _ _) ?_ ?_)⟩
  ·rw[r3]at hdd;cases hdd;exact Z45
  ·rw[r3];exact c.hr
  ·rw[r3];exact Z2p.refl _ _ _
 ·rw[Z2Z c.fr (Z5u v1 r1)];simp only[if_true];obtain⟨c1,c2,c3⟩:=u k d nx1 nx2 h1 r4;have hop:=Z3B r5;have htgt:target E (Z1M L (ZV V m.base m.loc) ds) cl=some tgt:=Ze8 (fun x s dd hd=>Zb2 v1 (by rw[hop];exact s) hd) r6
  have hlow:∀id,nx1<=id->ZH β (hL L m.objs.get ds) id:=fun id g=>by
   rcases Nat.lt_or_ge id nx with q|q
   ·obtain⟨j,dj,lo',hi',g1,g2,g3,g4,g5⟩:=Zbj hs k d nx1 nx2 h1 r4 id g q;refine c.unc j dj lo' hi' g1 g2 ?_ id g3 g4;rcases g5 with rfl|g5
    ·exact hk
    ·cases hq:L j with
     | false=>rfl
     | true=>have:=c.down j dj g1 hq k g5;rw[hk]at this;cases this
   ·exact c.fresh id q
  refine Z5T hE hH hY c.fr r5 htgt c.hr r7 (fun i hi x s=>v2 i x hi s) hlow fun v w' β' G' hv hle2 s hkp hh hff=>hK _ _ β' G' ?_;have a5:∀id,id<nx1->YQ β β' (hL L m.objs.get ds) (hL L' m.objs.get ds) id:=fun id g hf=>by
   obtain⟨q1,q2,q3⟩:=hkp id g hf;exact⟨by rw[z];exact q1,q2,q3⟩
  have a4:∀id,nx2<=id->ZH β' (hL L' m.objs.get ds) id:=fun id g=>by
   have:=hff id g;exact⟨this.blk,this.hdr,by rw[z];exact this.h⟩
  refine y v w' β' G' hv s hh (fun id g=>a5 id (by omega)) (fun id g=>a4 id (by omega)) (fun j a3 hne hf=>(a5 _ (by omega)).fresh hf) fun j dj lo hi hj hn f id hl1 hl2=>?_
  have a2:j≠k:=fun e=>by subst e;rw[p,if_pos rfl]at f;cases f
  rw[p,if_neg a2]at f;rcases Zg8 hs k d nx1 nx2 j dj lo hi h1 r4 hj hn a2 with q|q
  ·rw[l d h1 j q]at f;cases f
  ·exact a4 id (by omega)
theorem Z5l {L:Nat->Bool} {nx0:Nat}:∀{ds:List (Nat×YK)} {k nx:Nat},Z38 E call callH callY V nt ops b m k nx ds->(∀j d,(j,d)∈ds->L j=true) →
  (∀t,Z1M L (ZV V m.base m.loc) ds t=ZV V (YU V nt ds { m with next:=nx0 }).base (YU V nt ds { m with next:=nx0 }).loc t)/\(∀id,hL L m.objs.get ds id=(YU V nt ds { m with next:=nx0 }).objs.get id)/\(YU V nt ds { m with next:=nx0 }).next=nx0 ∧
   ((∀t d,m.base.get t=some d->Nat.testBit V t=true)->∀t d,(YU V nt ds { m with next:=nx0 }).base.get t=some d->Nat.testBit V t=true)
 | [],k,_,_,_=>⟨fun _=>rfl,fun _=>rfl,rfl,fun h=>h⟩
 | (j,d)::ds,k,nx,hs,hl=>by
  obtain⟨_,_,⟨o,c⟩,g⟩:=hs;obtain⟨k1,k2,k3,k4⟩:=Z5l (nx0:=nx0) g (fun i e hi=>hl i e (by simp[hi]))
  have a:=hl j d (by simp)
  simp only[YU];obtain⟨p1,p2⟩:=Z40 V nt ({ YU V nt ds { m with next:=nx0 }with objs:=Y6 (YU V nt ds { m with next:=nx0 }).objs d.out.upd }:Mid) d.dst d.out.val
  refine⟨fun t=>?_,fun id=>?_,by rw[p2];exact k3,fun f=>ZfW V nt _ d.dst d.out.val (k4 f)⟩
  ·rw[ZdZ];simp only[Z1M,a,true_and]
   by_cases e:d.dst=some t
   ·rw[if_pos e,if_pos ⟨e,c.fits t (by rw[<-c.dst];exact e)⟩]
   ·rw[if_neg e,if_neg (fun q=>e q.1)];exact k1 t
  ·rw[p1,Z2C];simp only[hL,a,if_true];unfold ZC;cases Zu id d.out.upd with
   | some x=>rfl
   | none=>exact k2 id
theorem DS.full {ds:List (Nat×YK)} {k nx:Nat} (l:Z38 E call callH callY V nt ops b m k nx ds) {L:Nat->Bool} (g:∀j d,(j,d)∈ds->L j=true) {β0:Bi} {Gz:Gh} {hz:Nat->Option Ze} (c:DS E w0 G0 outer V nt own ops b nx m ds L β0 Gz hz a w β G) :
  MM E w0 G0 outer V nt own (YU V nt ds { m with next:=nx }) a w β G/\Go2 b β0 Gz β G hz (YU V nt ds { m with next:=nx }).objs.get/\(YU V nt ds { m with next:=nx }).next=nx:=by
 obtain⟨k1,k2,k3,k4⟩:=Z5l (nx0:=nx) l g;have f:∀id,ZH β (hL L m.objs.get ds) id->ZH β (YU V nt ds { m with next:=nx }).objs.get id:=fun id h=>⟨h.blk,h.hdr,by rw[<-k2];exact h.h⟩
 refine⟨⟨fun t d ht=>c.fr t d (by rw[k1];exact ht),k4 c.dom,c.sz,c.hr.eq fun i=>(k2 i).symm,fun id e=>f id (c.fresh id (by rw[<-k3];exact e)),c.df⟩,⟨c.go.ext,fun id e n=>?_⟩,k3⟩
 obtain⟨q1,q2,q3⟩:=c.go.keep id e n;exact⟨by rw[<-k2];exact q1,q2,q3⟩
end
end Go.Ab
namespace Go.Ab
open Go.RowKit
section
variable {P:Program} {E:Env} {w0:World} {G0:Gh} {outer:DD} {own:List Nat} {V nt:Nat} {a:Act} {w:World} {β:Bi} {G:Gh} {ro:Option Nat} {n:Nat} {call:Nat->List DV->Option DV} {callH callY:Ye} {ops:Array Oper} {b:Nat} {m:Mid} {c:Nat}
theorem ZaL {p p':Nat->Bool}:∀{l:List Nat} {x:Nat},x∈l->p x=true->p' x=false->(∀y,p' y=true->p y=true)->l.countP p'+1<=l.countP p
 | [],_,h,_,_,_=>by cases h
 | y::l,x,h,h1,h2,h3=>by
  have a:l.countP p'<=l.countP p:=List.countP_mono_left fun z _ hz=>h3 z hz;rw[List.countP_cons,List.countP_cons];rcases jv.1 h with rfl|h
  ·rw[if_pos h1,if_neg (by rw[h2];simp)];omega
  ·have:=ZaL h h1 h2 h3
   by_cases e:p' y=true
   ·rw[if_pos e,if_pos (h3 y e)];omega
   ·rw[if_neg e];split<;>omega
def lst (listed:Array Bool) (j:Nat):Bool:=listed.getD j false
def cnt (N:Nat) (listed:Array Bool):Nat:=(List.range N).countP fun j => !lst listed j
theorem ZbW {listed:Array Bool} {i:Nat} (hi:i<listed.size) (j:Nat):lst (listed.setIfInBounds i true) j=if j=i then true else lst listed j:=by
 unfold lst
 by_cases e:j=i
 ·subst e;simp[hi]
 ·have:i≠j:=fun h=>e h.symm;simp[e,Array.getElem?_setIfInBounds_ne this]
theorem Ziy {listed:Array Bool} {i:Nat} (hi:i<listed.size) (a:lst listed i=false):cnt listed.size (listed.setIfInBounds i true)+1<=cnt listed.size listed:=by
 unfold cnt;refine ZaL (x:=i) (List.mem_range.2 hi) (by simp[a]) (by simp[ZbW hi]) fun y hy=>?_
 rw[ZbW hi]at hy
 by_cases e:y=i
 ·rw[if_pos e]at hy;simp at hy
 ·rw[if_neg e]at hy;exact hy
theorem Zhh {N:Nat} {listed:Array Bool} (h:cnt N listed=0):∀j,j<N->lst listed j=true:=fun j a=>by
 have:=List.countP_eq_zero.1 h j (List.mem_range.2 a);simpa using this
theorem Z81 {listed:Array Bool} (d:listed.size=ops.size) {j:Nat}:j∈Region.ready .any ops listed↔lst listed j=false/\∃o,ops[j]? = some o/\∀e∈o.after,Region.binds .any e=true->lst listed e.on=true:=by
 rw[mem_ready];constructor
 ·rintro⟨b,o,c,f⟩;have a:j<listed.size:=by rw[d];exact(ja.1 c).1
  refine⟨?_,o,c,f⟩;unfold lst;simp[a]at b⊢;exact b
 ·rintro⟨b,o,c,f⟩;have a:j<listed.size:=by rw[d];exact(ja.1 c).1
  refine⟨?_,o,c,f⟩;unfold lst at b;simp[a]at b⊢;exact b
theorem Zgm (hE:∀t ti,E.ty t=some ti->ZO P t ti) (hp:Z37 P E call) (hH:YW P E callH) (hY:Z1h P E callY) {Q:Exit->Act->World->Prop} {β0:Bi} {Gz:Gh} {hz:Nat->Option Ze} {m:Mid} {ds:List (Nat×YK)} {nx:Nat} (g:Z38 E call callH callY V nt ops b m ops.size nx ds) (u:b+ops.size<=m.next)
  (y:∀a' w' β' G',MM E w0 G0 outer V nt own (YU V nt ds { m with next:=nx }) a' w' β' G'->Go2 b β0 Gz β' G' hz (YU V nt ds { m with next:=nx }).objs.get->Q .normal a' w') :
  ∀(fuel:Nat) (listed:Array Bool) (a:Act) (w:World) (β:Bi) (G:Gh),listed.size=ops.size->cnt ops.size listed<=fuel->DS E w0 G0 outer V nt own ops b nx m ds (lst listed) β0 Gz hz a w β G->wpAnyIn (fw ro) n P .any ops Q fuel listed a w:=by
 intro fuel
 induction fuel with
 | zero =>
  intro listed a w β G hsz hcnt hst;have c:=Zhh (Nat.le_zero.1 hcnt);have hr:Region.ready .any ops listed=[]:=by
   cases hrr:Region.ready .any ops listed with
   | nil=>rfl
   | cons j l =>
    obtain⟨z,o,h,_⟩:=(Z81 (j:=j) hsz).1 (by rw[hrr];simp)
    rw[c j (ja.1 h).1]at z;cases z
  obtain⟨f1,f2,_⟩:=hst.full g fun j d q=>c j (Zct g j d q);exact⟨hr,y a w β G f1 f2⟩
 | succ fuel ihf =>
  intro listed a w β G hsz hcnt hst;refine⟨fun hr=>?_,fun i hi=>?_⟩
  ·
   have c:∀j,j<ops.size->lst listed j=true:=fun j=>by
    induction j using Nat.strongRecOn with
    | _ j ihj =>
     intro q;obtain⟨d,tl,o,_,_,_,h,_⟩:=Zi8 g j q;cases hlj:lst listed j with
     | true=>rfl
     | false =>
      have:j∈Region.ready .any ops listed:=(Z81 hsz).2 ⟨hlj,o,h.op,fun e he x=>ihj e.on (h.edges e he x) (by have:=h.edges e he x;omega)⟩
      rw[hr]at this;cases this
   obtain⟨f1,f2,_⟩:=hst.full g fun j d q=>c j (Zct g j d q);exact y a w β G f1 f2
  ·obtain⟨r,o,s,v⟩:=(Z81 hsz).1 hi;have k:=(ja.1 s).1;have p:=ZbW (listed:=listed) (i:=i) (by omega)
   have f:cnt ops.size (listed.setIfInBounds i true)<=fuel:=by
    have:=Ziy (listed:=listed) (i:=i) (by omega) r
    rw[hsz]at this;omega
   exact Zj0 hE hp hH hY g k u r p s v hst fun a' w' β' G' hst'=>ihf _ a' w' β' G' (by simpa using hsz) f hst'
theorem Zev (hE:∀t ti,E.ty t=some ti->ZO P t ti) (hp:Z37 P E call) (hH:YW P E callH) (hY:Z1h P E callY) {Q:Exit->Act->World->Prop} {m mf:Mid}
  (hd:Z19 E call callH callY V nt ops b 0 ops.toList m []=some mf) (y:b+ops.size<=m.next) (r:∀j,j<ops.size->ZH β m.objs.get (b+j)) (k:MM E w0 G0 outer V nt own m a w β G)
  (hq:∀a' w' β' G',m.next<=mf.next->MM E w0 G0 outer V nt own mf a' w' β' G'->Go2 b β G β' G' m.objs.get mf.objs.get->Q .normal a' w') :
  wpAnyIn (fw ro) n P .any ops Q ops.size (Array.replicate ops.size false) a w:=by
 obtain⟨nx,ds,v,rfl⟩:=Z4l (m:=m) ops.toList 0 mf m.next [] hd rfl ⟨rfl,rfl⟩ (Nat.zero_le _);have f:∀j,lst (Array.replicate ops.size false) j=false:=fun j=>by
  unfold lst
  by_cases e:j<ops.size
  ·simp[e]
  ·simp[e]
 obtain⟨u,c⟩:=Zcs v;have e1:∀(l:List (Nat×YK)) t,Z1M (lst (Array.replicate ops.size false)) (ZV V m.base m.loc) l t=ZV V m.base m.loc t:=fun l t=>by
  induction l with
  | nil=>rfl
  | cons p l ihl =>
   obtain⟨i,e⟩:=p;simp only[Z1M,f i,jg,false_and,if_false];exact ihl
 have e2:∀(l:List (Nat×YK)) id,hL (lst (Array.replicate ops.size false)) m.objs.get l id=m.objs.get id:=fun l id=>by
  induction l with
  | nil=>rfl
  | cons p l ihl =>
   obtain⟨i,e⟩:=p;simp only[hL,f i,jg,if_false];exact ihl
 have s:∀id,ZH β m.objs.get id->ZH β (hL (lst (Array.replicate ops.size false)) m.objs.get ds) id:=fun id h=>⟨h.blk,h.hdr,by rw[e2];exact h.h⟩
 have g:(YU V nt ds { m with next:=nx }).next=nx:=(Z5l (L:=fun _=>true) (nx0:=nx) v fun _ _ _=>rfl).2.2.1
 refine Zgm hE hp hH hY v y (fun a' w' β' G' h1 h2=>hq a' w' β' G' (by rw[g];exact u) h1 h2) ops.size _ a w β G (by simp) (by unfold cnt;exact Nat.le_trans (List.countP_le_length) (by simp))
  ⟨fun t d ht=>k.fr t d (by rw[<-e1];exact ht),k.dom,k.sz,k.hr.eq (e2 ds),fun id z=>s id (k.fresh id (by omega)),k.df,fun j q _=>s _ (r j q),(fun j d lo hi q x _ id h1 _=>s id (k.fresh id (by have:=(c j d lo hi q x).1;omega))),
   (fun j d q o=>by rw[f j]at o;cases o),⟨Ext.refl _ _,fun id z x=>⟨by rw[e2];exact x,rfl,fun _=>rfl⟩⟩⟩
end
end Go.Ab
