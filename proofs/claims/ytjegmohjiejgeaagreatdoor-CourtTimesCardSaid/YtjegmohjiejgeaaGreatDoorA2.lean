/- What the code of the program comes to on plain values. -/
import Derived.Test.YtjegmohjiejgeaaGreatDoorA1
import Derived.Lib.UnsafeStr
import Derived.TacticsIn
import Derived.LoopNIn
import Derived.RangeFuncLeaves
import Derived.OrdersIn
set_option linter.unusedSectionVars false
set_option linter.unusedVariables false
set_option linter.unusedSimpArgs false
namespace Go.Ab
open Go.RowKit
section
variable {P:Program} {E:Env} {w0:World} {G0:Gh} {D:DD} {o:Oper} {a:Act} {w:World} {β:Bi} {G:Gh} {h:Nat->Option Zb} {nid:Nat} {ρ:Nat->Option DV}
theorem YP {α:Type} {x:Array α} {l:List α} (h:x.toList=l):x=l.toArray:=by subst h;simp
theorem ZL.und {t:TypeId} {ti:TI} (ht:ZL P t ti):∃d,P.underlying t=some d:=by
 have e:=ht.desc;cases hkk:ti.k<;>rw[hkk]at e<;>simp only at e
 all_goals first
  | exact⟨_,e⟩
  | (obtain⟨f,e,_⟩:=e;exact⟨_,e⟩)
  | (obtain⟨a,b,c,e⟩:=e;exact⟨_,e⟩)
  | (obtain⟨a,e⟩:=e;exact⟨_,e⟩)
theorem Zjj {s:Sem Unit} {w':World} (c:execOp a.eval o=(do s;Pure.pure Next.skip)) (b:s.run P w=.ok () w'):(execOp a.eval o).run P w=.ok .skip w':=by
 rw[c];simp[b]
theorem Yk {s:Sem Value} {v:Value} {w':World} (c:execOp a.eval o=(do Pure.pure (Next.value (<-s)))) (b:s.run P w=.ok v w'):(execOp a.eval o).run P w=.ok (.value v) w':=by
 rw[c];simp[b]
theorem Z40:Rep β G (.tup []) undef:=Ys.2 ⟨[],rfl,Zg.2 rfl⟩
theorem ZgP (hh:HR E w0 G0 D w β G h) (a:ZE β h nid) (s:ByteArray) :
  ∃β',Ext β G β' G/\β'.blk nid=some w.heap.size/\HR E w0 G0 D (w.alloc (.stringIter s 0)) β' G (Zy h [(nid,some (.siter s 0))])/\Z2l β β' h (Zy h [(nid,some (.siter s 0))]) nid :=
 hh.lay a _ _ rfl fun β' _ hb=>⟨_,hb,heap_alloc_new w (.stringIter s 0)⟩
theorem ZiT (hh:HR E w0 G0 D w β G h) (b:ZE β h nid) (m bm n:Nat) (a:β.blk m=some bm) :
  ∃β',Ext β G β' G/\β'.blk nid=some w.heap.size/\HR E w0 G0 D (w.alloc (.mapIter (some bm) n #[] n)) β' G (Zy h [(nid,some (.mit m n []))])/\Z2l β β' h (Zy h [(nid,some (.mit m n []))]) nid :=
 hh.lay b _ _ rfl fun β' hx hb=>⟨_,bm,n,hb,hx.blk _ _ a,heap_alloc_new w (.mapIter (some bm) n #[] n),Nat.le_refl _⟩
theorem ZiQ (hh:HR E w0 G0 D w β G h) (a:ZE β h nid) :
  ∃β',Ext β G β' G/\β'.blk nid=some w.heap.size/\HR E w0 G0 D (w.alloc (.map #[] 0)) β' G (Zy h [(nid,some (.map []))])/\Z2l β β' h (Zy h [(nid,some (.map []))]) nid :=
 hh.lay a _ _ rfl fun β' _ hb=>⟨_,_,_,hb,heap_alloc_new w (.map #[] 0),rfl,rfl,rfl⟩
theorem Z44 {l pos:Nat} {s:ByteArray} (h:w.heap[l]? = some (.stringIter s pos)):(getObj l).run P w=.ok (.stringIter s pos) w:=by simp[getObj,Sem.run,h]
theorem Za5 {l:Nat} {r:Obj} {ob:Obj} (h:w.heap[l]? = some ob) (hc:∀c t f,ob≠.cells c t f):(setObj l r).run P w=.ok () (w.putObj l r):=by
 cases ob<;>first|(exact absurd rfl (hc _ _ _))|simp[setObj,Sem.run,World.putObj,h]
theorem Zfj (hh:HR E w0 G0 D w β G h) {t:TypeId} {ti ei:TI} (ht:ZL P t ti) {e:Nat} (y:ti.k=.slice e) (he:ZL P e ei) {es:List (List DV)} {dx:DV} {u:Value} (a:ZT h dx=some es) (hr:Rep β G dx u)
  {lo hi:Option DV} {vlo vhi:Option Value} (hl:Z7q β G lo vlo) (o:Z7q β G hi vhi) {d:DV} (i:Zg8 es ei.size dx lo hi=some d) :
  ∃r,(Instr.sliceAt t u vlo vhi none).run P w=.ok r w/\Rep β G d r:=by
 have f:=ht.desc;rw[y]at f;unfold Zg8 at i;obtain⟨m,z,i⟩:=Z0 i;obtain⟨l,x,i⟩:=Z0 i;cases dx with
 | rs id ver =>
  simp only[ZT]at a;obtain⟨ob,n,a⟩:=Z0 a;split at a
  ·rename_i t' es' p u';obtain⟨q,a⟩:=Z3 a;cases a;have q:u'=ver:=je q;subst q;obtain⟨hdr,vals,k1,k2,_⟩:=hh.obj _ _ n;obtain⟨k5,_⟩:=Z1i.1 hr;rw[k1]at k5;cases k5;have j:∃A c,u=.slice A es.length c/\es.length<=c/\(es.length=0\/∃b,A=some ⟨b,0,none⟩):=by
    rcases k2.2 with⟨rfl,k⟩|⟨g,cap,cur,rfl,_,_,k,_⟩
    ·exact⟨none,0,by rw[k],by omega,.inl k⟩
    ·exact⟨_,cap,rfl,k,.inr ⟨g,rfl⟩⟩
   obtain⟨A,c,rfl,s,v⟩:=j;obtain⟨k1',k2',k3'⟩:=Z1P (P:=P) (w:=w) (isSlice:=true) hl o z x s;refine⟨.slice (if c=l then A else A.map (·.add (l*ei.size))) (m-l) (c-l),by simp[Instr.sliceAt,Instr.slice,ji f,k1',he.run_sizeOf],?_⟩
   cases i;refine Zcg.2 ⟨A,es.length,c,_,c-l,k1,rfl,by omega,by omega,?_⟩
   by_cases hml:m-l=0
   ·exact .inl hml
   ·rcases v with v|⟨b,rfl⟩
    ·omega
    ·refine .inr ⟨b,rfl,?_⟩;rw[if_neg (by omega)]
     simp[Yc]
  ·cases a
 | _=>cases i
theorem Zai:∀{es:List (List DV)} {l:List UInt8},Z7o es=some l->es=l.map fun b=>[DV.int .u8 b.toNat]
 | [],l,h=>by cases h;rfl
 | e::es,l,h=>by
  unfold Z7o at h;split at h
  ·rename_i a;cases a
  ·rename_i n es' a;cases a;obtain⟨c,h⟩:=Z3 h;simp only[jn,jk]at c;obtain⟨l',d,h⟩:=Z0 h;cases h;rw[jr,<-Zai d];have:((UInt8.ofNat n.toNat).toNat:Int)=n:=by
    rw[UInt8.toNat_ofNat_of_lt' (by simp[UInt8.size];omega)];omega
   rw[this]
  ·cases h
theorem ZaG:∀(l:List UInt8) (vals:List Value),Ze β G (l.map fun b=>[DV.int .u8 b.toNat]).flatten vals->vals=l.map fun x=>Value.int .u8 x.toNat
 | [],vals,h=>Zg.1 h
 | b::l,vals,h=>by
  obtain⟨v,vs,rfl,c,a⟩:=Za.1 h;rw[Zu.1 c,ZaG l vs a];rfl
theorem Z4j (w:World) (p:Addr) (n:Nat) {b:Nat} (a:b≠p.block):(w.freeze p n).heap[b]? = w.heap[b]? := by
 unfold World.freeze;split
 ·rfl
 ·simp only[Array.getElem?_modify];rw[if_neg (fun e=>a e.symm)]
theorem Zd0 (w:World) (p:Addr) (n:Nat) (x:Addr):(w.freeze p n).cell? x=w.cell? x:=by
 by_cases hb:x.block=p.block
 ·unfold World.freeze;split
  ·rfl
  ·unfold World.cell?;simp only[Array.getElem?_modify,hb,if_true];cases hg:w.heap[p.block]? with
   | none=>rfl
   | some ob=>cases ob<;>rfl
 ·exact World.cell?_of_block (Z4j w p n hb)
theorem Zd1 (w:World) (p:Addr) (n:Nat):(w.freeze p n).heap.size=w.heap.size:=by
 unfold World.freeze;split
 ·rfl
 ·simp
theorem HR.dropRow (hh:HR E w0 G0 D w β G h) {id e:Nat} {es:List (List DV)} {p u:Nat} (t:h id=some (.row e es p u)) {g:Nat} (k:Yf β id (.row e es p u) g) (n:Nat):HR E w0 G0 D (w.freeze ⟨g,0,none⟩ n) β G (Zy h [(id,none)]):=by
 obtain⟨k1,_,k3⟩:=hh.own id _ g t k;have a:∀i x,Zy h [(id,none)] i=some x->i≠id/\h i=some x:=fun i x hi=>by
  rw[Zz]at hi
  by_cases e:i=id
  ·rw[if_pos e]at hi;cases hi
  ·rw[if_neg e]at hi;exact⟨e,hi⟩
 have f:∀i x c,i≠id->h i=some x->Yf β i x c->c≠g:=fun i x c hi l hc q=>hi (hh.inj i id x _ g l t (q▸hc) k);refine⟨Lib.below_freeze hh.below k1 n,hh.g0,fun b o v z=>by rw[Zd0];exact hh.agree b o v z,fun i x hi=>?_,fun i x c hi hc=>?_,fun i j x y c hi hj hc s=>hh.inj i j x y c (a i x hi).2 (a j y hj).2 hc s,fun d x r=>?_,hh.inv0⟩
 ·obtain⟨m,l⟩:=a i x hi;exact Z1M.keep (Ext.refl _ _) (fun _=>rfl) (fun c hc=>⟨Z4j w _ n (f i x c m l hc),fun _=>rfl⟩) (hh.obj i x l)
 ·obtain⟨m,l⟩:=a i x hi;obtain⟨m1,m2,m3⟩:=hh.own i x c l hc;exact⟨m1,by rw[Zd1];exact m2,m3⟩
 ·obtain⟨m1,m2,m3⟩:=hh.marks d x r;exact⟨m1,(Z4j w _ n (fun q=>by rw[q,k3]at r;cases r)).trans m2,m3⟩
theorem Zgl {id:Nat} {x:Zb} (c:h id=some x):Z2l β β h (Zy h [(id,none)]) nid:=fun i _ a=>by
 have b:i≠id:=fun q=>by rw[q,c]at a;cases a
 exact⟨by rw[Zz,if_neg b];exact a,rfl,fun _=>rfl⟩
theorem Z7g (ats:Array TypeId) (ty:TypeId):(Builtin.unsafeSliceData_ ats ty #[.slice none 0 0]).run P w=.ok (.pointer none) w:=rfl
theorem ZaA (ats:Array TypeId) (ty:TypeId) (a:Addr) (n c:Nat) (hc:c≠0):(Builtin.unsafeSliceData_ ats ty #[.slice (some a) n c]).run P w=.ok (.pointer (some a)) w:=by
 have h:Builtin.unsafeSliceData_ ats ty #[.slice (some a) n c]=(if c≠0 then(pure (.pointer (some a)):Sem Value)else(do
   if(<-viewAt a.block).isSome then pure (.pointer (some a))else pure (.pointer (some ⟨<- newObj (.view a (<-elemOf ty)),0,none⟩)))):=rfl
 rw[h,if_pos hc];rfl
theorem Zgn (hE:∀t ti,E.ty t=some ti->ZL P t ti) (hf:FrM β G ρ a.tmps) (hh:HR E w0 G0 D w β G h) (hfr:ZE β h nid) {c:Call} (ho:o.op=.call c) {r:Out}
  (f:Zx E nid ρ h (.call c)=some r):Y0 P E w0 G0 D o a w β G h nid r:=by
 have q:∀b,c.callee=.builtin b->∃cs,execOp a.eval o=Go.builtin b c.argTypes o.type cs (c.args.map a.eval):=fun b hb=>by
  refine⟨c.args.map fun | .const _=>true|_=>false,?_⟩;unfold execOp;rw[ho];simp[resolve,hb,invoke];rfl
 simp only[Zx]at f;split at f
 ·rename_i hb;split at f
  ·rename_i x t ts hx ht;obtain⟨ti,hti,f⟩:=Z0 f;obtain⟨d,y,f⟩:=Z0 f;obtain⟨u,hu,f⟩:=Z0 f;cases f;have hts:c.argTypes[0]? = some t:=by rw[YP ht];simp
   obtain⟨v,h1,h2⟩:=Zgv (ty:=o.type) hh (hE t ti hti) hts hu (Zm hf y);refine Y0.pure hh (v:=v) ?_ h2;obtain⟨cs,hcs⟩:=q _ hb;rw[hcs,YP hx];simp[Go.builtin,h1]
  ·cases f
 ·rename_i hb;split at f
  ·rename_i s x t t' hx ht;obtain⟨ds,hds,f⟩:=Z0 f;obtain⟨dx,y,f⟩:=Z0 f;obtain⟨v,w',β',h1,h2,h3,h4,h5⟩:=Z6A (ty:=o.type) hE hh hfr (Zm hf hds) (Zm hf y) f;refine⟨.value v,v,w',β',G,?_,.inl rfl,h2,h3,h4,h5⟩;obtain⟨cs,hcs⟩:=q _ hb;rw[hcs,YP hx,YP ht];simp[Go.builtin,h1]
  ·cases f
 ·rename_i hb;obtain⟨cs,hcs⟩:=q _ hb;split at f
  ·rename_i x hx;obtain⟨d,y,f⟩:=Z0 f;have hr:=Zm hf y;split at f
   ·obtain rfl:=Z1p f;rw[Z1o]at hr;refine Y0.pure hh (v:=.pointer none) ?_ (Z7b.2 rfl);rw[hcs,YP hx];simp only[List.map_toArray,jr,List.map_nil,hr,Go.builtin,jz,Z7g];rfl
   ·rename_i id v;obtain⟨ob,ho2,f⟩:=Z0 f;split at f
    ·rename_i e c es p u;obtain⟨hq,f⟩:=Z3 f;obtain rfl:=je hq;obtain rfl:=Z1p f;obtain⟨hdr,vals,h1,h2,_⟩:=hh.obj id _ ho2;obtain⟨hv,_⟩:=Z1i.1 hr;rw[hv]at h1;cases h1;rcases h2.2 with⟨_,hz⟩|⟨g,cap,cur,hg,_,_,hn,_⟩
     ·simp at hz
     ·have hc0:cap≠0:=by simp only[List.length_cons]at hn;omega
      rw[hg]at hv;refine Y0.pure hh (v:=.pointer (some ⟨g,0,none⟩)) ?_ (Z1T.2 ⟨g,_,cap,hv,by simp⟩)
      rw[hcs,YP hx];simp only[List.map_toArray,jr,List.map_nil,hg,Go.builtin,jz,ZaA _ _ _ _ _ hc0];rfl
    ·cases f
   ·cases f
  ·cases f
 ·rename_i hb;obtain⟨cs,hcs⟩:=q _ hb;split at f
  ·rename_i x n t t' hx ht;obtain⟨dx,y,f⟩:=Z0 f;obtain⟨dn,hdn,f⟩:=Z0 f;obtain⟨ti,hti,f⟩:=Z0 f;have hr:=Zm hf y;have hrn:=Zm hf hdn;have hu:=(hE t ti hti).desc;split at f
   ·obtain rfl:=Z1p f;rw[Z7b]at hr;rw[Zu]at hrn;refine Y0.pure hh (v:=.string .empty) ?_ (Yg.2 rfl);rw[hcs,YP hx,YP ht];simp[Go.builtin,hr,hrn,Lib.run_unsafeString_none]
   ·rename_i id v k e _ _ _;have hk:ti.k=TK.ptr e:=by assumption
    rw[hk]at hu;obtain⟨ob,ho2,f⟩:=Z0 f;split at f
    ·rename_i e' es p u;obtain⟨hq,hdz⟩:=Z3 f;clear f;simp only[jn]at hq;obtain⟨⟨⟨⟨q1,q2⟩,q3⟩,q4⟩,q5⟩:=hq;obtain rfl:=je q1;obtain rfl:=je q2;have q3:k=(es.length:Nat):=by simpa using q3
     subst q3;have q4:0<es.length:=jf q4;have q5:=jf q5;obtain⟨l,hl,hdz⟩:=Z0 hdz;cases hdz;have hes:=Zai hl;obtain⟨hdr,vals,h1,h2,h3,h4,h5,h6,h7⟩:=hh.obj id _ ho2;obtain⟨b,m,c,hv,he⟩:=Z1T.1 hr;rw[hv]at h1;cases h1;have hll:es.length=l.length:=by rw[hes];simp
     have a0:Yn E e=1:=by
      rw[<-(h4 _ (jl q4)).1];simp only[hes,List.getElem_map];rfl
     have hcell:P.cellsOf e=1:=by
      unfold Yn at a0;cases hte:E.ty e with
      | none=>rw[hte]at a0;cases a0
      | some ei =>
       rw[hte]at a0;obtain⟨i,z,k1,k2,_⟩:=(hE e ei hte).info;simp[Program.cellsOf,k1,k2];exact a0
     rcases h2.2 with⟨hg,_⟩|⟨g,cap,cur,hg,_,hgc,hn,_,hcs2,htk⟩
     ·cases hg
     ·cases hg;rw[a0,Nat.mul_one]at htk;rw[a0,Nat.mul_one]at hcs2;have hvals:vals=l.map fun x=>Value.int .u8 x.toNat:=by
       rw[hes]at h3;exact ZaG l vals h3
      have hcur:∀(j:Nat) (x:UInt8),l[j]? = some x->cur[j]? = some (Value.int .u8 x.toNat):=fun j x hj=>by
       have:vals[j]? = some (Value.int .u8 x.toNat):=by rw[hvals,List.getElem?_map,hj];rfl
       rw[<-htk,List.getElem?_take]at this;split at this
       ·simpa using this
       ·cases this
      have hrun:=Lib.run_unsafeString_row (P:=P) w t t' o.type e hu hcell b cur.size (by simp[World.shape?,hgc]) l (fun hn=>by rw[hn]at hll;rw[hll]at q4;exact absurd q4 (by simp)) (by omega) (by omega) (fun j x hj=>by
       rw[Yc];simp[World.cell?,hgc,hcur j x hj])
      refine⟨.value (.string ⟨l.toArray⟩),_,w.freeze ⟨b,0,none⟩ l.length,β,G,?_,.inl rfl,fun d f=>by cases f;exact Yg.2 rfl,Ext.refl β G,hh.dropRow ho2 ⟨_,_,hv⟩ _,Zgl ho2⟩
      rw[hcs,YP hx,YP ht];rw[Zu]at hrn;rw[hll]at hrn;have he:a.eval x=.pointer (some ⟨b,0,none⟩):=by simpa using he
      simp[Go.builtin,he,hrn,hrun]
    ·cases f
   ·cases f
  ·cases f
 ·rename_i hb;obtain⟨vs,hvs,f⟩:=Z0 f;split at f
  ·rename_i x xs;obtain⟨d,hdd,f⟩:=Z0 f;cases f;have hr:=Z1C hf hvs;obtain⟨v,vs',he,hr1,hr2⟩:=Za.1 hr;obtain⟨u,h1,h2⟩:=Z50 (P:=P) (w:=w) (β:=β) (G:=G) (g:=Builtin.min2) ZeG hdd hr1 hr2;refine Y0.pure hh (v:=u) ?_ h2;obtain⟨cs,hcs⟩:=q _ hb;rw[hcs];simp[Go.builtin,Builtin.min_,he,h1]
  ·cases f
 ·rename_i hb;obtain⟨vs,hvs,f⟩:=Z0 f;split at f
  ·rename_i x xs;obtain⟨d,hdd,f⟩:=Z0 f;cases f;have hr:=Z1C hf hvs;obtain⟨v,vs',he,hr1,hr2⟩:=Za.1 hr;obtain⟨u,h1,h2⟩:=Z50 (P:=P) (w:=w) (β:=β) (G:=G) (g:=Builtin.max2) ZeF hdd hr1 hr2;refine Y0.pure hh (v:=u) ?_ h2;obtain⟨cs,hcs⟩:=q _ hb;rw[hcs];simp[Go.builtin,Builtin.max_,he,h1]
  ·cases f
 ·cases f
theorem Zev (hE:∀t ti,E.ty t=some ti->ZL P t ti) (hf:FrM β G ρ a.tmps) (hh:HR E w0 G0 D w β G h) (hfr:ZE β h nid) {r:Out}
    (hd:Zx E nid ρ h o.op=some r):Y0 P E w0 G0 D o a w β G h nid r:=by
  cases ho:o.op with
  | call c=>rw[ho]at hd;exact Zgn hE hf hh hfr ho hd
  | move x =>
    rw[ho]at hd;simp only[Zx]at hd;obtain⟨d,h1,hd⟩:=Z0 hd;cases hd;exact Y0.pure hh (by unfold execOp;rw[ho];rfl) (Zm hf h1)
  | assign x =>
    rw[ho]at hd;simp only[Zx]at hd;obtain⟨d,h1,hd⟩:=Z0 hd;cases hd;exact Y0.pure hh (by unfold execOp;rw[ho];rfl) (Zm hf h1)
  | pick c x y =>
    rw[ho]at hd;simp only[Zx]at hd;obtain⟨dc,hc,hd⟩:=Z0 hd;split at hd
    · rename_i b
      have hcv:=ZH.1 (Zm hf hc);have hr:(execOp a.eval o).run P w=.ok (.value (if b then a.eval x else a.eval y)) w:=by
        unfold execOp;rw[ho];simp[hcv,asBool]
      cases b
      · obtain⟨d,h1,hd⟩:=Z0 hd
        cases hd;exact Y0.pure hh hr (Zm hf h1)
      · obtain⟨d,h1,hd⟩:=Z0 hd
        cases hd;exact Y0.pure hh hr (Zm hf h1)
    · cases hd
  | alloc t =>
    rw[ho]at hd;simp only[Zx]at hd;obtain⟨ti,hti,hd⟩:=Z0 hd;cases hd;exact ZcE hh hfr (hE t ti hti) ho
  | box t x =>
    rw[ho]at hd;simp only[Zx]at hd;obtain⟨d,h1,hd⟩:=Z0 hd;obtain⟨hq,hd⟩:=Z3 hd;cases hd;exact Zge hh hfr ho (Zm hf h1) hq
  | build t ps =>
    rw[ho]at hd;simp only[Zx]at hd;have hrf:∃d,r=⟨some d,[]⟩:=by
      obtain⟨ti,hti,hd⟩:=Z0 hd;obtain⟨vs,hvs,hd⟩:=Z0 hd;split at hd
      · obtain⟨cs,hcs,hd⟩:=Z0 hd
        cases hd;exact⟨_,rfl⟩
      · obtain⟨ei,hei,hd⟩:=Z0 hd
        obtain⟨cs,hcs,hd⟩:=Z0 hd;cases hd;exact⟨_,rfl⟩
      · cases hd
    obtain⟨d,rfl⟩:=hrf;obtain⟨v,h1,h2⟩:=ZcK (P:=P) (w:=w) (β:=β) (G:=G) hE hf hd;exact Y0.pure hh (Yk (by unfold execOp;rw[ho]) h1) h2
  | buildSlice t n ps =>
    rw[ho]at hd;obtain⟨v,w',β',G',h1,h2,h3,h4,h5⟩:=Z7u (P:=P) (a:=a) hE hf hh hfr hd;exact⟨.value v,v,w',β',G',Yk (by unfold execOp;rw[ho]) h1,.inl rfl,h2,h3,h4,h5⟩
  | load t x =>
    rw[ho]at hd;simp only[Zx]at hd;obtain⟨ti,hti,hd⟩:=Z0 hd;obtain⟨dx,hx,hd⟩:=Z0 hd;obtain⟨d,h1,hd⟩:=Z0 hd;cases hd;obtain⟨v,h2,h3⟩:=Z9G hE hh (hE t ti hti) (hE t ti hti).ko (Zm hf hx) h1;exact Y0.pure hh (Yk (by unfold execOp;rw[ho]) h2) h3
  | store t x y =>
    rw[ho]at hd;simp only[Zx]at hd;obtain⟨ti,hti,hd⟩:=Z0 hd;obtain⟨dx,hx,hd⟩:=Z0 hd;obtain⟨dy,hy,hd⟩:=Z0 hd;obtain⟨us,h1,hd⟩:=Z0 hd;cases hd;obtain⟨w',h2,h3,h4⟩:=Ze2 (nid:=nid) hh (hE t ti hti) (Zm hf hx) (Zm hf hy) h1;exact⟨.skip,undef,w',β,G,Zjj (by unfold execOp;rw[ho]) h2,.inr ⟨rfl,rfl⟩,fun d hd=>by cases hd;exact Z40,Ext.refl β G,h3,h4⟩
  | nilCheck x =>
    rw[ho]at hd;simp only[Zx]at hd;obtain⟨d,h1,hd⟩:=Z0 hd;have hr:=Zm hf h1;have key:∀A,a.eval x=.pointer (some A)->(execOp a.eval o).run P w=.ok (.value (a.eval x)) w:=fun A hA=>by
      unfold execOp;rw[ho];simp[hA]
    split at hd
    · cases hd
      obtain⟨b,_,h2⟩:=Z1f.1 hr;exact Y0.pure hh (key _ h2) hr
    · cases hd
      obtain⟨b,_,_,_,h2⟩:=Z1T.1 hr;exact Y0.pure hh (key _ h2) hr
    · cases hd
      obtain⟨_,b,_,h2,_⟩:=Z3A.1 hr;exact Y0.pure hh (key _ h2) hr
    · cases hd
  | binOp op t x y z =>
    rw[ho]at hd;simp only[Zx]at hd;obtain⟨dx,hx,hd⟩:=Z0 hd;obtain⟨dy,hy,hd⟩:=Z0 hd;obtain⟨d,h1,hd⟩:=Z0 hd;cases hd;split at h1
    · have e1:=Z5H.1 (Zm hf hx)
      have e2:=Z5H.1 (Zm hf hy);obtain⟨hc,h1⟩:=Z3 h1;obtain⟨v,h2,h3⟩:=ZeH (P:=P) (w:=w) (β:=β) (G:=G) (x:=x) (y:=y) hE hc h1;exact Y0.pure hh (Yk (by unfold execOp;rw[ho]) (by rw[e1,e2];exact h2)) h3
    · obtain⟨v,h2,h3⟩:=Zem (P:=P) (w:=w) (x:=x) (y:=y) hE h1 (Zm hf hx) (Zm hf hy)
      exact Y0.pure hh (Yk (by unfold execOp;rw[ho]) h2) h3
  | unOp op t x =>
    rw[ho]at hd;simp only[Zx]at hd;obtain⟨dx,hx,hd⟩:=Z0 hd;obtain⟨d,h1,hd⟩:=Z0 hd;cases hd;obtain⟨v,h2,h3⟩:=ZgV (P:=P) (w:=w) h1 (Zm hf hx);exact Y0.pure hh (Yk (by unfold execOp;rw[ho]) h2) h3
  | convert s t x =>
    rw[ho]at hd;simp only[Zx]at hd;obtain⟨si,hsi,hd⟩:=Z0 hd;obtain⟨ti,hti,hd⟩:=Z0 hd;obtain⟨dx,hx,hd⟩:=Z0 hd;obtain⟨us,hus⟩:=(hE s si hsi).und;have hdesc:=(hE t ti hti).desc;have hr:=Zm hf hx;cases hk:ti.k with
    | int k =>
      rw[hk]at hd hdesc;cases dx with
      | int k' n =>
      cases hd;rw[Zu]at hr;refine Y0.pure hh (Yk (v:=.int k (k.wrap n)) (by unfold execOp;rw[ho]) ?_) (Zu.2 rfl)
      simp[convert,ji hus,ji hdesc,hr,Conv.intToInt]
      | _=>cases hd
    | string =>
      rw[hk]at hd hdesc;cases dx with
      | str s' =>
      cases hd;rw[Yg]at hr;refine Y0.pure hh (Yk (v:=.string s') (by unfold execOp;rw[ho]) ?_) (Yg.2 rfl)
      simp[convert,ji hus,ji hdesc,hr]
      | _=>cases hd
    | _=>rw[hk]at hd;cases hd
  | makeInterface t x =>
    rw[ho]at hd;simp only[Zx]at hd;obtain⟨ti,hti,hd⟩:=Z0 hd;obtain⟨dx,hx,hd⟩:=Z0 hd;have hk:ti.k≠.iface:=fun e=>by rw[e]at hd;cases hd
    have hd':ret (.iface t dx)=some r:=by
      cases hkk:ti.k<;>rw[hkk]at hd<;>first|exact hd|exact absurd hkk hk
    rw[Z1p hd'];obtain⟨h1,h2⟩:=Z8G (P:=P) (w:=w) (hE t ti hti) hk (Zm hf hx);exact Y0.pure hh (Yk (by unfold execOp;rw[ho]) h1) h2
  | typeAssert x xt t ok =>
    rw[ho]at hd;simp only[Zx]at hd;obtain⟨ti,hti,hd⟩:=Z0 hd;obtain⟨dx,hx,hd⟩:=Z0 hd;have hk:ti.k≠.iface:=fun e=>by rw[e]at hd;cases dx<;>cases hd
    have:∃d,(match dx with
      | .nilif=>bif ok then(Z1b ti).bind fun z=>some (.tup [z,.bool false])else none
      | .iface t' v=>bif Nat.beq t' t then some (bif ok then .tup [v,.bool true]else v)else bif ok then(Z1b ti).bind fun z=>some (.tup [z,.bool false])else none
      | _=>none:Option DV)=some d/\r=⟨some d,[]⟩:=by
      cases dx with
      | nilif =>
        have hd':(bif ok then(Z1b ti).bind fun z=>ret (.tup [z,.bool false])else none)=some r:=by
          cases hkk:ti.k<;>rw[hkk]at hd<;>first|exact hd|exact absurd hkk hk
        cases ok with
        | false=>cases hd'
        | true =>
          obtain⟨z,hz,hd'⟩:=Z0 hd';exact⟨_,by simp[hz],Z1p hd'⟩
      | iface t' v =>
        have hd':(bif Nat.beq t' t then ret (bif ok then .tup [v,.bool true]else v)else bif ok then(Z1b ti).bind fun z=>ret (.tup [z,.bool false])else none)=some r:=by
          cases hkk:ti.k<;>rw[hkk]at hd<;>first|exact hd|exact absurd hkk hk
        simp only;cases hq:Nat.beq t' t with
        | true=>rw[hq]at hd';exact⟨_,rfl,Z1p hd'⟩
        | false =>
          rw[hq]at hd';cases ok with
          | false=>cases hd'
          | true =>
            obtain⟨z,hz,hd'⟩:=Z0 hd';exact⟨_,by simp[hz],Z1p hd'⟩
      | _=>cases hkk:ti.k<;>rw[hkk]at hd<;>cases hd
    obtain⟨d,h1,rfl⟩:=this;obtain⟨v,h2,h3⟩:=Z8b (P:=P) (w:=w) (xt:=xt) (hE t ti hti) hk h1 (Zm hf hx);exact Y0.pure hh (Yk (by unfold execOp;rw[ho]) h2) h3
  | makeSlice t l c =>
    rw[ho]at hd;simp only[Zx]at hd;obtain⟨ti,hti,hd⟩:=Z0 hd;obtain⟨dl,hl,hd⟩:=Z0 hd;obtain⟨dc,hc,hd⟩:=Z0 hd;cases hk:ti.k with
    | slice e =>
     rw[hk]at hd;obtain⟨k1,n,rfl⟩:∃k n,dl=.int k n:=by cases dl<;>first|exact⟨_,_,rfl⟩|cases hd
     obtain⟨k2,n',rfl⟩:∃k n,dc=.int k n:=by cases dc<;>first|exact⟨_,_,rfl⟩|cases hd
     simp only at hd;obtain⟨ei,hei,hd⟩:=Z0 hd;obtain⟨hq,hd⟩:=Z3 hd;cases hd;simp only[jn,jk,beq_iff_eq]at hq;obtain⟨⟨⟨⟨q1,q2⟩,q3⟩,q4⟩,q5⟩:=hq;subst q1;have e1:=Zm hf hl;have e2:=Zm hf hc;rw[Zu]at e1 e2;obtain⟨v,w',β',h1,h2,h3,h4,h5⟩:=Z8H (P:=P) (k1:=k1) (k2:=k2) hE hh hfr (hE t ti hti) hk hei q2 (jf q3) (jf q4) q5;rw[<-e1,<-e2]at h1;exact⟨_,v,w',β',G,Yk (by unfold execOp;rw[ho]) h1,.inl rfl,fun d hd=>by cases hd;exact h2,h3,h4,h5⟩
    | _=>rw[hk]at hd;cases hd
  | makeFunc f x y =>
    rw[ho]at hd;simp only[Zx]at hd;obtain⟨dx,hx,hd⟩:=Z0 hd;obtain⟨dy,hy,hd⟩:=Z0 hd;cases hd;refine Y0.pure hh (Yk (v:=.func f (x.map a.eval) (y.map a.eval)) (by unfold execOp;rw[ho]) rfl) (Zcf.2 ⟨_,_,?_,Z1C hf hx,Z1C hf hy⟩)
    congr 1<;>(apply Array.ext';simp)
  | makeMap t x =>
    cases x with
    | some x=>rw[ho]at hd;simp[Zx]at hd
    | none =>
      rw[ho]at hd;simp only[Zx]at hd;cases hd;obtain⟨β',h1,h2,h3,h4⟩:=ZiQ hh hfr;refine⟨_,.map (some w.heap.size),_,β',G,Yk (by unfold execOp;rw[ho]) ?_,.inl rfl,fun d hd=>by cases hd;exact Z7a.2 ⟨_,h2,rfl⟩,h1,h3,h4⟩
      simp[Instr.makeMap]
  | slice t x lo hi mx =>
    cases mx with
    | some m=>rw[ho]at hd;simp[Zx]at hd
    | none =>
      rw[ho]at hd;simp only[Zx]at hd;obtain⟨ti,hti,hd⟩:=Z0 hd;obtain⟨dx,hx,hd⟩:=Z0 hd;obtain⟨dl,hl,hd⟩:=Z0 hd;obtain⟨dh,hhi,hd⟩:=Z0 hd;have hdesc:=(hE t ti hti).desc;have hr:=Zm hf hx;have hlo:=ZfO hf hl;have hhr:=ZfO hf hhi;cases hk:ti.k with
      | string =>
        rw[hk]at hdesc hd;cases dx with
        | str s =>
          obtain⟨d,h1,hd⟩:=Z0 hd;cases hd;rw[Yg]at hr;unfold Zfe at h1;obtain⟨m,k1,h1⟩:=Z0 h1;obtain⟨l,k2,h1⟩:=Z0 h1;cases h1;obtain⟨k3,_,_⟩:=Z1P (P:=P) (w:=w) (isSlice:=false) hlo hhr k1 k2 (Nat.le_refl _);refine Y0.pure hh (Yk (v:=.string (s.extract l m)) (by unfold execOp;rw[ho]) ?_) (Yg.2 rfl)
          simp[Instr.sliceAt,Instr.slice,ji hdesc,hr,k3]
        | _=>cases hd
      | array n e =>
        rw[hk]at hd;cases dx with
        | ptr id off =>
          simp only at hd;obtain⟨ei,hei,hd⟩:=Z0 hd;obtain⟨ob,hob,hd⟩:=Z0 hd;cases ob with
          | cells ct cs =>
            obtain⟨hq,hd⟩:=Z3 hd;obtain⟨d,h1,hd⟩:=Z0 hd;cases hd;simp only[jn]at hq;obtain⟨v,G1,h2,h3,h4,h5⟩:=Zab (P:=P) hE hh (hE t ti hti) hk hei hr hob (jf hq.1.1) (jf hq.1.2) hq.2 hlo hhr h1;exact⟨_,v,w,β,G1,Yk (by unfold execOp;rw[ho]<;>rfl) h2,.inl rfl,fun d hd=>by cases hd;exact h3,h4,h5,fun i _ hq=>⟨by rw[Zz];split;exact rfl;exact hq,rfl,fun _=>rfl⟩⟩
          | _=>cases hd
        | pub cs =>
          simp only at hd;obtain⟨ei,hei,hd⟩:=Z0 hd;obtain⟨hq,hd⟩:=Z3 hd;obtain⟨d,h1,hd⟩:=Z0 hd;cases hd;simp only[jn]at hq;obtain⟨v,h2,h3⟩:=Zac (P:=P) (w:=w) hE (hE t ti hti) hk hei hr (jf hq.1) hq.2 hlo hhr h1;exact Y0.pure hh (Yk (by unfold execOp;rw[ho]<;>rfl) h2) h3
        | _=>cases hd
      | slice e =>
        rw[hk]at hd;simp only at hd;obtain⟨ei,hei,hd⟩:=Z0 hd;obtain⟨es,hes,hd⟩:=Z0 hd;obtain⟨hq,hd⟩:=Z3 hd;simp only[jn,List.all_eq_true]at hq;have hql:∀c∈es,c.length=ei.size:=fun c hc=>je (hq.1 c hc);cases hvw:ti.view&&Z36 h dx with
        | true =>
          rw[hvw]at hd;simp only[jB]at hd;obtain⟨d,h1,hd⟩:=Z0 hd;cases hd;obtain⟨v,h2,h3⟩:=Zfj (P:=P) (w:=w) hh (hE t ti hti) hk (hE e ei hei) hes hr hlo hhr h1;exact Y0.pure hh (Yk (by unfold execOp;rw[ho]<;>rfl) h2) h3
        | false =>
        rw[hvw]at hd;simp only[jA]at hd;obtain⟨d,h1,hd⟩:=Z0 hd;cases hd;obtain⟨G1,hx1,hh1,hs1⟩:=Z1I hh (Zh dx);have hsh:∃A c,a.eval x=.slice A es.length c/\es.length<=c/\(es=[]\/∃b off,A=some ⟨b,off,none⟩/\Ym β G1 b ei.size off es):=by
          cases dx with
          | nils=>cases hes;exact⟨none,0,Z1o.1 hr,Nat.le_refl _,.inl rfl⟩
          | sl es' =>
            cases hes;obtain⟨A,c,⟨k1,k2⟩,k3⟩:=Z3i.1 hr;refine⟨A,c,k1,k2,?_⟩;rcases k3 with k3|⟨b,off,e',k3,k4⟩
            · exact .inl k3
            · exact Z3z (Ym.mono hx1 _ _ _ _ k4) hql |>.imp (fun z=>z) fun k=>⟨b,off,k3,k⟩
          | rs id ver =>
            simp only[ZT]at hes;obtain⟨ob,hob,hes⟩:=Z0 hes;split at hes
            · rename_i t' es' p u
              obtain⟨hu,hes⟩:=Z3 hes;cases hes;have hu:u=ver:=je hu;subst hu;obtain⟨p',hp'⟩:=Z26 h (Zh (.rs id u)) _ _ _ _ _ hob;obtain⟨hdr,k1,A,c,⟨k2,k3⟩,k4⟩:=hs1 id (by simp[Zh]) _ _ _ _ hp'
              obtain⟨k5,_⟩:=Z1i.1 hr;rw[k1]at k5;cases k5;refine⟨A,c,k2,k3,?_⟩;rcases k4 with k4|⟨b,k4,k6⟩
              · exact .inl k4
              · exact Z3z k6 hql |>.imp (fun z=>z) fun k=>⟨b,0,k4,k⟩
            · cases hes
          | rv id ver i n e' =>
            simp only[ZT]at hes;obtain⟨ob,hob,hes⟩:=Z0 hes;split at hes
            · rename_i t' es' p u
              obtain⟨hu,hes⟩:=Z3 hes;cases hes;simp only[jn,List.all_eq_true]at hu;obtain⟨hu,hlen⟩:=hu;have hu:u=ver:=je hu;subst hu;obtain⟨p',hp'⟩:=Z26 h (Zh (.rv id u i n e')) _ _ _ _ _ hob;obtain⟨hdr,k1,A,c,⟨k2,k3⟩,k4⟩:=hs1 id (by simp[Zh]) _ _ _ _ hp'
              obtain⟨a0,m,c0,a',c',k5,k7,k8,hle,hz⟩:=Zcg.1 hr;rw[k1,k2]at k5;cases k5;have hnl:((es'.drop i).take n).length=n:=by simp;omega
              refine⟨_,c',by rw[hnl];exact k7,by rw[hnl];exact k8,?_⟩
              rcases hz with hz|⟨b,hz1,hz2⟩
              · exact .inl (by rw[hz];simp)
              rcases k4 with k4|⟨b',k4,k6⟩
              · exact .inl (by rw[k4];simp)
              · rw[hz1]at k4
                cases k4;rcases Z3z (e':=e') k6 (fun c hc=>je (hlen c hc))with k|k
                · exact .inl (by rw[k];simp)
                · have:=Z30 n (Z2Z i k)
                  rw[Nat.zero_add]at this;exact Z3z this hql |>.imp (fun z=>z) fun k=>⟨_,i*e',hz2,k⟩
            · cases hes
          | _=>cases hes
        obtain⟨v,h2,h3⟩:=ZdV (P:=P) (w:=w) (hE t ti hti) hk (hE e ei hei) hsh (Z71 hx1 hlo) (Z71 hx1 hhr) h1;exact⟨_,v,w,β,G1,Yk (by unfold execOp;rw[ho]<;>rfl) h2,.inl rfl,fun d hd=>by cases hd;exact h3,hx1,hh1,Z84 _⟩
      | _=>rw[hk]at hd;cases hd
  | fieldAddr s x f =>
    rw[ho]at hd;simp only[Zx]at hd;obtain⟨ti,hti,hd⟩:=Z0 hd;obtain⟨dx,hx,hd⟩:=Z0 hd;split at hd
    · rename_i fs hk
      obtain⟨⟨ft,off⟩,hfs,hd⟩:=Z0 hd;obtain⟨fi,hfi,hd⟩:=Z0 hd;obtain⟨hq,hd⟩:=Z3 hd;obtain⟨d,h1,hd⟩:=Z0 hd;cases hd;obtain⟨v,h2,h3⟩:=Zau (P:=P) (w:=w) hE (hE s ti hti) hk hfs hfi (jf hq) (Zm hf hx) h1;exact Y0.pure hh (Yk (by unfold execOp;rw[ho]) h2) h3
    · cases hd
  | field s x f =>
    rw[ho]at hd;simp only[Zx]at hd;obtain⟨ti,hti,hd⟩:=Z0 hd;obtain⟨dx,hx,hd⟩:=Z0 hd;have:∃d,(match ti.k,dx with
      | .struct fs,.agg cs=>(fs[f]?).bind fun(ft,off)=>(E.ty ft).bind fun fi=>YL fi cs off
      | _,_=>none)=some d/\r=⟨some d,[]⟩:=by
      split at hd
      · rename_i hk2
        obtain⟨⟨ft,off⟩,hfs,hd⟩:=Z0 hd;obtain⟨fi,hfi,hd⟩:=Z0 hd;obtain⟨d,h1,hd⟩:=Z0 hd;cases hd;exact⟨d,by(try rw[hk2]);simp only at hfi h1;simp[hfs,hfi,h1],rfl⟩
      · cases hd
    obtain⟨d,h1,rfl⟩:=this;obtain⟨v,h2,h3⟩:=ZcW (P:=P) (w:=w) hE (hE s ti hti) h1 (Zm hf hx);exact Y0.pure hh (Yk (by unfold execOp;rw[ho]) h2) h3
  | indexAddr t x i =>
    rw[ho]at hd;simp only[Zx]at hd;obtain⟨ti,hti,hd⟩:=Z0 hd;obtain⟨dx,hx,hd⟩:=Z0 hd;obtain⟨di,hi,hd⟩:=Z0 hd;have hrx:=Zm hf hx;have hri:=Zm hf hi;cases hk:ti.k with
    | array len e =>
      rw[hk]at hd;obtain⟨ei,hei,hd⟩:=Z0 hd;obtain⟨j,hj,hd⟩:=Z0 hd;obtain⟨d,h1,hd⟩:=Z0 hd;cases hd;obtain⟨v,h2,h3⟩:=Zav (P:=P) (w:=w) (hE t ti hti) hk (hE e ei hei) hrx hri hj h1;exact Y0.pure hh (Yk (by unfold execOp;rw[ho]) h2) h3
    | slice e =>
      rw[hk]at hd;simp only at hd;obtain⟨ei,hei,hd⟩:=Z0 hd;cases dx with
      | sl es =>
        obtain⟨j,hj,hd⟩:=Z0 hd;obtain⟨c,hc,hd⟩:=Z0 hd;obtain⟨hq,hd⟩:=Z3 hd;cases hd;simp only[jn]at hq;have hcl:c.length=ei.size:=je hq.1;obtain⟨A,cap,⟨k1,k2⟩,k3⟩:=Z3i.1 hrx;rcases k3 with k3|⟨b,off,e',rfl,k4⟩
        · subst k3;simp at hc
        · obtain⟨m1,m2,m3⟩:=Zdw k4 hc
          have he:e'=ei.size:=by omega
          subst he;have h2:=Z5S (P:=P) (w:=w) (c:=cap) (A:=⟨b,off,none⟩) (hE t ti hti) hk (hE e ei hei) hri hj;refine Y0.pure hh (Yk (v:=.pointer (some ((⟨b,off,none⟩:Addr).add (j*ei.size)))) (by unfold execOp;rw[ho]) ?_) (Z3A.2 ⟨m1,b,off+j*ei.size,by rw[Yc],?_⟩)
          · rw[k1];exact h2
          · exact m2
      | rs id ver =>
        obtain⟨ob,hob,hd⟩:=Z0 hd;split at hd
        · rename_i t' es p u
          obtain⟨j,hj,hd⟩:=Z0 hd;obtain⟨hq,hd⟩:=Z3 hd;cases hd;simp only[jn]at hq;have hu:u=ver:=je hq.1;subst hu;obtain⟨k5,_⟩:=Z1i.1 hrx;obtain⟨hdr,vals,n1,n2,_⟩:=hh.obj id _ hob;rw[n1]at k5;cases k5;obtain⟨kk,hkk,hlt⟩:=Z53 hj hri;rcases n2.2 with⟨n3,n4⟩|⟨g,cap,cur,n3,_⟩
          · omega
          · have h2:=Z5S (P:=P) (w:=w) (c:=cap) (A:=⟨g,0,none⟩) (hE t ti hti) hk (hE e ei hei) hri hj
            refine Y0.pure hh (Yk (v:=.pointer (some ((⟨g,0,none⟩:Addr).add (j*ei.size)))) (by unfold execOp;rw[ho]) ?_) (Z1T.2 ⟨g,es.length,cap,by rw[n1,n3],by rw[Yc];simp⟩)
            rw[n3];exact h2
        · cases hd
      | _=>cases hd
    | _=>rw[hk]at hd;cases hd
  | index t x i =>
    rw[ho]at hd;simp only[Zx]at hd;obtain⟨ti,hti,hd⟩:=Z0 hd;obtain⟨dx,hx,hd⟩:=Z0 hd;obtain⟨di,hi,hd⟩:=Z0 hd;have:∃d,(match ti.k,dx with
      | .array len e,.agg cs=>(E.ty e).bind fun ei=>(Z37 len di).bind fun i=>YL ei cs (i*ei.size)
      | .string,.str s=>(Z37 s.size di).bind fun i=>(s[i]?).bind fun b=>some (.int .u8 b.toNat)
      | _,_=>none)=some d/\r=⟨some d,[]⟩:=by
      cases hk2:ti.k with
      | array len e =>
        rw[hk2]at hd;cases dx with
        | agg cs =>
          obtain⟨ei,hei,hd⟩:=Z0 hd;obtain⟨j,hj,hd⟩:=Z0 hd;obtain⟨d,h1,hd⟩:=Z0 hd;cases hd;exact⟨d,by simp[hei,hj,h1],rfl⟩
        | _=>cases hd
      | string =>
        rw[hk2]at hd;cases dx with
        | str s =>
          obtain⟨j,hj,hd⟩:=Z0 hd;obtain⟨d,h1,hd⟩:=Z0 hd;cases hd;exact⟨_,by simp[hj,h1],rfl⟩
        | _=>cases hd
      | _=>rw[hk2]at hd;cases hd
    obtain⟨d,h1,rfl⟩:=this;obtain⟨v,h2,h3⟩:=Zdd (P:=P) (w:=w) hE (hE t ti hti) h1 (Zm hf hx) (Zm hf hi);exact Y0.pure hh (Yk (by unfold execOp;rw[ho]) h2) h3
  | lookup t m k ok =>
    rw[ho]at hd;simp only[Zx]at hd;obtain⟨ti,hti,hd⟩:=Z0 hd;obtain⟨dm,hm,hd⟩:=Z0 hd;obtain⟨dk,hk,hd⟩:=Z0 hd;split at hd
    · rename_i kt e hkk
      obtain⟨ei,hei,hd⟩:=Z0 hd;obtain⟨ki,hki,hd⟩:=Z0 hd;obtain⟨hq,hd⟩:=Z3 hd;simp only[jn,Bool.not_eq_true']at hq;obtain⟨⟨hq1,hq2⟩,hq3⟩:=hq;obtain⟨es,hes,hd⟩:=Z0 hd;obtain⟨q,hfind,hd⟩:=Z0 hd;have hz1:∃z,ei.zero=[z]:=by
        obtain⟨i,zv,_,_,_,_,hzs,hzr⟩:=(hE e ei hei).info;have:=ZJ (hzr β G);have hsz:ei.size=1:=je hq2;have h1:ei.zero.length=1:=by simp at this;omega
        exact List.length_eq_one_iff.1 h1
      obtain⟨z,hz⟩:=hz1;obtain⟨v,h2,h3⟩:=ZbS (P:=P) (w:=w) hE hh (hE t ti hti) hkk (hE e ei hei) (hE kt ki hki) (Zm hf hk) hq1 hes hfind hz (je hq2) hq3 ok (Zm hf hm);rw[hz]at hd;cases q with
      | some d=>cases hd;exact Y0.pure hh (Yk (by unfold execOp;rw[ho]) h2) h3
      | none=>cases hd;exact Y0.pure hh (Yk (by unfold execOp;rw[ho]) h2) h3
    · cases hd
  | mapUpdate t m k x =>
    rw[ho]at hd;simp only[Zx]at hd;obtain⟨ti,hti,hd⟩:=Z0 hd;obtain⟨dm,hm,hd⟩:=Z0 hd;obtain⟨dk,hk,hd⟩:=Z0 hd;obtain⟨dx,hx,hd⟩:=Z0 hd;cases hkk:ti.k with
    | map kt e =>
      rw[hkk]at hd;cases dm with
      | map id =>
        obtain⟨ki,hki,hd⟩:=Z0 hd;obtain⟨ob,hob,hd⟩:=Z0 hd;split at hd
        · rename_i es
          obtain⟨hq,hd⟩:=Z3 hd;simp only[jn]at hq;obtain⟨es',hes,hd⟩:=Z0 hd;cases hd;obtain⟨w',h2,h3,h4⟩:=Z8I (P:=P) (nid:=nid) hh (hE t ti hti) hkk (hE kt ki hki) (Zm hf hm) (Zm hf hk) (Zm hf hx) hq.2 hq.1.1 hob hes;exact⟨.skip,undef,w',β,G,Zjj (by unfold execOp;rw[ho]) h2,.inr ⟨rfl,rfl⟩,fun d hd=>by cases hd;exact Z40,Ext.refl β G,h3,h4⟩
        · cases hd
      | _=>cases hd
    | _=>rw[hkk]at hd;cases hd
  | range t x =>
    rw[ho]at hd;simp only[Zx]at hd;obtain⟨ti,hti,hd⟩:=Z0 hd;obtain⟨dx,hx,hd⟩:=Z0 hd;have hdesc:=(hE t ti hti).desc;have hr:=Zm hf hx;cases hk:ti.k with
    | string =>
      rw[hk]at hd hdesc;cases dx with
      | str s =>
        rw[Yg]at hr;cases hd;obtain⟨β',h1,h2,h3,h4⟩:=ZgP hh hfr s;refine⟨_,.pointer (some ⟨w.heap.size,0,none⟩),_,β',G,Yk (by unfold execOp;rw[ho]) ?_,.inl rfl,fun d hd=>by cases hd;exact Z79.2 ⟨_,h2,rfl⟩,h1,h3,h4⟩
        simp[Instr.range,ji hdesc,hr]
      | _=>cases hd
    | map kt et =>
      rw[hk]at hd hdesc;cases dx with
      | map id =>
        simp only at hd;obtain⟨ob,hob,hd⟩:=Z0 hd;cases ob with
        | map es =>
          cases hd;obtain⟨b,hb,hv⟩:=Z7a.1 hr;obtain⟨b',ms,clock,k1,k2,k3,k4,k5⟩:=hh.obj id _ hob;rw[hb]at k1;cases k1;have hsz:es.length=clock:=by have:=Z58 k3;rw[k5,<-this];simp
          obtain⟨β',h1,h2,h3,h4⟩:=ZiT hh hfr id b es.length hb;refine⟨_,.pointer (some ⟨w.heap.size,0,none⟩),_,β',G,Yk (by unfold execOp;rw[ho]) ?_,.inl rfl,fun d hd=>by cases hd;exact Z79.2 ⟨_,h2,rfl⟩,h1,h3,h4⟩
          have hget:(getObj b).run P w=.ok (.map ms clock) w:=by simp[getObj,Sem.run,k2]
          simp[Instr.range,ji hdesc,hv,hget,hsz]
        | _=>cases hd
      | _=>cases hd
    | _=>rw[hk]at hd;cases hd
  | next it s =>
    cases s with
    | false=>rw[ho]at hd;simp[Zx]at hd
    | true =>
      rw[ho]at hd;simp only[Zx]at hd;obtain⟨d,h1,hd⟩:=Z0 hd;split at hd
      · rename_i id
        obtain⟨ob,hob,hd⟩:=Z0 hd;split at hd
        · rename_i s pos
          obtain⟨b,hb,hv⟩:=Z79.1 (Zm hf h1);obtain⟨b',hb',hw⟩:=hh.obj id _ hob;rw[hb]at hb';cases hb'
          by_cases hp:pos<s.size
          · simp only[hp,decide_true,jB]at hd
            cases hd;have hh':=Z48 (o':=.siter s (pos+(Utf8.decode s pos).2)) (ob':=.stringIter s (pos+(Utf8.decode s pos).2)) hh hob hb hw (by simp) (fun x hx=>by simp[Yf]at hx;rw[hb]at hx;cases hx;rfl)
              ⟨b,hb,by simp[World.putObj_heap_same (ja.1 hw).1]⟩
            refine⟨_,.tuple #[.bool true,.int .i64 (pos:Nat),.int .i32 (Utf8.decode s pos).1],_,β,G,Yk (by unfold execOp;rw[ho]) ?_,.inl rfl,fun d hd=>?_,Ext.refl β G,hh',Z7E hob⟩
            · simp[Instr.next,hv,Z44 hw,hp,goInt,Za5 (P:=P) hw (by simp),Result.andThen]
            · cases hd
              exact Ys.2 ⟨[.bool true,.int .i64 (pos:Nat),.int .i32 (Utf8.decode s pos).1],rfl,Za.2 ⟨_,_,rfl,ZH.2 rfl,Za.2 ⟨_,_,rfl,Zu.2 rfl,Za.2 ⟨_,_,rfl,Zu.2 rfl,Zg.2 rfl⟩⟩⟩⟩
          · simp only[hp,decide_false,jA]at hd
            cases hd;refine Y0.pure hh (Yk (v:=.tuple #[.bool false]) (by unfold execOp;rw[ho]) ?_) (Ys.2 ⟨[.bool false],rfl,Za.2 ⟨_,_,rfl,ZH.2 rfl,Zg.2 rfl⟩⟩)
            simp[Instr.next,hv,Z44 hw,hp,Result.andThen]
        · cases hd
      · cases hd
  | extract t i =>
    rw[ho]at hd;simp only[Zx]at hd;obtain⟨dx,hx,hd⟩:=Z0 hd;split at hd
    · rename_i vs
      obtain⟨d,h1,hd⟩:=Z0 hd;cases hd;obtain⟨us,he,hr⟩:=Ys.1 (Zm hf hx);obtain⟨v,h2,h3⟩:=Z3X hr h1;refine Y0.pure hh (Yk (v:=v) (by unfold execOp;rw[ho]) ?_) h3
      simp[Instr.extract,he,h2]
    · cases hd
  | _=>rw[ho]at hd;simp[Zx]at hd
end
end Go.Ab
namespace Go.Ab
namespace Tr
variable {α:Type}
theorem beq_dec (a b:Nat):Nat.beq a b=decide (a=b):=by
 by_cases h:a=b
 ·subst h;simp
 ·have:Nat.beq a b=false:=by
   cases hq:Nat.beq a b with
   | false=>rfl
   | true=>exact absurd (je hq) h
  simp[this,h]
theorem blt_dec (a b:Nat):Nat.blt a b=decide (a<b):=by
 by_cases h:a<b
 ·have c:Nat.blt a b=true:=Nat.ble_eq_true_of_le h;rw[c];simp[h]
 ·have:Nat.blt a b=false:=by
   cases hq:Nat.blt a b with
   | false=>rfl
   | true=>exact absurd (jf hq) h
  simp[this,h]
theorem get_leaf (k:Nat):(leaf:Tr α).get k=none:=rfl
theorem get_node (l r:Tr α) (v:Option α) (k:Nat):(node l v r).get k=if k=0 then v else if k % 2=1 then l.get (k / 2)else r.get (k / 2-1):=by
 rw[get,beq_dec,beq_dec]
 by_cases h:k=0
 ·simp[h]
 ·by_cases h2:k % 2=1<;>simp[h,h2]
theorem get_setAux:∀(n:Nat) (t:Tr α) (k:Nat) (v:Option α) (k':Nat),k<n->(setAux n t k v).get k'=if k'=k then v else t.get k'
 | 0,_,_,_,_,h=>by omega
 | n+1,.leaf,k,v,k',h=>by
  rw[setAux,beq_dec,beq_dec]
  by_cases h0:k=0
  ·subst h0;simp only[decide_true,jB,get_node,get_leaf]
   by_cases e:k'=0<;>simp[e]
  ·by_cases h1:k % 2=1
   ·simp only[h0,h1,decide_true,decide_false,jB,jA,get_node,get_leaf]
    by_cases e0:k'=0
    ·have:k'≠k:=by omega
     simp[e0];omega
    ·by_cases e1:k' % 2=1
     ·rw[if_neg e0,if_pos e1,get_setAux n .leaf (k / 2) v (k' / 2) (by omega),get_leaf]
      by_cases e:k'=k
      ·subst e;simp
      ·rw[if_neg e,if_neg (by omega)]
     ·rw[if_neg e0,if_neg e1];have:k'≠k:=by omega
      simp[this]
   ·simp only[h0,h1,decide_false,jA,get_node,get_leaf]
    by_cases e0:k'=0
    ·have:k'≠k:=by omega
     simp[e0];omega
    ·by_cases e1:k' % 2=1
     ·rw[if_neg e0,if_pos e1];have:k'≠k:=by omega
      simp[this]
     ·rw[if_neg e0,if_neg e1,get_setAux n .leaf (k / 2-1) v (k' / 2-1) (by omega),get_leaf]
      by_cases e:k'=k
      ·subst e;simp
      ·rw[if_neg e,if_neg (by omega)]
 | n+1,.node l x r,k,v,k',h=>by
  rw[setAux,beq_dec,beq_dec]
  by_cases h0:k=0
  ·subst h0;simp only[decide_true,jB,get_node]
   by_cases e:k'=0<;>simp[e]
  ·by_cases h1:k % 2=1
   ·simp only[h0,h1,decide_true,decide_false,jB,jA,get_node]
    by_cases e0:k'=0
    ·have:¬(0=k):=by omega
     simp[e0,this]
    ·by_cases e1:k' % 2=1
     ·simp only[if_neg e0,if_pos e1,get_setAux n l (k / 2) v (k' / 2) (by omega)]
      by_cases e:k'=k
      ·subst e;simp
      ·rw[if_neg e,if_neg (by omega)]
     ·have:k'≠k:=by omega
      simp[e0,e1,this]
   ·simp only[h0,h1,decide_false,jA,get_node]
    by_cases e0:k'=0
    ·have:¬(0=k):=by omega
     simp[e0,this]
    ·by_cases e1:k' % 2=1
     ·have:k'≠k:=by omega
      simp[e0,e1,this]
     ·simp only[if_neg e0,if_neg e1,get_setAux n r (k / 2-1) v (k' / 2-1) (by omega)]
      by_cases e:k'=k
      ·subst e;simp
      ·rw[if_neg e,if_neg (by omega)]
theorem get_set (t:Tr α) (k:Nat) (v:Option α) (k':Nat):(t.set k v).get k'=if k'=k then v else t.get k':=get_setAux _ t k v k' (by omega)
theorem mkn_get (l:Tr α) (v:Option α) (r:Tr α) (k:Nat):(mkn l v r).get k=(Tr.node l v r).get k:=by
 unfold mkn;split
 ·simp[get]
 ·rfl
theorem tm_get (f:Nat->α->Option (Option α)):∀(t t':Tr α) (a b:Nat),tm f t a b=some t' →
  ∀k,(t.get k=none/\t'.get k=none)\/∃x y,t.get k=some x/\f (a*k+b) x=some y/\t'.get k=y
 | .leaf,t',a,b,h,k=>by
  simp only[tm,jh]at h;subst h;exact .inl ⟨rfl,rfl⟩
 | .node l v r,t',a,b,h,k=>by
  simp only[tm]at h;obtain⟨l',c,h⟩:=Z0 h;obtain⟨v',hv,h⟩:=Z0 h;obtain⟨r',hr,h⟩:=Z0 h;cases h;rw[mkn_get,get_node,get_node]
  by_cases e0:k=0
  ·subst e0;simp only[if_true,Nat.mul_zero,Nat.zero_add];cases v with
   | none=>cases hv;exact .inl ⟨rfl,rfl⟩
   | some x=>exact .inr ⟨x,v',rfl,hv,rfl⟩
  ·by_cases e1:k % 2=1
   ·simp only[if_neg e0,if_pos e1];have:=tm_get f l l' _ _ c (k / 2)
    rwa [show 2*a*(k / 2)+(a+b)=a*k+b by
     have:k=2*(k / 2)+1:=by omega
     generalize k / 2=m at this;subst this;rw[Nat.mul_add,<-Nat.mul_assoc,Nat.mul_comm a 2];omega]at this
   ·simp only[if_neg e0,if_neg e1];have:=tm_get f r r' _ _ hr (k / 2-1)
    rwa [show 2*a*(k / 2-1)+(2*a+b)=a*k+b by
     have:k=2*(k / 2-1)+2:=by omega
     generalize k / 2-1=m at this;subst this;rw[Nat.mul_add,<-Nat.mul_assoc,Nat.mul_comm a 2];omega]at this
theorem filt_get (m:Nat):∀(t:Tr α) (a b k:Nat),(t.filt m a b).get k=bif Nat.testBit m (a*k+b)then t.get k else none
 | .leaf,a,b,k=>by cases Nat.testBit m (a*k+b)<;>rfl
 | .node l v r,a,b,k=>by
  simp only[filt];rw[mkn_get,get_node,get_node]
  by_cases e0:k=0
  ·subst e0;simp only[if_true,Nat.mul_zero,Nat.zero_add]
  ·by_cases e1:k % 2=1
   ·simp only[if_neg e0,if_pos e1];rw[filt_get m l,show 2*a*(k / 2)+(a+b)=a*k+b by
     have:k=2*(k / 2)+1:=by omega
     generalize k / 2=m at this;subst this;rw[Nat.mul_add,<-Nat.mul_assoc,Nat.mul_comm a 2];omega]
   ·simp only[if_neg e0,if_neg e1];rw[filt_get m r,show 2*a*(k / 2-1)+(2*a+b)=a*k+b by
     have:k=2*(k / 2-1)+2:=by omega
     generalize k / 2-1=m at this;subst this;rw[Nat.mul_add,<-Nat.mul_assoc,Nat.mul_comm a 2];omega]
theorem filt_sub {m:Nat} {t:Tr α} {k:Nat} {x:α} (h:(t.filt m 1 0).get k=some x):t.get k=some x:=by
 rw[filt_get]at h;cases hm:Nat.testBit m (1*k+0)with
 | true=>rw[hm]at h;exact h
 | false=>rw[hm]at h;cases h
theorem tm_get1 {f:Nat->α->Option (Option α)} {t t':Tr α} (h:tm f t 1 0=some t') (k:Nat):(t.get k=none/\t'.get k=none)\/∃x y,t.get k=some x/\f k x=some y/\t'.get k=y:=by
 have:=tm_get f t t' 1 0 h k;simpa using this
end Tr
theorem Z2y (o:Tr Zb):∀(us:List (Nat×Option Zb)) (i:Nat),(Y3 o us).get i=Zy o.get us i:=by
 intro us
 induction us generalizing o with
 | nil=>intro i;rfl
 | cons u us ih =>
  intro i;obtain⟨j,x⟩:=u;rw[Y3,ih,];unfold Zy;simp only[Zq];cases hq:Zq i us with
  | some y=>rfl
  | none =>
   rw[Tr.get_set,Tr.beq_dec]
   by_cases e:i=j
   ·subst e;simp
   ·have:¬j=i:=fun h=>e h.symm;simp[e,this]
end Go.Ab
namespace Go.Ab
open Go.RowKit
def fw (ro:Option Nat):Fence:={ Fence.wide with round:=ro }
def ZhE (d:Nat):Deferred:={ target:=.collected d,args := #[] }
def Zh0 (P:Program) (g:FuncId):Prop:=∀(n:Nat) (cap:Array Value) (w:World),(invoke (.fn (.func g) cap) #[]).run P w=.ok (.enter g cap) w ∧
 CallsDIn Fence.wide n P g cap .returning w fun e u' w'=>(∃v,e=.returned v)/\u'=.returning/\w'=w
inductive Z6y (E:Env):List Nat->List Deferred->Prop where
 | nil:Z6y E [] []
 | mark {own:List Nat} {ds:List Deferred} (d:Nat):Z6y E own ds->Z6y E (d::own) (ZhE d::ds)
 | fn {own:List Nat} {ds:List Deferred} {g:Nat} (cap:Array Value):E.dfr g=true->Z6y E own ds->Z6y E own ({ target:=.fn (.func g) cap,args := #[] }::ds)
structure Go2 (nx:Nat) (β:Bi) (G:Gh) (β':Bi) (G':Gh) (h h':Nat->Option Zb):Prop where
 ext:Ext β G β' G'
 keep:∀id,id<nx->YN β β' h h' id
theorem Go2.refl (nx:Nat) (β:Bi) (G:Gh) (h:Nat->Option Zb):Go2 nx β G β G h h:=⟨Ext.refl β G,fun id _=>YN.refl β h id⟩
theorem Go2.trans {nx:Nat} {β β' β'':Bi} {G G' G'':Gh} {h h' a:Nat->Option Zb} (x:Go2 nx β G β' G' h h') (y:Go2 nx β' G' β'' G'' h' a):Go2 nx β G β'' G'' h a :=
 ⟨x.ext.trans y.ext,fun id hi=>(x.keep id hi).trans (y.keep id hi)⟩
theorem Go2.less {nx nx':Nat} {β β':Bi} {G G':Gh} {h h':Nat->Option Zb} (x:Go2 nx β G β' G' h h') (a:nx'<=nx):Go2 nx' β G β' G' h h':=⟨x.ext,fun id hi=>x.keep id (Nat.lt_of_lt_of_le hi a)⟩
structure MI (E:Env) (w0:World) (G0:Gh) (outer:DD) (V nt:Nat) (own:List Nat) (ρ:Nat->Option DV) (base:Tr DV) (h:Nat->Option Zb) (nx:Nat) (a:Act) (w:World) (β:Bi) (G:Gh):Prop where
 fr:FrM β G ρ a.tmps
 dom:∀t d,base.get t=some d->Nat.testBit V t=true
 sz:a.tmps.size=nt
 hr:HR E w0 G0 (Yu own outer) w β G h
 fresh:∀id,nx<=id->ZE β h id
 df:Z6y E own a.defers/\Z8Y own outer
def YC (P:Program) (g:FuncId):Prop:=∀args w,(callFunc g args).run P w=.ok (.enter g args) w
def Z33 (P:Program) (E:Env) (call:Nat->List DV->Option DV):Prop:=∀g as d,call g as=some d->YC P g ∧
 ∀(w:World) (β:Bi) (G:Gh) (vs:Array Value),E.inv w->(∀b o v,G b o=some v->w.cell? ⟨b,o,none⟩=some v)->Ze β G as vs.toList->Zc as=true →
  Calls P g vs w fun e w'=>∃v G',e=.returned v/\Below w.heap.size w w'/\(∀b,b<w.heap.size->G' b=G b)/\(∀b o v,G' b o=some v->w'.cell? ⟨b,o,none⟩=some v)/\Zf d=true/\Rep β G' d v
def YI (E:Env) (w0:World) (G0:Gh) (D:DD) (β:Bi) (G:Gh) (objs:Tr Zb) (nx:Nat) (r:DV) (objs':Tr Zb) (nx':Nat) (e:Ending) (w':World):Prop :=
 ∃v β' G',e=.returned v/\nx<=nx'/\Go2 nx β G β' G' objs.get objs'.get/\HR E w0 G0 D w' β' G' objs'.get/\(∀id,nx'<=id->ZE β' objs'.get id)/\Rep β' G' r v
def YT (P:Program) (E:Env) (callH:Yb):Prop:=∀g as objs nx r objs' nx',callH g as objs nx=some (r,objs',nx')->YC P g ∧
 ∀(w0:World) (G0:Gh) (D:DD) (w:World) (β:Bi) (G:Gh) (vs:Array Value),HR E w0 G0 D w β G objs.get->(∀id,nx<=id->ZE β objs.get id)->Ze β G as vs.toList →
  Calls P g vs w (YI E w0 G0 D β G objs nx r objs' nx')
def Z1c (P:Program) (E:Env) (callY:Yb):Prop:=∀l as objs nx r objs' nx',callY l as objs nx=some (r,objs',nx') →
 ∀(w0:World) (G0:Gh) (D:DD) (w:World) (β:Bi) (G:Gh) (vs:Array Value) (b:Nat),β.blk l=some b->HR E w0 G0 D w β G objs.get->(∀id,nx<=id->ZE β objs.get id)->Ze β G as vs.toList →
  ∃lf tm as' bo,(Instr.yield b vs).run P w=.ok (.round b lf tm as' bo) w/\∀n,RoundIn Fence.wide n P b lf tm as' bo w (YI E w0 G0 D β G objs nx r objs' nx')
section
variable {P:Program} {E:Env} {w0:World} {G0:Gh} {D:DD} {o:Oper} {a:Act} {w:World} {β:Bi} {G:Gh} {h:Nat->Option Zb} {nid:Nat} {ρ:Nat->Option DV} {ro:Option Nat} {n:Nat}
theorem Z6E {g:FuncId} {args:Array Value} {R:Ending->World->Prop} (h:Calls P g args w R):CallsIn (fw ro) n P g args w R:=by
 have:=(callsIn_wide (n:=n)).2 h;exact this
theorem Zi3 {l:Nat} {f:FuncId} {tm:Array Value} {as bo:Code} {R:Ending->World->Prop} (h:RoundIn Fence.wide n P l f tm as bo w R):RoundIn (fw ro) n P l f tm as bo w R:=h
theorem HR.grow {w':World} {G':Gh} (hh:HR E w0 G0 D w β G h) (e:Below w.heap.size w w') (g:∀b,b<w.heap.size->G' b=G b) (i:∀b o v,G' b o=some v->w'.cell? ⟨b,o,none⟩=some v) :
  HR E w0 G0 D w' β G' h/\Ext β G β G':=by
 have m:Ext β G β G':=⟨fun b o v j=>by
  have a:b<w.heap.size:=by
   rcases Nat.lt_or_ge b w.heap.size with l|l
   ·exact l
   ·rw[glt hh l o]at j;cases j
  rw[g b a];exact j,fun _ _ h=>h,fun _ _ _ h=>h⟩
 refine⟨⟨?_,?_,i,?_,?_,hh.inj,?_,hh.inv0⟩,m⟩
 ·exact hh.below.trans ⟨e.os,e.tape,e.output,e.size,fun k p=>e.block k (by have:=hh.below.size;omega)⟩
 ·intro b a;rw[<-hh.g0 b a];exact g b (by have:=hh.below.size;omega)
 ·intro id ob f;refine Z1M.keep m (fun _=>rfl) (fun b c=>?_) (hh.obj id ob f);have a:=(hh.own id ob b f c).2.1;exact⟨e.block b a,fun off=>by rw[g b a]⟩
 ·intro id ob b f c;obtain⟨k1,k2,k3⟩:=hh.own id ob b f c;exact⟨k1,Nat.lt_of_lt_of_le k2 e.size,k3⟩
 ·intro d x n;obtain⟨k1,k2,k3⟩:=hh.marks d x n;have a:=(ja.1 k2).1;exact⟨k1,(e.block d a).trans k2,fun o=>by rw[g d a];exact k3 o⟩
theorem Z9i {nid:Nat} {op:Op} {r:Out} (a:Zx E nid ρ h op=some r):∀c,op≠.defer c:=fun c hc=>by
 subst hc;simp[Zx]at a
def Zeg (P:Program) (E:Env) (w0:World) (G0:Gh) (D:DD) (ro:Option Nat) (n:Nat) (o:Oper) (a:Act) (w:World) (β:Bi) (G:Gh) (h:Nat->Option Zb) (nid:Nat) (r:Out):Prop :=
 ∀(K:Act->World->Prop) (Q:Exit->Act->World->Prop),(∀v w' β' G',(∀d,r.val=some d->Rep β' G' d v)->Ext β G β' G'->HR E w0 G0 D w' β' G' (Zy h r.upd)->Z2l β β' h (Zy h r.upd) nid->K (a.put o.dst v) w')->o.wpIn (fw ro) n P a w K Q
theorem Y0.step {r:Out} (b:∀c,o.op≠.defer c) (hr:Y0 P E w0 G0 D o a w β G h nid r):Zeg P E w0 G0 D ro n o a w β G h nid r:=fun K Q g=>by
 obtain⟨nx,v,w',β',G',l,k,d,i,j,e⟩:=hr;refine⟨fun f _=>trivial,?_⟩;rw[Oper.semAt_eq _ _ _ b,l];rcases k with rfl|⟨rfl,rfl⟩
 ·rw[Oper.uponIn_value];exact g v w' β' G' d i j e
 ·rw[Oper.uponIn_skip];exact g undef w' β' G' d i j e
theorem Z2R {ds es:List DV} {as bs:List Value} (a:Ze β G ds as) (b:Ze β G es bs):Ze β G (ds++es) (as++bs):=Y2.2 ⟨as,bs,rfl,a,b⟩
theorem Z89 (hE:∀t ti,E.ty t=some ti->ZL P t ti) (e:FrM β G ρ a.tmps) {c:Call} {g:FuncId} {x y:List DV} {as:List DV} (q:o.op=.call c) (ht:target E ρ c=some (.fn (.func g) x y,as)) (s:YC P g) :
  ∃vs:Array Value,(execOp a.eval o).run P w=.ok (.enter g vs) w/\Ze β G as vs.toList:=by
 unfold target at ht;split at ht
 ·rename_i f hc;obtain⟨df,j,ht⟩:=Z0 ht;split at ht
  ·rename_i g' first caps
   obtain⟨as',b,ht⟩:=Z0 ht;cases ht;obtain⟨vf,vc,hv,n,h⟩:=Zcf.1 (Zm e j);refine⟨vf.toArray++c.args.map a.eval++vc.toArray,?_,?_⟩
   ·unfold execOp;rw[q];have p:=s (vf.toArray++c.args.map a.eval++vc.toArray) w;simpa[resolve,hc,hv,Deferred.ofValue,invoke]using p
   ·have:=Z2R (Z2R n (Z1C e b)) h;simpa using this
  ·obtain⟨as',b,ht⟩:=Z0 ht;cases ht
  ·cases ht
 ·rename_i rv m hc;obtain⟨df,j,ht⟩:=Z0 ht;split at ht
  ·rename_i t v;obtain⟨ti,l,ht⟩:=Z0 ht;obtain⟨g',z,ht⟩:=Z0 ht;obtain⟨as',b,ht⟩:=Z0 ht;cases ht;obtain⟨u,hu,hr⟩:=Z7Y.1 (Zm e j);refine⟨#[u]++c.args.map a.eval,?_,?_⟩
   ·unfold execOp;rw[q];have r:=(hE t ti l).meth m g z u (c.args.map a.eval) w;have p:=s (#[u]++c.args.map a.eval) w;rw[p]at r;have i:(#[Value.iface t u]++c.args.map a.eval).extract 1 (#[Value.iface t u]++c.args.map a.eval).size=c.args.map a.eval:=by
     rw[Array.extract_append];simp
    have k:(#[Value.iface t u]++c.args.map a.eval)[0]? = some (.iface t u):=by
     rw[Array.getElem?_append_left (by simp)];rfl
    simp only[resolve,hc,hu];show((Pure.pure ({ target:=.fn (.method m) #[],args := #[Value.iface t u]++c.args.map a.eval }:Deferred):Sem Deferred) >>= fun d=>invoke d.target d.args).run P w=_;simp only[pure_bind];unfold invoke;simp only[k,i];exact r
   ·have:=Za.2 ⟨u,_,rfl,hr,Z1C e b⟩;simpa using this
  ·cases ht
 ·cases ht
theorem Zfg (e:FrM β G ρ a.tmps) {c:Call} {l:Nat} {as:List DV} (h:o.op=.call c) (ht:target E ρ c=some (.yld l,as)) :
  ∃(vs:Array Value) (b:Nat),β.blk l=some b/\execOp a.eval o=Instr.yield b vs/\Ze β G as vs.toList:=by
 unfold target at ht;split at ht
 ·rename_i f hc;obtain⟨df,g,ht⟩:=Z0 ht;split at ht
  ·obtain⟨as',d,ht⟩:=Z0 ht;cases ht
  ·rename_i id;obtain⟨as',d,ht⟩:=Z0 ht;cases ht;obtain⟨b,j,hv⟩:=ZfY.1 (Zm e g);refine⟨c.args.map a.eval,b,j,?_,by simpa using Z1C e d⟩
   unfold execOp;rw[h];simp[resolve,hc,hv,Deferred.ofValue,invoke]
  ·cases ht
 ·obtain⟨df,g,ht⟩:=Z0 ht;split at ht
  ·obtain⟨ti,i,ht⟩:=Z0 ht;obtain⟨g',k,ht⟩:=Z0 ht;obtain⟨as',d,ht⟩:=Z0 ht;cases ht
  ·cases ht
 ·cases ht
theorem Z3w {op:Op} {c:Call} (h:Z38 op=some c):op=.call c:=by
 unfold Z38 at h;split at h
 ·split at h
  ·cases h;rfl
  ·cases h;rfl
  ·cases h
 ·cases h
mutual
theorem Zbr {β β':Bi} {G G':Gh}:∀{d d':DV} {v:Value},Yv d=some d'->Rep β' G' d v->Rep β G d' v
 | .bool _,_,_,h,hr=>by simp only[Yv,jh]at h;subst h;unfold Rep at hr⊢;exact hr
 | .int _ _,_,_,h,hr=>by simp only[Yv,jh]at h;subst h;unfold Rep at hr⊢;exact hr
 | .str _,_,_,h,hr=>by simp only[Yv,jh]at h;subst h;unfold Rep at hr⊢;exact hr
 | .sl _,_,_,h,hr=>by
  simp only[Yv,jh]at h;subst h;obtain⟨a,c,⟨e,b⟩,_⟩:=Z3i.1 hr;exact ZdH.2 ⟨a,c,e,b⟩
 | .tup vs,_,_,h,hr=>by
  simp only[Yv]at h;obtain⟨vs',e,h⟩:=Z0 h;cases h;obtain⟨us,rfl,b⟩:=Ys.1 hr;exact Ys.2 ⟨us,rfl,Zam e b⟩
 | .nilp,_,_,h,_=>by simp[Yv]at h
 | .ptr _ _,_,_,h,_=>by simp[Yv]at h
 | .rptr _ _ _ _ _,_,_,h,_=>by simp[Yv]at h
 | .pub _,_,_,h,_=>by simp[Yv]at h
 | .nils,_,_,h,_=>by simp[Yv]at h
 | .rs _ _,_,_,h,_=>by simp[Yv]at h
 | .rv _ _ _ _ _,_,_,h,_=>by simp[Yv]at h
 | .slen _,_,_,h,_=>by simp[Yv]at h
 | .agg _,_,_,h,_=>by simp[Yv]at h
 | .fn _ _ _,_,_,h,_=>by simp[Yv]at h
 | .nilfn,_,_,h,_=>by simp[Yv]at h
 | .map _,_,_,h,_=>by simp[Yv]at h
 | .nilmap,_,_,h,_=>by simp[Yv]at h
 | .iface _ _,_,_,h,_=>by simp[Yv]at h
 | .nilif,_,_,h,_=>by simp[Yv]at h
 | .iter _,_,_,h,_=>by simp[Yv]at h
 | .yld _,_,_,h,_=>by simp[Yv]at h
theorem Zam {β β':Bi} {G G':Gh}:∀{ds ds':List DV} {vs:List Value},Z5r ds=some ds'->Ze β' G' ds vs->Ze β G ds' vs
 | [],_,_,h,hr=>by simp only[Z5r,jh]at h;subst h;rw[Zg]at hr⊢;exact hr
 | d::ds,_,_,h,hr=>by
  simp only[Z5r]at h;obtain⟨d',b,h⟩:=Z0 h;obtain⟨ds',a,h⟩:=Z0 h;cases h;obtain⟨v,vs,rfl,k1,k2⟩:=Za.1 hr;exact Za.2 ⟨v,vs,rfl,Zbr b k1,Zam a k2⟩
end
theorem ZbE (hE:∀t ti,E.ty t=some ti->ZL P t ti) {call:Nat->List DV->Option DV} (hp:Z33 P E call) (hf:FrM β G ρ a.tmps) (hh:HR E w0 G0 D w β G h) {c:Call} (ho:o.op=.call c) {r:Out} (j:Z4Z E call ρ h c=some r) :
  Zeg P E w0 G0 D ro n o a w β G h nid r:=fun K Q hk=>by
 unfold Z4Z at j;obtain⟨tg,ht,j⟩:=Z0 j;split at j
 ·rename_i g x y as;obtain⟨fs,hfs,j⟩:=Z0 j;obtain⟨d,hcall,j⟩:=Z0 j;obtain⟨a0,hcs⟩:=hp g fs d hcall;cases l:as.any Zhv with
  | true =>
   rw[l]at j;simp only[jB]at j;obtain⟨d',hwk,j⟩:=Z0 j;cases j;obtain⟨vs,q,s⟩:=Z89 (w:=w) hE hf ho ht a0;obtain⟨G1,m,z,hs1⟩:=Z1I hh (Zi as);obtain⟨hr1,hid⟩:=Z7B m (Z26 h _) (fun i t es p u hi c hc=>by obtain⟨_,_,_,_,_,k,_⟩:=hh.obj _ _ hi;exact(k c hc).1) hfs hs1 s
   have hC:=hcs w β G1 vs hh.inv z.agree hr1 hid;refine⟨fun f _=>trivial,?_⟩;rw[Oper.semAt_eq _ _ _ (by rw[ho];simp),q,Oper.uponIn_enter]
   refine⟨fun hq=>by simp[fw,Fence.wide]at hq,Z6E (Calls.mono hC fun e w' he=>?_)⟩
   obtain⟨v,G',rfl,hb,hg,a2,_,l⟩:=he;have hagG:∀b o v,G b o=some v->w'.cell? ⟨b,o,none⟩=some v:=fun b o v hq=>by
    have hlt:b<w.heap.size:=by
     rcases Nat.lt_or_ge b w.heap.size with h1|h1
     ·exact h1
     ·rw[glt hh h1 o]at hq;cases hq
    exact a2 b o v (by rw[hg b hlt];exact m.g b o v hq)
   obtain⟨hh2,a1⟩:=hh.grow hb (fun _ _=>rfl) hagG;exact hk v w' β G (fun d'' hd'=>by cases hd';exact Zbr hwk l) a1 hh2 (Z2l.refl _ _ _)
  | false =>
  rw[l]at j;simp only[jA]at j;cases j;obtain⟨vs,q,s⟩:=Z89 (w:=w) hE hf ho ht a0;obtain⟨G1,m,z,hs1⟩:=Z1I hh (Zi as);obtain⟨hr1,hid⟩:=Z7B m (Z26 h _) (fun i t es p u hi c hc=>by obtain⟨_,_,_,_,_,k,_⟩:=hh.obj _ _ hi;exact(k c hc).1) hfs hs1 s
  have hC:=hcs w β G1 vs hh.inv z.agree hr1 hid;refine⟨fun f _=>trivial,?_⟩;rw[Oper.semAt_eq _ _ _ (by rw[ho];simp),q,Oper.uponIn_enter]
  refine⟨fun hq=>by simp[fw,Fence.wide]at hq,Z6E (Calls.mono hC fun e w' he=>?_)⟩
  obtain⟨v,G',rfl,hb,hg,a2,_,l⟩:=he;obtain⟨hh2,a1⟩:=z.grow hb hg a2;refine hk v w' β G' (fun d' hd'=>by cases hd';exact l) (m.trans a1) hh2 (Z84 _)
 ·cases j
theorem Z8l (hE:∀t ti,E.ty t=some ti->ZL P t ti) {call:Nat->List DV->Option DV} (f:Z33 P E call) (e:FrM β G ρ a.tmps) (hh:HR E w0 G0 D w β G h) (d:ZE β h nid) {r:Out}
  (b:Z8k E call nid ρ h o.op=some r):Zeg P E w0 G0 D ro n o a w β G h nid r:=by
 unfold Z8k at b;split at b
 ·rename_i c hc;exact ZbE hE f e hh (Z3w hc) b
 ·exact(Zev hE e hh d b).step (Z9i b)
end
end Go.Ab
namespace Go.Ab
open Go.RowKit
section
variable {P:Program} {E:Env} {w0:World} {G0:Gh} {D:DD} {w:World} {β:Bi} {G:Gh} {h:Nat->Option Zb}
def Z2P (h:Nat->Option Zb) (i:Nat):Bool:=match h i with|some (.row _ _ p _)=>Nat.beq p 1|_=>false
theorem ZgO (h:Nat->Option Zb) (is:List Nat):Zo h (is.filter (Z2P h))=[]:=by
 induction is with
 | nil=>rfl
 | cons i is ih =>
  rw[List.filter_cons];cases hq:Z2P h i with
  | false=>simpa using ih
  | true =>
   simp only[if_true,Zo,ih,jo];unfold Z2P at hq;split at hq
   ·rename_i p _ hi;rw[hi];simp only[hq,jB]
   ·cases hq
theorem Zd3 {G':Gh} (a:Ext β G β G') {is:List Nat} (j:∀i∈is.filter (Z2P h),Z2H E β G' h i) {hv:Nat->Option Zb} (c:∀i∈is,∀x,hv i=some x->h i=some x) {d:DV} {v:Value} (f:∀i∈Zh d,i∈is) (hr:Rep β G d v):Rep β G' (Z6h hv d) v:=by
 unfold Z6h;split
 ·rename_i id ver;split
  ·rename_i es p u b;have e:=c id (f id (by simp[Zh])) _ b
   cases hq:Nat.beq p 1&&Nat.beq u ver with
   | false=>exact Rep.mono a _ _ hr
   | true =>
    simp only[jn]at hq;have g:frz h (.rs id ver)=some (.sl es):=by simp[frz,e,hq.2]
    refine(Z5v a (fun i t es p u hi=>⟨p,hi⟩) g (fun i hi=>j i (List.mem_filter.2 ⟨f i hi,?_⟩)) hr).1;have:i=id:=by simpa[Zh]using hi
    subst this;unfold Z2P;rw[e];exact hq.1
  ·exact Rep.mono a _ _ hr
 ·exact Rep.mono a _ _ hr
theorem ZaP {G':Gh} (c:Ext β G β G') {is:List Nat} (b:∀i∈is.filter (Z2P h),Z2H E β G' h i) {hv:Nat->Option Zb} (a:∀i∈is,∀x,hv i=some x->h i=some x):∀{ds:List DV} {vs:List Value},(∀i∈Zi ds,i∈is)->Ze β G ds vs->Ze β G' (ds.map (Z6h hv)) vs
 | [],vs,_,hr=>by
  rw[Zg]at hr;exact Zg.2 hr
 | d::ds,vs,hm,hr=>by
  obtain⟨v,vs',rfl,f,e⟩:=Za.1 hr;exact Za.2 ⟨v,vs',rfl,Zd3 c b a (fun i hi=>hm i (by simp[Zi,hi])) f,ZaP c b a (fun i hi=>hm i (by simp[Zi,hi])) e⟩
theorem Zhs {G':Gh} (f:Ext β G β G') {is:List Nat} (e:∀i∈is.filter (Z2P h),Z2H E β G' h i) {hv:Nat->Option Zb} (a:∀i∈is,∀x,hv i=some x->h i=some x) {d:DV} {v:Value} (c:∀i∈Zh d,i∈is) (hr:Rep β G d v):Rep β G' (Z3s hv d) v:=by
 unfold Z3s;split
 ·rename_i cs;obtain⟨vs,rfl,b⟩:=YK.1 hr;exact YK.2 ⟨vs,rfl,ZaP f e a (by simpa[Zh]using c) b⟩
 ·exact Zd3 f e a c hr
theorem ZaQ {G':Gh} (c:Ext β G β G') {is:List Nat} (b:∀i∈is.filter (Z2P h),Z2H E β G' h i) {hv:Nat->Option Zb} (a:∀i∈is,∀x,hv i=some x->h i=some x):∀{ds:List DV} {vs:List Value},(∀i∈Zi ds,i∈is)->Ze β G ds vs->Ze β G' (ds.map (Z3s hv)) vs
 | [],vs,_,hr=>by
  rw[Zg]at hr;exact Zg.2 hr
 | d::ds,vs,hm,hr=>by
  obtain⟨v,vs',rfl,f,e⟩:=Za.1 hr;exact Za.2 ⟨v,vs',rfl,Zhs c b a (fun i hi=>hm i (by simp[Zi,hi])) f,ZaQ c b a (fun i hi=>hm i (by simp[Zi,hi])) e⟩
theorem Zd6 (hh:HR E w0 G0 D w β G h) {as:List DV} {vs:List Value} (hr:Ze β G as vs) {hv:Nat->Option Zb} (a:∀i∈Zi as,∀x,hv i=some x->h i=some x) :
  ∃G',Ext β G β G'/\HR E w0 G0 D w β G' h/\Ze β G' (as.map (Z3s hv)) vs:=by
 obtain⟨G',c,b,d⟩:=Z1I hh ((Zi as).filter (Z2P h));rw[ZgO]at b d;exact⟨G',c,b,ZaQ c d a (fun i hi=>hi) hr⟩
open Classical in
noncomputable def Z7v (D:DD) (w:World) (β:Bi) (G:Gh) (h s:Nat->Option Zb):DD:=fun b=>match D b with
 | some x=>some x
 | none=>if ∃i x,h i=some x/\s i=none/\Yf β i x b then(w.heap[b]?).map fun ob=>(ob,G b)else none
theorem ZaK {s:Nat->Option Zb} (hh:HR E w0 G0 D w β G h) {i b:Nat} {x:Zb} (hi:h i=some x) (e:s i=none) (a:Yf β i x b) :
  ∃ob,w.heap[b]? = some ob/\Z7v D w β G h s b=some (ob,G b):=by
 obtain⟨_,c,d⟩:=hh.own i x b hi a;refine⟨w.heap[b],by simp[c],?_⟩
 unfold Z7v;rw[d];simp only;rw[if_pos ⟨i,x,hi,e,a⟩];simp[c]
theorem Zhi {s:Nat->Option Zb} {b:Nat} (a:Z7v D w β G h s b=none):D b=none:=by
 unfold Z7v at a;cases hd:D b with
 | none=>rfl
 | some x=>rw[hd]at a;cases a
theorem Zix {s:Nat->Option Zb} {b:Nat} {x:Obj×(Nat->Option Value)} (a:D b=some x):Z7v D w β G h s b=some x:=by
 unfold Z7v;rw[a]
theorem Zeq {s:Nat->Option Zb} (hh:HR E w0 G0 D w β G h) (c:∀i x,s i=some x->h i=some x):HR E w0 G0 (Z7v D w β G h s) w β G s:=by
 refine⟨hh.below,hh.g0,hh.agree,fun i o hi=>hh.obj i o (c i o hi),fun i o b hi k=>?_,fun i j o p b hi m=>hh.inj i j o p b (c i o hi) (c j p m),fun d x a=>?_,hh.inv0⟩
 ·obtain⟨k1,k2,k3⟩:=hh.own i o b (c i o hi) k;refine⟨k1,k2,?_⟩;unfold Z7v;rw[k3];simp only;rw[if_neg];rintro⟨j,y,g,e,f⟩;have:=hh.inj i j o y b (c i o hi) g k f;subst this;rw[hi]at e;cases e
 ·unfold Z7v at a;cases hq:D d with
  | some y =>
   rw[hq]at a;simp only[jh]at a;subst a;exact hh.marks d y hq
  | none =>
   rw[hq]at a;simp only at a;split at a
   ·rename_i l;obtain⟨i,y,g,e,f⟩:=l;obtain⟨k1,k2,k3⟩:=hh.own i y d g f;simp only[k2,getElem?_pos,jq,jh]at a;subst a;exact⟨k1,by simp[k2],fun _=>rfl⟩
   ·cases a
theorem Z8E (f:Nat->Option Zb):∀(L:List Nat) (id:Nat),Zq id (L.map fun i=>(i,f i))=if id∈L then some (f id)else none
 | [],_=>rfl
 | i::L,id=>by
  simp only[jr,Zq,Z8E f L id]
  by_cases e:id∈L
  ·simp[e]
  ·simp only[e,if_false,jv,or_false,Tr.beq_dec]
   by_cases e2:i=id
   ·subst e2;simp
   ·have:¬id=i:=fun q=>e2 q.symm;simp[e2,this]
def Zgh (o:Tr Zb) (R:List Nat) (nx:Nat):List Nat:=R++((o.ents 1 0).map (·.1)).filter (Nat.ble nx)
theorem Zhg {o:Tr Zb} {R:List Nat} {nx i:Nat} (hi:i∈Zgh o R nx):i∈R\/nx<=i:=by
 unfold Zgh at hi;rcases List.mem_append.1 hi with h|h
 ·exact .inl h
 ·exact .inr (jf (List.mem_filter.1 h).2)
theorem Z7p (h:Nat->Option Zb) (o:Tr Zb) (R:List Nat) (nx id:Nat):Zy h (Z4X o R nx) id=if id∈Zgh o R nx then o.get id else h id:=by
 unfold Zy Z4X;rw[Z8E o.get];unfold Zgh;split<;>rename_i q
 ·split at q
  ·rename_i e;cases q;rw[if_pos e]
  ·cases q
 ·split at q
  ·cases q
  ·rename_i e;rw[if_neg e]
def Zij (E:Env) (w0:World) (G0:Gh) (D:DD) (β:Bi) (G:Gh) (h:Nat->Option Zb) (nx:Nat) (r:DV) (upd:List (Nat×Option Zb)) (nx':Nat) (e:Ending) (w':World):Prop :=
 ∃v β' G',e=.returned v/\nx<=nx'/\Ext β G β' G'/\(∀id,id<nx->YN β β' h (Zy h upd) id)/\HR E w0 G0 D w' β' G' (Zy h upd)/\(∀id,nx'<=id->ZE β' (Zy h upd) id)/\Rep β' G' r v
theorem ZbA {s:Tr Zb} {R:List Nat} {nx:Nat} (hh:HR E w0 G0 D w β G h) (hs:∀i x,s.get i=some x->h i=some x) (a3:∀i x,s.get i=some x->i∈R) (a0:∀id,nx<=id->ZE β h id) {r:DV} {o':Tr Zb} {nx':Nat} {e:Ending} {w':World}
  (hp:YI E w0 G0 (Z7v D w β G h s.get) β G s nx r o' nx' e w'):Zij E w0 G0 D β G h nx r (Z4X o' R nx) nx' e w':=by
 obtain⟨v,β',G',rfl,hle,o,c,a2,hv⟩:=hp;have g:∀i x,Zy h (Z4X o' R nx) i=some x->(i∈Zgh o' R nx/\o'.get i=some x)\/(h i=some x/\s.get i=none/\i<nx):=fun i x hi=>by
  rw[Z7p]at hi
  by_cases e:i∈Zgh o' R nx
  ·rw[if_pos e]at hi;exact .inl ⟨e,hi⟩
  ·rw[if_neg e]at hi;refine .inr ⟨hi,?_,?_⟩
   ·cases hq:s.get i with
    | none=>rfl
    | some y=>exact absurd (List.mem_append_left _ (a3 i y hq)) e
   ·rcases Nat.lt_or_ge i nx with q|q
    ·exact q
    ·rw[(a0 i q).h]at hi;cases hi
 have a:∀i,s.get i=none->i<nx->o'.get i=none/\β'.blk i=β.blk i/\∀u,β'.hdr i u=β.hdr i u:=fun i hi n=>o.keep i n hi;have l:∀i x b,h i=some x->s.get i=none->i<nx->Yf β' i x b->∃ob,w.heap[b]? = some ob/\Z7v D w β G h s.get b=some (ob,G b):=fun i x b hi z n k=>by
  obtain⟨_,k2,k3⟩:=a i z n;exact ZaK hh hi z ((Z1e k2 k3 x b).1 k)
 refine⟨v,β',G',rfl,hle,o.ext,fun id t z=>?_,⟨c.below,c.g0,c.agree,fun i x hi=>?_,fun i x b hi k=>?_,fun i j x y b hi hj k hc=>?_,fun d x hd=>c.marks d x (Zix hd),hh.inv0⟩,fun id t=>?_,hv⟩
 ·have a1:s.get id=none:=by
   cases hq:s.get id with
   | none=>rfl
   | some y=>rw[hs id y hq]at z;cases z
  obtain⟨k1,k2,k3⟩:=a id a1 t;refine⟨?_,k2,k3⟩;rw[Z7p];split
  ·exact k1
  ·exact z
 ·rcases g i x hi with⟨_,f⟩|⟨f,m,p⟩
  ·exact c.obj i x f
  ·obtain⟨_,k2,k3⟩:=a i m p;refine Z1M.keep o.ext k3 (fun b k=>?_) (hh.obj i x f);obtain⟨ob,m1,m2⟩:=ZaK (D:=D) hh f m k;obtain⟨_,m3,m4⟩:=c.marks b _ m2;exact⟨m3.trans m1.symm,m4⟩
 ·rcases g i x hi with⟨_,f⟩|⟨f,m,p⟩
  ·obtain⟨k1,k2,k3⟩:=c.own i x b f k;exact⟨k1,k2,Zhi k3⟩
  ·obtain⟨_,k2,k3⟩:=a i m p;obtain⟨m1,_,m3⟩:=hh.own i x b f ((Z1e k2 k3 x b).1 k);obtain⟨ob,_,m5⟩:=l i x b f m p k;exact⟨m1,(ja.1 (c.marks b _ m5).2.1).1,m3⟩
 ·rcases g i x hi with⟨_,f⟩|⟨f,m,p⟩<;>rcases g j y hj with⟨_,g1⟩|⟨g1,g2,g3⟩
  ·exact c.inj i j x y b f g1 k hc
  ·obtain⟨ob,_,m2⟩:=l j y b g1 g2 g3 hc;rw[(c.own i x b f k).2.2]at m2;cases m2
  ·obtain⟨ob,_,m2⟩:=l i x b f m p k;rw[(c.own j y b g1 hc).2.2]at m2;cases m2
  ·obtain⟨_,k2,k3⟩:=a i m p;obtain⟨_,k4,k5⟩:=a j g2 g3;exact hh.inj i j x y b f g1 ((Z1e k2 k3 x b).1 k) ((Z1e k4 k5 y b).1 hc)
 ·have hf:=a2 id t;refine⟨hf.blk,hf.hdr,?_⟩;rw[Z7p];split
  ·exact hf.h
  ·exact(a0 id (by omega)).h
theorem Z27 (h:Nat->Option Zb):∀(R:List Nat) (i:Nat),(Z2w h R).get i=if i∈R then h i else none
 | [],_=>rfl
 | j::R,i=>by
  simp only[Z2w,Tr.get_set,Z27 h R]
  by_cases e:i=j
  ·subst e;simp
  ·simp[e]
theorem Zen {callH callY:Yb} (hv:Nat->Option Zb) (nx:Nat) (tgt:DV×List DV) (out:Out) (T:List Nat) (nx2:Nat) (a:YU callH callY hv nx tgt=some (out,T,nx2)):nx<=nx2:=by
 unfold YU at a;split at a
 ·unfold Z3D at a;obtain⟨x,_,a⟩:=Z0 a;obtain⟨b,a⟩:=Z3 a;cases a;exact jf b
 ·unfold Z3D at a;obtain⟨x,_,a⟩:=Z0 a;obtain⟨b,a⟩:=Z3 a;cases a;exact jf b
 ·cases a
theorem Z5O (hE:∀t ti,E.ty t=some ti->ZL P t ti) {callH callY:Yb} (hH:YT P E callH) (hY:Z1c P E callY) {o:Oper} {a:Act} {ro:Option Nat} {n:Nat} {ρ:Nat->Option DV} (hf:FrM β G ρ a.tmps) {c:Call} (ho:Z38 o.op=some c) {tgt:DV×List DV}
  (ht:target E ρ c=some tgt) (hh:HR E w0 G0 D w β G h) {hv:Nat->Option Zb} {nx nx':Nat} {out:Out} {T:List Nat} (j:YU callH callY hv nx tgt=some (out,T,nx')) (hvw:∀i∈T,∀x,hv i=some x->h i=some x) (k:∀id,nx<=id->ZE β h id)
  {K:Act->World->Prop} {Q:Exit->Act->World->Prop}
  (hk:∀v w' β' G',(∀d,out.val=some d->Rep β' G' d v)->nx<=nx'->Ext β G β' G'->(∀id,id<nx->YN β β' h (Zy h out.upd) id)->HR E w0 G0 D w' β' G' (Zy h out.upd)->(∀id,nx'<=id->ZE β' (Zy h out.upd) id)->K (a.put o.dst v) w'):o.wpIn (fw ro) n P a w K Q:=by
 have a1:=Z3w ho;have a2:∀{R:List Nat},(∀i∈R,i∈T)->(∀i x,(Z2w hv R).get i=some x->h i=some x)/\(∀i x,(Z2w hv R).get i=some x->i∈R):=fun {R} hRT=>by
  refine⟨fun i x hi=>?_,fun i x hi=>?_⟩
  ·rw[Z27]at hi;split at hi
   ·rename_i hm;exact hvw i (hRT i hm) x hi
   ·cases hi
  ·rw[Z27]at hi;split at hi
   ·rename_i hm;exact hm
   ·cases hi
 unfold YU at j;split at j
 ·rename_i g x y as;unfold Z3D at j;obtain⟨⟨r,o',nx2⟩,hc,j⟩:=Z0 j;obtain⟨_,j⟩:=Z3 j;cases j;obtain⟨hent,hcs⟩:=hH _ _ _ _ _ _ _ hc;obtain⟨vs,u,z⟩:=Z89 (w:=w) hE hf a1 ht hent;obtain⟨G1,hx1,s,p⟩:=Zd6 hh z (hv:=hv) (fun i hi x hx=>hvw i (List.mem_append_left _ hi) x hx);obtain⟨hs,hsR⟩:=a2 (R:=Z1g hv 4096 (Z1q (as.map (Z3s hv))) []) (fun i hi=>List.mem_append_right _ hi);refine⟨fun f _=>trivial,?_⟩;rw[Oper.semAt_eq _ _ _ (by rw[a1];simp),u,Oper.uponIn_enter]
  have q:∀id,nx<=id->ZE β (Z2w hv (Z1g hv 4096 (Z1q (as.map (Z3s hv))) [])).get id:=fun id m=>⟨(k id m).blk,(k id m).hdr,by
   cases hq:(Z2w hv (Z1g hv 4096 (Z1q (as.map (Z3s hv))) [])).get id with
   | none=>rfl
   | some y=>have:=hs id y hq;rw[(k id m).h]at this;cases this⟩
  refine⟨fun hq=>by simp[fw,Fence.wide]at hq,Z6E (Calls.mono (hcs w0 G0 _ w β G1 vs (Zeq s hs) q p) fun e w' he=>?_)⟩
  obtain⟨v,β',G',rfl,hle,hx,hkp,a4,hf2,a3⟩:=ZbA s hs hsR k he;exact hk v w' β' G' (fun d j=>by cases j;exact a3) hle (hx1.trans hx) hkp a4 hf2
 ·rename_i l as;unfold Z3D at j;obtain⟨⟨r,o',nx2⟩,hc,j⟩:=Z0 j;obtain⟨_,j⟩:=Z3 j;cases j;obtain⟨vs,b,hb,u,z⟩:=Zfg hf a1 ht;obtain⟨G1,hx1,s,p⟩:=Zd6 hh z (hv:=hv) (fun i hi x hx=>hvw i (List.mem_append_left _ hi) x hx);obtain⟨hs,hsR⟩:=a2 (R:=Z1g hv 4096 (l::Z1q (as.map (Z3s hv))) []) (fun i hi=>List.mem_append_right _ hi);have q:∀id,nx<=id->ZE β (Z2w hv (Z1g hv 4096 (l::Z1q (as.map (Z3s hv))) [])).get id:=fun id m=>⟨(k id m).blk,(k id m).hdr,by
   cases hq:(Z2w hv (Z1g hv 4096 (l::Z1q (as.map (Z3s hv))) [])).get id with
   | none=>rfl
   | some y=>have:=hs id y hq;rw[(k id m).h]at this;cases this⟩
  obtain⟨lf,tm,as',bo,hy,a0⟩:=hY _ _ _ _ _ _ _ hc w0 G0 _ w β G1 vs b hb (Zeq s hs) q p;refine⟨fun f _=>trivial,?_⟩;rw[Oper.semAt_eq _ _ _ (by rw[a1];simp),u,hy,Oper.uponIn_round]
  refine⟨fun hq=>by simp[fw,Fence.wide]at hq,Zi3 (RoundIn.mono (a0 _) fun e w' he=>?_)⟩
  obtain⟨v,β',G',rfl,hle,hx,hkp,a4,hf2,a3⟩:=ZbA s hs hsR k he;exact hk v w' β' G' (fun d j=>by cases j;exact a3) hle (hx1.trans hx) hkp a4 hf2
 ·cases j
end
end Go.Ab
namespace Go.Ab
open Go.RowKit
section
variable {P:Program} {E:Env} {w0:World} {G0:Gh} {outer:DD} {own:List Nat} {V nt:Nat} {o:Oper} {a:Act} {w:World} {β:Bi} {G:Gh} {ro:Option Nat} {n:Nat}
theorem Z3V (V nt:Nat) (m:Mid) (dst:Option Tmp) (v:Option DV):(m.put V nt dst v).objs=m.objs/\(m.put V nt dst v).next=m.next:=by
 unfold Mid.put;cases dst with
 | none=>exact⟨rfl,rfl⟩
 | some d =>
  simp only;cases(!Nat.blt d nt)with
  | true=>exact⟨rfl,rfl⟩
  | false=>cases Nat.testBit V d<;>exact⟨rfl,rfl⟩
theorem ZdW (V nt:Nat) (m:Mid) (dst:Option Tmp) (v:Option DV) (t:Nat) :
  ZS V (m.put V nt dst v).base (m.put V nt dst v).loc t=if dst=some t/\t<nt then v else ZS V m.base m.loc t:=by
 unfold Mid.put;cases dst with
 | none=>simp
 | some d =>
  simp only[Tr.blt_dec]
  by_cases hl:d<nt
  ·simp only[hl,decide_true,Bool.not_true,jA];cases hv:Nat.testBit V d with
   | true =>
    simp only[jB];unfold ZS
    by_cases e:d=t
    ·subst e;simp[hv,hl,Tr.get_set]
    ·have:¬t=d:=fun h=>e h.symm;simp[e,Tr.get_set,this]
   | false =>
    simp only[jA];unfold ZS
    by_cases e:d=t
    ·subst e;simp[hv,hl,Loc.find]
    ·simp[e,Loc.find,Tr.beq_dec]
  ·simp only[hl,decide_false,Bool.not_false,jB]
   by_cases e:d=t
   ·subst e;simp[hl]
   ·simp[e]
theorem ZfT (V nt:Nat) (m:Mid) (dst:Option Tmp) (v:Option DV) (h:∀t d,m.base.get t=some d->Nat.testBit V t=true) :
  ∀t d,(m.put V nt dst v).base.get t=some d->Nat.testBit V t=true:=by
 unfold Mid.put;cases dst with
 | none=>exact h
 | some d =>
  simp only;cases(!Nat.blt d nt)with
  | true=>exact h
  | false =>
   cases hv:Nat.testBit V d with
   | true =>
    intro t d' ht;simp only[jA,jB,Tr.get_set]at ht
    by_cases e:t=d
    ·rw[e];exact hv
    ·rw[if_neg e]at ht;exact h t d' ht
   | false=>exact h
abbrev MM (E:Env) (w0:World) (G0:Gh) (outer:DD) (V nt:Nat) (own:List Nat) (m:Mid) (a:Act) (w:World) (β:Bi) (G:Gh):Prop :=
 MI E w0 G0 outer V nt own (ZS V m.base m.loc) m.base m.objs.get m.next a w β G
theorem ZfB {ρ ρ':Nat->Option DV} {β':Bi} {G':Gh} (m:Ext β G β' G') (b:a.tmps.size=nt) (j:FrM β G ρ a.tmps) {dst:Option Tmp} {val:Option DV} {v:Value} (hv:∀d,val=some d->Rep β' G' d v)
  (l:∀t d,ρ' t=some d->(dst=some t/\t<nt/\val=some d)\/(¬(dst=some t/\t<nt)/\ρ t=some d)):FrM β' G' ρ' (a.put dst v).tmps:=fun t d ht=>by
 rcases l t d ht with⟨rfl,k,c⟩|⟨n,c⟩
 ·refine⟨v,?_,hv d c⟩;simp[Act.put,b,k]
 ·obtain⟨u,i,hr⟩:=j t d c;refine⟨u,?_,Rep.mono m d u hr⟩;cases dst with
  | none=>exact i
  | some e =>
   have f:t<nt:=by rw[<-b];exact(ja.1 i).1
   have g:e≠t:=fun h=>n ⟨by rw[h],f⟩
   simp only[Act.put];rw[Array.getElem?_setIfInBounds_ne g];exact i
theorem Zdz (dst:Option Tmp) (v:Value):(a.put dst v).tmps.size=a.tmps.size/\(a.put dst v).defers=a.defers:=by
 cases dst<;>simp[Act.put]
theorem MM.put {m:Mid} (b:MM E w0 G0 outer V nt own m a w β G) {objs:Tr Zb} {nx:Nat} {dst:Option Tmp} {val:Option DV} {v:Value} {w':World} {β':Bi} {G':Gh} (j:Ext β G β' G')
  (hv:∀d,val=some d->Rep β' G' d v) (hh:HR E w0 G0 (Yu own outer) w' β' G' objs.get) (g:∀id,nx<=id->ZE β' objs.get id) :
  MM E w0 G0 outer V nt own (({ m with objs:=objs,next:=nx }:Mid).put V nt dst val) (a.put dst v) w' β' G':=by
 obtain⟨f,h⟩:=Z3V V nt ({ m with objs:=objs,next:=nx }:Mid) dst val
 obtain⟨i,k⟩:=Zdz (a:=a) dst v;refine⟨ZfB j b.sz b.fr hv fun t d ht=>?_,ZfT V nt _ dst val b.dom,i.trans b.sz,by rw[f];exact hh,fun id c=>?_,⟨by rw[k];exact b.df.1,b.df.2⟩⟩
 ·rw[ZdW]at ht
  by_cases e:dst=some t/\t<nt
  ·rw[if_pos e]at ht;exact .inl ⟨e.1,e.2,ht⟩
  ·rw[if_neg e]at ht;exact .inr ⟨e,ht⟩
 ·rw[f];rw[h]at c;exact g id c
theorem Z2V {ops:Array Oper} {ρ:Nat->Option DV} (i:FrM β G ρ a.tmps) {want:Bool} (h:Z1u ops ρ o=some want):Region.wanted o (yielded ops a.tmps)=want:=by
 unfold Z1u at h;unfold Region.wanted;cases hg:o.guard with
 | none=>rw[hg]at h;simp only[jh]at h;exact h
 | some g =>
  obtain⟨j,wt⟩:=g;rw[hg]at h;simp only at h⊢;unfold yielded;cases hd:(ops[j]?).bind (·.dst)with
  | none=>rw[hd]at h;cases h
  | some t =>
   rw[hd]at h;simp only at h;cases hr:ρ t with
   | none=>rw[hr]at h;cases h
   | some d =>
    rw[hr]at h;obtain⟨v,k,e⟩:=i t d hr;simp only[jm,k];cases d with
    | bool b =>
     rw[ZH]at e;subst e;simp only[jh]at h;rw[<-h];cases b<;>cases wt<;>rfl
    | _ =>
     have f:want=false:=by simpa using h.symm
     subst f;unfold Rep at e
     first
     | (subst e;rfl)
     | (obtain⟨b,_,rfl⟩:=e;rfl)
     | (obtain⟨b,n,c,_,rfl⟩:=e;rfl)
     | (obtain⟨_,b,o,rfl,_⟩:=e;rfl)
     | (obtain⟨a,c,⟨rfl,_⟩,_⟩:=e;rfl)
     | (obtain⟨_,a,n,c,rfl⟩:=e;rfl)
     | (obtain⟨_,_,rfl,_,_⟩:=e;rfl)
     | (obtain⟨_,_,_,_,_,_,rfl,_⟩:=e;rfl)
     | (obtain⟨_,_,rfl,_⟩:=e;rfl)
     | (obtain⟨_,rfl,_⟩:=e;rfl)
theorem Zbi {call:Nat->List DV->Option DV} {nid:Nat} {ρ:Nat->Option DV} {h:Nat->Option Zb} {op:Op} {r:Out} (b:Z46 E call nid ρ h op=some (some r)):Z8k E call nid ρ h op=some r:=by
 unfold Z46 at b;unfold Z8k;split at b
 ·rename_i hc;obtain⟨r',d,a⟩:=Z0 b;cases a;rw[hc];exact d
 ·rename_i c hc;obtain⟨tgt,d,a⟩:=Z0 b;rw[hc];cases hp:ZeS E tgt with
  | true =>
   rw[hp]at a;obtain⟨r',f,e⟩:=Z0 a;cases e;exact f
  | false=>rw[hp]at a;cases a
theorem ZbO {df:Bool} {ρ:Nat->Option DV} {op:Op} (a:Z5z E df ρ op=true):∃c f g caps,op=.defer c/\df=true/\c.args = #[]/\c.callee=.value f/\ZU ρ f=some (.fn (.func g) [] caps)/\E.dfr g=true:=by
 unfold Z5z at a;split at a
 ·rename_i c;simp only[jn]at a;obtain⟨⟨h,e⟩,b⟩:=a;split at b
  ·rename_i f d;split at b
   ·rename_i g caps i;exact⟨c,f,g,caps,rfl,h,by simpa using e,d,i,b⟩
   ·cases b
  ·cases b
 ·cases a
theorem Z45 (hE:∀t ti,E.ty t=some ti->ZL P t ti) {df:Bool} (s:df=true->ro=none) {call:Nat->List DV->Option DV} (hp:Z33 P E call) {callH callY:Yb} (hH:YT P E callH) (hY:Z1c P E callY) {ops:Array Oper} {b:Nat} {Q:Exit->Act->World->Prop} :
  ∀(os:List Oper) (k:Nat) (m mf:Mid) (a:Act) (w:World) (β:Bi) (G:Gh),Z2I E df call callH callY V nt ops b k os m=some mf->b+k+os.length<=m.next →
   (∀j,k<=j->j<k+os.length->ZE β m.objs.get (b+j))->MM E w0 G0 outer V nt own m a w β G →
   (∀a' w' β' G',m.next<=mf.next->MM E w0 G0 outer V nt own mf a' w' β' G'->Go2 b β G β' G' m.objs.get mf.objs.get->Q .normal a' w')->wpListIn (fw ro) n P ops Q os a w
 | [],k,m,mf,a,w,β,G,e,_,_,hm,hq=>by
  simp only[Z2I,jh]at e;subst e;exact hq a w β G (Nat.le_refl _) hm (Go2.refl _ _ _ _)
 | o::os,k,m,mf,a,w,β,G,e,hle,hfr,hm,hq=>by
  simp only[Z2I]at e;obtain⟨want,hw,e⟩:=Z0 e;have hwt:=Z2V hm.fr hw;simp only[List.length_cons]at hle hfr;simp only[wpListIn];rw[hwt];cases want with
  | false =>
   simp only[jA]at e;simp only[jg,if_false];obtain⟨u,q⟩:=Z3V V nt m o.dst (some (.tup []));have l:MM E w0 G0 outer V nt own (m.put V nt o.dst (some (.tup []))) (a.put o.dst undef) w β G :=
    MM.put (objs:=m.objs) (nx:=m.next) hm (Ext.refl β G) (fun d e=>by cases e;exact Z40) hm.hr hm.fresh
   refine⟨fun f _=>trivial,Z45 hE s hp hH hY os (k+1) _ mf _ w β G e (by rw[q];omega) (fun j hj hl=>by rw[u];exact hfr j (by omega) (by omega)) l fun a' w' β' G' hn hm2 hgo=>?_⟩
   exact hq a' w' β' G' (by rw[q]at hn;exact hn) hm2 (by rw[u]at hgo;exact hgo)
  | true =>
   simp only[jB]at e;simp only[if_true];cases hdd:Z5z E df (ZS V m.base m.loc) o.op with
   | true =>
    rw[hdd]at e;simp only[jB]at e;obtain⟨c,f,g,caps,ho,hdt,z,hcal,hop,hg⟩:=ZbO hdd;have hro:(fw ro).round=none:=s hdt;obtain⟨as,cs,hev,has,_⟩:=Zcf.1 (Zm hm.fr hop);rw[Zg]at has;subst has;have hrun:(o.semAt (fw ro).round a.eval).run P w=.ok (.defer { target:=.fn (.func g) cs.toArray,args := #[] }) w:=by
     rw[hro,Oper.semAt_none];unfold execOp;rw[ho];simp[resolve,hcal,z,hev,Deferred.ofValue]
    refine⟨fun f _=>trivial,?_⟩;rw[hrun,Oper.uponIn_defer];obtain⟨u,q⟩:=Z3V V nt m o.dst (some (.tup []));have hm0:MM E w0 G0 outer V nt own m { a with defers:={ target:=.fn (.func g) cs.toArray,args := #[] }::a.defers } w β G:=⟨hm.fr,hm.dom,hm.sz,hm.hr,hm.fresh,⟨.fn _ hg hm.df.1,hm.df.2⟩⟩
    have l:MM E w0 G0 outer V nt own (m.put V nt o.dst (some (.tup []))) (({ a with defers:={ target:=.fn (.func g) cs.toArray,args := #[] }::a.defers }:Act).put o.dst undef) w β G :=
     MM.put (objs:=m.objs) (nx:=m.next) hm0 (Ext.refl β G) (fun d e=>by cases e;exact Z40) hm.hr hm.fresh
    refine Z45 hE s hp hH hY os (k+1) _ mf _ w β G e (by rw[q];omega) (fun j hj hl=>by rw[u];exact hfr j (by omega) (by omega)) l fun a' w' β' G' hn hm2 hgo=>?_
    exact hq a' w' β' G' (by rw[q]at hn;exact hn) hm2 (by rw[u]at hgo;exact hgo)
   | false =>
   rw[hdd]at e;simp only[jA]at e;obtain⟨so,hso,e⟩:=Z0 e;cases so with
   | some r =>
    have hr:=Zbi hso;refine Z8l hE hp hm.fr hm.hr (hfr k (Nat.le_refl _) (by omega)) hr _ _ fun v w' β' G' hv hx hh hkp=>?_
    obtain⟨u,q⟩:=Z3V V nt ({ m with objs:=Y3 m.objs r.upd }:Mid) o.dst r.val
    have i:∀id,(Y3 m.objs r.upd).get id=Zy m.objs.get r.upd id:=Z2y _ _;have x:∀id,id≠b+k->YN β β' m.objs.get (Y3 m.objs r.upd).get id:=fun id p hf=>by
     obtain⟨q1,q2,q3⟩:=hkp id p hf;exact⟨by rw[i];exact q1,q2,q3⟩
    have l:MM E w0 G0 outer V nt own (({ m with objs:=Y3 m.objs r.upd }:Mid).put V nt o.dst r.val) (a.put o.dst v) w' β' G' :=
     MM.put (objs:=Y3 m.objs r.upd) (nx:=m.next) hm hx hv (hh.eq i) (fun id p=>(x id (by omega)).fresh (hm.fresh id p))
    refine Z45 hE s hp hH hY os (k+1) _ mf _ w' β' G' e (by rw[q];show b+(k+1)+os.length<=m.next;omega) (fun j hj hl=>by rw[u];exact(x _ (by omega)).fresh (hfr j (by omega) (by omega))) l fun a' w'' β'' G'' hn hm2 hgo=>?_
    refine hq a' w'' β'' G'' (by rw[q]at hn;exact hn) hm2 (Go2.trans ⟨hx,fun id hi=>?_⟩ hgo)
    rw[u];exact x id (by omega)
   | none =>
    obtain⟨cl,hcl,e⟩:=Z0 e;obtain⟨tgt,htg,e⟩:=Z0 e;obtain⟨⟨out,T,nx'⟩,hx1,e⟩:=Z0 e;refine Z5O hE hH hY hm.fr hcl htg hm.hr hx1 (fun _ _ _ h=>h) hm.fresh fun v w' β' G' hv hle' hx hkp hh hff=>?_;obtain⟨u,q⟩:=Z3V V nt ({ m with objs:=Y3 m.objs out.upd,next:=nx' }:Mid) o.dst out.val
    have i:∀id,(Y3 m.objs out.upd).get id=Zy m.objs.get out.upd id:=Z2y _ _;have y:∀id,id<m.next->YN β β' m.objs.get (Y3 m.objs out.upd).get id:=fun id p hf=>by
     obtain⟨q1,q2,q3⟩:=hkp id p hf;exact⟨by rw[i];exact q1,q2,q3⟩
    have l:MM E w0 G0 outer V nt own (({ m with objs:=Y3 m.objs out.upd,next:=nx' }:Mid).put V nt o.dst out.val) (a.put o.dst v) w' β' G' :=
     MM.put (objs:=Y3 m.objs out.upd) (nx:=nx') hm hx hv (hh.eq i) (fun id p=>by
      have:=hff id p;exact⟨this.blk,this.hdr,by rw[i];exact this.h⟩)
    refine Z45 hE s hp hH hY os (k+1) _ mf _ w' β' G' e (by rw[q];show b+(k+1)+os.length<=nx';omega) (fun j hj hl=>by rw[u];exact(y _ (by omega)).fresh (hfr j (by omega) (by omega))) l fun a'' w'' β'' G'' hn hm2 hgo2=>?_
    refine hq a'' w'' β'' G'' (by rw[q]at hn;exact Nat.le_trans hle' hn) hm2 (Go2.trans ⟨hx,fun id hi=>?_⟩ hgo2)
    rw[u];exact y id (by omega)
end
end Go.Ab
namespace Go.Ab
open Go.RowKit
structure Z4O (n0:Nat) (β β':Bi):Prop where
 blk:∀id,id<n0->β'.blk id=β.blk id
 hdr:∀id,id<n0->∀u,β'.hdr id u=β.hdr id u
section bddm
variable {n0:Nat} {β β':Bi} {G:Gh}
mutual
theorem Rep.bd (e:Z4O n0 β β'):∀(d:DV) (v:Value),bdd n0 d=true->Rep β G d v->Rep β' G d v
 | .bool _,_,_,h=>by unfold Rep at h⊢;exact h
 | .int _ _,_,_,h=>by unfold Rep at h⊢;exact h
 | .str _,_,_,h=>by unfold Rep at h⊢;exact h
 | .nilp,_,_,h=>by unfold Rep at h⊢;exact h
 | .ptr i _,_,hb,h=>by
  simp only[bdd,Tr.blt_dec,jk]at hb;unfold Rep at h⊢;rw[e.blk i hb];exact h
 | .rptr i _ _ _ _,_,hb,h=>by
  simp only[bdd,Tr.blt_dec,jk]at hb;unfold Rep at h⊢;rw[e.hdr i hb];exact h
 | .pub cs,_,_,h=>by
  unfold Rep at h⊢;obtain⟨k,b,o,g,f⟩:=h;exact⟨k,b,o,g,Pub.free cs b o k f⟩
 | .nils,_,_,h=>by unfold Rep at h⊢;exact h
 | .sl es,v,_,h=>Rep.free _ v rfl h
 | .rs i _,_,hb,h=>by
  simp only[bdd,Tr.blt_dec,jk]at hb;unfold Rep at h⊢;rw[e.hdr i hb];exact h
 | .rv i _ _ _ _,_,hb,h=>by
  simp only[bdd,Tr.blt_dec,jk]at hb;unfold Rep at h⊢;rw[e.hdr i hb];exact h
 | .slen _,_,_,h=>by unfold Rep at h⊢;exact h
 | .agg cs,_,hb,h=>by unfold Rep at h⊢;obtain⟨vs,g,f⟩:=h;exact⟨vs,g,Ze.bd e cs vs (by simpa[bdd]using hb) f⟩
 | .tup cs,_,hb,h=>by unfold Rep at h⊢;obtain⟨vs,g,f⟩:=h;exact⟨vs,g,Ze.bd e cs vs (by simpa[bdd]using hb) f⟩
 | .fn _ a c,_,hb,h=>by
  unfold Rep at h⊢;obtain⟨as,cs,g,f,l⟩:=h;have j:Z1O n0 a=true/\Z1O n0 c=true:=by simpa[bdd]using hb
  exact⟨as,cs,g,Ze.bd e a as j.1 f,Ze.bd e c cs j.2 l⟩
 | .nilfn,_,_,h=>by unfold Rep at h⊢;exact h
 | .map i,_,hb,h=>by
  simp only[bdd,Tr.blt_dec,jk]at hb;unfold Rep at h⊢;rw[e.blk i hb];exact h
 | .nilmap,_,_,h=>by unfold Rep at h⊢;exact h
 | .iface _ d,_,hb,h=>by unfold Rep at h⊢;obtain⟨u,g,f⟩:=h;exact⟨u,g,Rep.bd e d u (by simpa[bdd]using hb) f⟩
 | .nilif,_,_,h=>by unfold Rep at h⊢;exact h
 | .iter i,_,hb,h=>by
  simp only[bdd,Tr.blt_dec,jk]at hb;unfold Rep at h⊢;rw[e.blk i hb];exact h
 | .yld i,_,hb,h=>by
  simp only[bdd,Tr.blt_dec,jk]at hb;unfold Rep at h⊢;rw[e.blk i hb];exact h
theorem Ze.bd (b:Z4O n0 β β'):∀(ds:List DV) (vs:List Value),Z1O n0 ds=true->Ze β G ds vs->Ze β' G ds vs
 | [],_,_,h=>by unfold Ze at h⊢;exact h
 | d::ds,_,hb,h=>by
  unfold Ze at h⊢;have a:bdd n0 d=true/\Z1O n0 ds=true:=by simpa[Z1O]using hb
  obtain⟨v,vs',e,c,f⟩:=h;exact⟨v,vs',e,Rep.bd b d v a.1 c,Ze.bd b ds vs' a.2 f⟩
end
end bddm
theorem Z6f {id v:Nat}:∀{L:List (Option (Nat×Nat))} {j0 j:Nat},Z5P id v j0 L=some j->j0<=j/\L[j-j0]? = some (some (id,v))
 | [],_,_,h=>by cases h
 | none::L,j0,j,h=>by
  simp only[Z5P]at h;obtain⟨b,a⟩:=Z6f h;refine⟨by omega,?_⟩
  rw[show j-j0=(j-(j0+1))+1 by omega];simpa using a
 | some (i,u)::L,j0,j,h=>by
  simp only[Z5P]at h
  by_cases e:(Nat.beq i id&&Nat.beq u v)=true
  ·rw[e]at h;cases h;simp only[jn]at e;have e1:i=id:=je e.1;have e2:u=v:=je e.2;subst e1 e2;exact⟨Nat.le_refl _,by simp⟩
  ·have e':(Nat.beq i id&&Nat.beq u v)=false:=Bool.eq_false_iff.2 e;rw[e']at h;obtain⟨b,a⟩:=Z6f h;refine⟨by omega,?_⟩
   rw[show j-j0=(j-(j0+1))+1 by omega];simpa using a
def Z18 (n0:Nat) (L:List (Option (Nat×Nat))) (β:Bi):Bi where
 blk i:=if i<n0 then β.blk i else none
 hdr i u:=if i<n0 then β.hdr i u else if u=0 then(match L[i-n0]? with|some (some (id,v))=>β.hdr id v|_=>none)else none
theorem Z5i (n0:Nat) (L:List (Option (Nat×Nat))) (β:Bi):Z4O n0 β (Z18 n0 L β):=⟨fun id h=>by simp[Z18,h],fun id h u=>by simp[Z18,h]⟩
section
variable {n0:Nat} {L:List (Option (Nat×Nat))} {β:Bi} {G:Gh}
theorem Zb8 {j id v:Nat} (h:L[j]? = some (some (id,v))):(Z18 n0 L β).hdr (n0+j) 0=β.hdr id v:=by
 have:¬n0+j<n0:=by omega
 simp[Z18,h,this]
theorem Z1R {d d':DV} {v:Value} (h:(bif bdd n0 d then some d else none)=some d') (hr:Rep β G d v):Rep (Z18 n0 L β) G d' v/\Zw d'=Zw d:=by
 obtain⟨a,h⟩:=Z3 h;cases h;exact⟨Rep.bd (Z5i n0 L β) _ v a hr,rfl⟩
mutual
theorem Zce:∀{d d':DV} {v:Value},ren n0 L d=some d'->Rep β G d v->Rep (Z18 n0 L β) G d' v/\Zw d'=Zw d
 | .rs id ver,d',v,h,hr=>by
  simp only[ren]at h;cases hj:Z5P id ver 0 L with
  | none =>
   rw[hj]at h;obtain⟨c,h⟩:=Z3 h;cases h;simp only[jn,Tr.blt_dec]at c;exact⟨Rep.bd (Z5i n0 L β) _ v (by simp only[bdd,Tr.blt_dec];exact c.1) hr,rfl⟩
  | some j =>
   rw[hj]at h;cases h;obtain⟨_,a⟩:=Z6f hj;rw[Z1i]at hr⊢;exact⟨⟨(Zb8 (by simpa using a)).trans hr.1,hr.2⟩,rfl⟩
 | .agg cs,d',v,h,hr=>by
  simp only[ren]at h;obtain⟨cs',b,h⟩:=Z0 h;cases h;obtain⟨vs,rfl,a⟩:=YK.1 hr;exact⟨YK.2 ⟨vs,rfl,(Z77 b a).1⟩,rfl⟩
 | .tup cs,d',v,h,hr=>by
  simp only[ren]at h;obtain⟨cs',b,h⟩:=Z0 h;cases h;obtain⟨vs,rfl,a⟩:=Ys.1 hr;exact⟨Ys.2 ⟨vs,rfl,(Z77 b a).1⟩,rfl⟩
 | .bool _,d',v,h,hr=>Z1R (d:=.bool _) h hr
 | .int _ _,d',v,h,hr=>Z1R (d:=.int _ _) h hr
 | .str _,d',v,h,hr=>Z1R (d:=.str _) h hr
 | .nilp,d',v,h,hr=>Z1R (d:=.nilp) h hr
 | .ptr _ _,d',v,h,hr=>Z1R (d:=.ptr _ _) h hr
 | .rptr _ _ _ _ _,d',v,h,hr=>Z1R (d:=.rptr _ _ _ _ _) h hr
 | .pub _,d',v,h,hr=>Z1R (d:=.pub _) h hr
 | .nils,d',v,h,hr=>Z1R (d:=.nils) h hr
 | .sl _,d',v,h,hr=>Z1R (d:=.sl _) h hr
 | .rv _ _ _ _ _,d',v,h,hr=>Z1R (d:=.rv _ _ _ _ _) h hr
 | .slen _,d',v,h,hr=>Z1R (d:=.slen _) h hr
 | .fn _ _ _,d',v,h,hr=>Z1R (d:=.fn _ _ _) h hr
 | .nilfn,d',v,h,hr=>Z1R (d:=.nilfn) h hr
 | .map _,d',v,h,hr=>Z1R (d:=.map _) h hr
 | .nilmap,d',v,h,hr=>Z1R (d:=.nilmap) h hr
 | .iface _ _,d',v,h,hr=>Z1R (d:=.iface _ _) h hr
 | .nilif,d',v,h,hr=>Z1R (d:=.nilif) h hr
 | .iter _,d',v,h,hr=>Z1R (d:=.iter _) h hr
 | .yld _,d',v,h,hr=>Z1R (d:=.yld _) h hr
theorem Z77:∀{ds ds':List DV} {vs:List Value},Z2v n0 L ds=some ds'->Ze β G ds vs->Ze (Z18 n0 L β) G ds' vs/\ds'.all Zw=ds.all Zw
 | [],ds',vs,h,hr=>by simp only[Z2v,jh]at h;subst h;rw[Zg]at hr;subst hr;exact⟨Zg.2 rfl,rfl⟩
 | d::ds,ds',vs,h,hr=>by
  simp only[Z2v]at h;obtain⟨c,f,h⟩:=Z0 h;obtain⟨cs,e,h⟩:=Z0 h;cases h;obtain⟨v,vs',rfl,b,a⟩:=Za.1 hr;obtain⟨k1,k2⟩:=Zce f b;obtain⟨k3,k4⟩:=Z77 e a;exact⟨Za.2 ⟨v,vs',rfl,k1,k3⟩,by simp[k2,k4]⟩
end
theorem Z2M {o:Tr Zb}:∀{L:List (Option (Nat×Nat))} {j0:Nat} {no no':Tr Zb},Z28 o n0 j0 L no=some no'->∀i,
  (no'.get i=no.get i/\∀j id v,i=n0+j0+j->L[j]? ≠ some (some (id,v)))\/∃j id v e es p,i=n0+j0+j/\L[j]? = some (some (id,v))/\o.get id=some (.row e es p v)/\no'.get i=some (.row e es p 0)
 | [],j0,no,no',h,i=>by simp only[Z28,jh]at h;subst h;exact .inl ⟨rfl,fun j id v _=>by simp⟩
 | none::L,j0,no,no',h,i=>by
  simp only[Z28]at h;rcases Z2M h i with⟨a,b⟩|⟨j,id,v,e,es,p,a,b,d,f⟩
  ·refine .inl ⟨a,fun j id v hi=>?_⟩;cases j with
   | zero=>simp
   | succ j=>simpa using b j id v (by omega)
  ·exact .inr ⟨j+1,id,v,e,es,p,by omega,by simpa using b,d,f⟩
 | some (id,v)::L,j0,no,no',h,i=>by
  simp only[Z28]at h;split at h
  ·rename_i e es p u g;have c:=(Z3 h).1;replace h:=(Z3 h).2;have c:u=v:=je c;subst c;rcases Z2M h i with⟨a,b⟩|⟨j,id',v',e',es',p',a,b,d,f⟩
   ·rw[Tr.get_set]at a
    by_cases hi:i=n0+j0
    ·rw[if_pos hi]at a;exact .inr ⟨0,id,u,e,es,p,by omega,by simp,g,a⟩
    ·rw[if_neg hi]at a;refine .inl ⟨a,fun j id' v' k=>?_⟩;cases j with
     | zero=>omega
     | succ j=>simpa using b j id' v' (by omega)
   ·exact .inr ⟨j+1,id',v',e',es',p',by omega,by simpa using b,d,f⟩
  ·cases h
theorem Z8c:∀{L:List (Option (Nat×Nat))} {j k id v w:Nat},Ze7 L=true->L[j]? = some (some (id,v))->L[k]? = some (some (id,w))->j=k
 | [],_,_,_,_,_,_,h,_=>by simp at h
 | none::L,j,k,id,v,w,hu,h1,h2=>by
  cases j with
  | zero=>simp at h1
  | succ j=>cases k with
   | zero=>simp at h2
   | succ k=>exact congrArg (· + 1) (Z8c (L:=L) (j:=j) (k:=k) (id:=id) (v:=v) (w:=w) (by simpa[Ze7]using hu) (by simpa using h1) (by simpa using h2))
 | some (i,u)::L,j,k,id,v,w,hu,h1,h2=>by
  simp only[Ze7,jn,List.all_eq_true]at hu;have a:∀{k x:Nat},L[k]? = some (some (i,x))->False:=fun {k x} hk=>by
   have:=hu.1 _ (List.mem_of_getElem? hk);simp at this
  cases j with
  | zero =>
   have e1:i=id:=by
    have:i=id/\u=v:=by simpa using h1
    exact this.1
   subst e1;cases k with
   | zero=>rfl
   | succ k=>exact(a (by simpa using h2)).elim
  | succ j =>
   replace h1:L[j]? = some (some (id,v)):=by simpa using h1
   cases k with
   | zero =>
    have e1:i=id:=by
     have:i=id/\u=w:=by simpa using h2
     exact this.1
    subst e1;exact(a h1).elim
   | succ k=>rw[Z8c hu.2 h1 (by simpa using h2)]
end
section
variable {P:Program} {E:Env} {w0:World} {G0:Gh} {D:DD} {w:World} {β:Bi} {G:Gh} {n0:Nat} {L:List (Option (Nat×Nat))} {base:Nat} {h:Nat->Option Zb}
theorem Z1t:∀{es:List (List DV)},(∀c∈es,Zc c=true)->Zc es.flatten=true
 | [],_=>rfl
 | c::es,h=>by
  have a:∀(xs ys:List DV),Zc xs=true->Zc ys=true->Zc (xs++ys)=true:=fun xs=>by
   induction xs with
   | nil=>intro ys _ h;exact h
   | cons x xs ih =>
    intro ys b d;simp only[Zc,jn,List.cons_append]at b⊢;exact⟨b.1,ih ys b.2 d⟩
  rw[List.flatten_cons];exact a _ _ (h c (by simp)) (Z1t fun x e=>h x (by simp[e]))
theorem ZeB {k:DV} (h:keyOk k=true):Zf k=true:=by
 cases k with
 | agg cs =>
  simp only[keyOk,List.all_eq_true]at h;simp only[Zf];exact YJ.2 fun c hc=>by have:=h c hc;cases c<;>first|rfl|cases this
 | _=>first|rfl|cases h
theorem Z7I {β':Bi}:∀{es:List (DV×DV)} {ms:List MapEntry},Z64 β G es ms->Z64 β' G es ms
 | [],_,h=>h
 | (k,v)::es,_,⟨m,ms',h1,h2,h3,h4,h5,h6⟩=>⟨m,ms',h1,Rep.free k m.key (ZeB h4) h2,Rep.free v m.val h5 h3,h4,h5,Z7I h6⟩
theorem Zcc {id:Nat} {x x':Zb} (g:id<n0) (h:Z2F n0 L x=some x') (e:Z1M E base w β G id x):Z1M E base w (Z18 n0 L β) G id x'/\∀b,Yf (Z18 n0 L β) id x' b↔Yf β id x b:=by
 have a:(Z18 n0 L β).blk id=β.blk id:=by simp[Z18,g]
 have hh:∀u,(Z18 n0 L β).hdr id u=β.hdr id u:=fun u=>by simp[Z18,g]
 cases x with
 | cells t cs =>
  simp only[Z2F]at h;obtain⟨cs',i,h⟩:=Z0 h;cases h;obtain⟨b,vs,k1,k2,k3,k4,k5⟩:=e;obtain⟨m1,m2⟩:=Z77 (β:=β) i k3;exact⟨⟨b,vs,by rw[a];exact k1,k2,m1,by rw[m2];exact k4,k5⟩,fun b=>by simp[Yf,a]⟩
 | row t es p u =>
  cases h;obtain⟨hdr,vals,k1,k2,k3,k4,k5,k6,k7⟩:=e;refine⟨⟨hdr,vals,by rw[hh];exact k1,k2,Ze.free _ _ ?_ k3,k4,k5,k6,fun u' j=>by rw[hh];exact k7 u' j⟩,fun b=>by simp[Yf,hh]⟩
  exact Z1t fun c hc=>(k4 c hc).2.1
 | map es =>
  cases h;obtain⟨b,ms,clock,k1,k2,k3,k4⟩:=e;exact⟨⟨b,ms,clock,by rw[a];exact k1,k2,Z7I k3,k4⟩,fun b=>by simp[Yf,a]⟩
 | mit m n se =>
  simp only[Z2F]at h;obtain⟨k,h⟩:=Z3 h;cases h;have k:m<n0:=jf k;obtain⟨b,bm,c0,k1,k2,k3⟩:=e;exact⟨⟨b,bm,c0,by rw[a];exact k1,by simp[Z18,k];exact k2,k3⟩,fun b=>by simp[Yf,a]⟩
 | bag t es u =>
  cases h;obtain⟨fs,r,hdr,vals,k1,k2,k3,k4,k5,k6,k7⟩:=e;refine⟨⟨fs,r,hdr,vals,by rw[hh];exact k1,k2,Ze.free _ _ ?_ k3,k4,k5,k6,fun u' j=>by rw[hh];exact k7 u' j⟩,fun b=>by simp[Yf,hh]⟩
  exact Z1t fun c hc=>(k4 c hc).2.1
 | siter s pos =>
  cases h;obtain⟨b,k1,k2⟩:=e;exact⟨⟨b,by rw[a];exact k1,k2⟩,fun b=>by simp[Yf,a]⟩
 | loop fid bs ps as bo bid ex =>
  simp only[Z2F]at h;obtain⟨bs',i,h⟩:=Z0 h;cases h;obtain⟨b,tmps,df,fn,F,k1,k2,k3,k4,k5,k6⟩:=e;refine⟨⟨b,tmps,df,fn,F,by rw[a];exact k1,k2,fun t d ht=>?_,k4,k5,fun t d ht=>?_⟩,fun b=>by simp[Yf,a]⟩
  ·rcases Tr.tm_get1 i t with⟨_,f⟩|⟨x,y,f,l,o⟩
   ·rw[f]at ht;cases ht
   ·obtain⟨d',h6,q⟩:=Z0 l;cases q;rw[o]at ht;cases ht;obtain⟨v,z,h9⟩:=k3 t x f;exact⟨v,z,(Zce h6 h9).1⟩
  ·rcases Tr.tm_get1 i t with⟨_,f⟩|⟨x,y,f,l,o⟩
   ·rw[f]at ht;cases ht
   ·exact k6 t x f
theorem Z6k {id:Nat}:∀{L:List (Option (Nat×Nat))},Z3c id L=false->∀(j v:Nat),L[j]? ≠ some (some (id,v))
 | [],_,j,v=>by simp
 | none::L,h,j,v=>by
  cases j with
  | zero=>simp
  | succ j=>simpa using Z6k (L:=L) (by simpa[Z3c]using h) j v
 | some (i,w)::L,h,j,v=>by
  simp only[Z3c,Bool.or_eq_false_iff]at h;cases j with
  | zero =>
   intro e;simp only[List.getElem?_cons_zero,jh,Prod.mk.injEq]at e;rw[e.1,Tr.beq_dec]at h;simp at h
  | succ j=>simpa using Z6k (L:=L) h.2 j v
theorem ZhY (hh:HR E w0 G0 D w β G h) (hu:Ze7 L=true) {h':Nat->Option Zb}
  (hs:∀i x',h' i=some x'->((i<n0/\∀(j v:Nat),L[j]? ≠ some (some (i,v)))/\∃x,h i=some x/\Z2F n0 L x=some x')\/(∃j id v e es p,i=n0+j/\L[j]? = some (some (id,v))/\h id=some (.row e es p v)/\x'=.row e es p 0)) :
  HR E w0 G0 D w (Z18 n0 L β) G h':=by
 have a:∀i x',h' i=some x'->∃k x,h k=some x/\Z1M E w0.heap.size w (Z18 n0 L β) G i x'/\(∀b,Yf (Z18 n0 L β) i x' b->Yf β k x b)/\(((i<n0/\∀(j v:Nat),L[j]? ≠ some (some (i,v)))/\k=i)\/∃j v,i=n0+j/\L[j]? = some (some (k,v))):=fun i x' hi=>by
  rcases hs i x' hi with⟨d,x,q,hr⟩|⟨j,id,v,e,es,p,rfl,r,q,rfl⟩
  ·obtain⟨k1,k2⟩:=Zcc d.1 hr (hh.obj i x q);exact⟨i,x,q,k1,fun b f=>(k2 b).1 f,.inl ⟨d,rfl⟩⟩
  ·obtain⟨hdr,vals,k1,k2,k3,k4,k5,k6,k7⟩:=hh.obj id _ q;have g:=Zb8 (n0:=n0) (β:=β) r;refine⟨id,_,q,⟨hdr,vals,by rw[g];exact k1,k2,Ze.free _ _ (Z1t fun c hc=>(k4 c hc).2.1) k3,k4,k5,k6,fun u' hu'=>?_⟩,fun b f=>?_,.inr ⟨j,v,rfl,r⟩⟩
   ·have n:¬n0+j<n0:=by omega
    have t:u'≠0:=by omega
    simp[Z18,n,t]
   ·obtain⟨m,c,f⟩:=f;exact⟨m,c,by rw[<-g];exact f⟩
 refine⟨hh.below,hh.g0,hh.agree,fun i x' hi=>?_,fun i x' b hi f=>?_,fun i i' x y b hi u f hb'=>?_,hh.marks,hh.inv0⟩
 ·obtain⟨k,x,_,t,_⟩:=a i x' hi;exact t
 ·obtain⟨k,x,n,_,h3,_⟩:=a i x' hi;exact hh.own k x b n (h3 b f)
 ·obtain⟨k,z,n,_,h3,h4⟩:=a i x hi;obtain⟨k',z',h1',_,h3',s⟩:=a i' y u;have hk:k=k':=hh.inj k k' z z' b n h1' (h3 b f) (h3' b hb');subst hk;rcases h4 with⟨d,rfl⟩|⟨j,v,rfl,r⟩<;>rcases s with⟨l,e'⟩|⟨j',v',rfl,o⟩
  ·exact e'
  ·exact absurd o (d.2 _ _)
  ·subst e';exact absurd r (l.2 _ _)
  ·rw[Z8c hu r o]
theorem HR.rebi (hh:HR E w0 G0 D w β G h) {β':Bi} (e:Ext β G β' G) (a:∀i o,h i=some o->β'.blk i=β.blk i/\∀u,β'.hdr i u=β.hdr i u):HR E w0 G0 D w β' G h:=by
 refine⟨hh.below,hh.g0,hh.agree,fun i o hi=>?_,fun i o b hi d=>?_,fun i k o p b hi c d hc=>?_,hh.marks,hh.inv0⟩
 ·exact Z1M.keep e (a i o hi).2 (fun _ _=>⟨rfl,fun _=>rfl⟩) (hh.obj i o hi)
 ·exact hh.own i o b hi ((Z1e (a i o hi).1 (a i o hi).2 o b).1 d)
 ·exact hh.inj i k o p b hi c ((Z1e (a i o hi).1 (a i o hi).2 o b).1 d) ((Z1e (a k p c).1 (a k p c).2 p b).1 hc)
theorem ZdF:∀{cs:List DV} {vs:List Value} {off:Nat} {d:DV} {v:Value},Ze β G cs vs->vs[off]? = some v->Rep β G d v->Ze β G (cs.set off d) vs
 | [],_,_,_,_,h,_,_=>h
 | c::cs,_,off,d,v,h,hv,hr=>by
  obtain⟨u,vs',rfl,b,a⟩:=Za.1 h;cases off with
  | zero=>simp at hv;subst hv;exact Za.2 ⟨u,vs',rfl,hr,a⟩
  | succ off=>exact Za.2 ⟨u,vs',rfl,b,ZdF a (by simpa using hv) hr⟩
theorem Zfp:∀{cs:List DV} {off:Nat} {d:DV},cs.all Zw=true->Zw d=true->(cs.set off d).all Zw=true
 | [],_,_,h,_=>h
 | c::cs,off,d,h,hd=>by
  simp only[jt,jn]at h;cases off with
  | zero=>simp[hd];simpa using h.2
  | succ off=>simp[h.1];simpa using Zfp (off:=off) h.2 hd
theorem Z2d (tm:Array Value) (V:Nat):∀(as:List Acc) (j:Nat) (b:Tr DV) (no:Tr Zb) (β:Bi) (r:Tr DV×Tr Zb),Yi E n0 j as (b,no)=some r →
  HR E w0 G0 D w β G no.get->FrM β G b.get tm->(∀t d,b.get t=some d->Nat.testBit V t=true)->(∀i,n0<=i->no.get i=none->ZE β no.get i)->(∀i,n0+j+as.length<=i->no.get i=none) →
  ∃β',Ext β G β' G/\Z4O n0 β β'/\HR E w0 G0 D w β' G r.2.get/\FrM β' G r.1.get tm/\(∀t d,r.1.get t=some d->Nat.testBit V t=true)/\(∀i,n0+j+as.length<=i->ZE β' r.2.get i) ∧
   ∀i,i<n0->no.get i=none->r.2.get i=none
 | [],j,b,no,β,r,h,hh,f,hd,hfr,hn=>by
  simp only[Yi,jh]at h;subst h;exact⟨β,Ext.refl β G,⟨fun _ _=>rfl,fun _ _ _=>rfl⟩,hh,f,hd,fun i hi=>hfr i (by simp at hi;omega) (hn i hi),fun _ _ h=>h⟩
 | ac::as,j,b,no,β,r,h,hh,f,hd,hfr,hn=>by
  simp only[List.length_cons]at hn⊢;have skip:Yi E n0 (j+1) as (b,no)=some r->∃β',Ext β G β' G/\Z4O n0 β β'/\HR E w0 G0 D w β' G r.2.get/\FrM β' G r.1.get tm/\(∀t d,r.1.get t=some d->Nat.testBit V t=true)/\(∀i,n0+j+(as.length+1)<=i->ZE β' r.2.get i) ∧
   ∀i,i<n0->no.get i=none->r.2.get i=none:=fun h=>by
   obtain⟨β',k1,k2,k3,k4,k5,k6,k7⟩:=Z2d tm V as (j+1) b no β r h hh f hd hfr (fun i hi=>hn i (by omega))
   exact⟨β',k1,k2,k3,k4,k5,fun i hi=>k6 i (by omega),k7⟩
  have add:∀(b1:Tr DV) (no1:Tr Zb) (e:TypeId) (ei:TI),E.ty e=some ei->0<ei.size->no.get (n0+j)=none->Yi E n0 (j+1) as (b1,no1.set (n0+j) (some (.row e [] 0 0)))=some r →
    (∀i,i≠n0+j->(no1.get i=none↔no.get i=none)) →
    (∀β1,Ext β G β1 G->Z4O n0 β β1->(∀i,i≠n0+j->β1.blk i=β.blk i/\∀u,β1.hdr i u=β.hdr i u)->β1.hdr (n0+j) 0=some (.slice none 0 0)->FrM β1 G b1.get tm/\(∀t d,b1.get t=some d->Nat.testBit V t=true)/\HR E w0 G0 D w β1 G (fun i=>if i=n0+j then none else no1.get i)) →
    ∃β',Ext β G β' G/\Z4O n0 β β'/\HR E w0 G0 D w β' G r.2.get/\FrM β' G r.1.get tm/\(∀t d,r.1.get t=some d->Nat.testBit V t=true)/\(∀i,n0+j+(as.length+1)<=i->ZE β' r.2.get i) ∧
     ∀i,i<n0->no.get i=none->r.2.get i=none:=fun b1 no1 e ei z hpos a1 hrec y hb1=>by
   have p:=hfr (n0+j) (by omega) a1
   let β1:Bi:={ β with hdr:=fun i u=>if i=n0+j/\u=0 then some (.slice none 0 0)else β.hdr i u }
   have l:Ext β G β1 G:=⟨fun _ _ _ h=>h,fun _ _ h=>h,fun i u v hv=>by
    by_cases e1:i=n0+j/\u=0
    ·rw[e1.1,p.hdr]at hv;cases hv
    ·simp only[β1,if_neg e1];exact hv⟩
   have g:Z4O n0 β β1:=⟨fun _ _=>rfl,fun i hi u=>by
    have:¬(i=n0+j/\u=0):=by omega
    simp only[β1,if_neg this]⟩
   have a:∀i,i≠n0+j->β1.blk i=β.blk i/\∀u,β1.hdr i u=β.hdr i u:=fun i hi=>⟨rfl,fun u=>by simp[β1,hi]⟩
   obtain⟨hf1,hd1,n⟩:=hb1 β1 l g a (by simp[β1])
   have hh2:HR E w0 G0 D w β1 G (no1.set (n0+j) (some (.row e [] 0 0))).get:=by
    refine(n.move (fun _=>False) (n0+j) (.row e [] 0 0) (Ext.refl _ _) n.below (fun _ _ _=>rfl) (fun _ _=>rfl) (Nat.le_refl _) (fun _ f=>f.elim) (fun _ _ _ f=>f.elim) (fun _ f=>f.elim) ?_ ?_ ?_ (fun _ _=>⟨rfl,fun _=>rfl⟩)).eq fun i=>?_
    ·refine⟨.slice none 0 0,[],by simp[β1],⟨by simp,.inl ⟨rfl,rfl⟩⟩,Zg.2 rfl,by simp,⟨by rw[Z3Q z];exact hpos,Nat.le_refl _⟩,fun b hb=>by simp[Value.ownBlock]at hb,fun u' hu'=>?_⟩
     have:¬(u'=0):=by omega
     simp[β1,this,p.hdr]
    ·rintro x ⟨m,c,hb⟩;simp[β1]at hb
    ·rintro x ⟨m,c,hb⟩;simp[β1]at hb
    ·rw[Zz,Tr.get_set]
     by_cases e1:i=n0+j<;>simp[e1]
   have hs1:∀i,n0<=i->(no1.set (n0+j) (some (.row e [] 0 0))).get i=none->ZE β1 (no1.set (n0+j) (some (.row e [] 0 0))).get i:=fun i hi k=>by
    have hq0:=k;rw[Tr.get_set]at k
    by_cases e1:i=n0+j
    ·rw[if_pos e1]at k;cases k
    ·rw[if_neg e1]at k;have:=hfr i hi ((y i e1).1 k);exact⟨(a i e1).1.trans this.blk,fun u=>((a i e1).2 u).trans (this.hdr u),hq0⟩
   have hs2:∀i,n0+(j+1)+as.length<=i->(no1.set (n0+j) (some (.row e [] 0 0))).get i=none:=fun i hi=>by
    rw[Tr.get_set,if_neg (by omega)]
    exact(y i (by omega)).2 (hn i (by omega))
   obtain⟨β',k1,k2,k3,k4,k5,k6,k7⟩:=Z2d tm V as (j+1) b1 _ β1 r hrec hh2 hf1 hd1 hs1 hs2;refine⟨β',l.trans k1,⟨fun i hi=>(k2.blk i hi).trans (g.blk i hi),fun i hi u=>(k2.hdr i hi u).trans (g.hdr i hi u)⟩,k3,k4,k5,fun i hi=>k6 i (by omega),fun i hi k=>k7 i hi ?_⟩
   rw[Tr.get_set,if_neg (by omega)];exact(y i (by omega)).2 k
  cases ac with
  | slot t e =>
   simp only[Yi]at h;split at h
   ·rename_i a2;obtain⟨ei,z,h⟩:=Z0 h;obtain⟨k,h⟩:=Z3 h;simp only[jn,Option.isNone_iff_eq_none]at k;refine add _ no e ei z (jf k.1) k.2 h (fun _ _=>Iff.rfl) fun β1 l g a hn1=>⟨fun t' d ht=>?_,fun t' d ht=>?_,?_⟩
    ·rw[Tr.get_set]at ht
     by_cases e1:t'=t
     ·subst e1;rw[if_pos rfl]at ht;cases ht;obtain⟨v,h1,h2⟩:=f t' _ a2;rw[Z1o]at h2;exact⟨v,h1,Z1i.2 ⟨by rw[hn1,h2],_,_,_,h2⟩⟩
     ·rw[if_neg e1]at ht;obtain⟨v,h1,h2⟩:=f t' d ht;exact⟨v,h1,Rep.mono l d v h2⟩
    ·rw[Tr.get_set]at ht
     by_cases e1:t'=t
     ·subst e1;exact hd t' _ a2
     ·rw[if_neg e1]at ht;exact hd t' d ht
    ·exact HR.rebi (hh.less fun i o hi=>by
      by_cases e1:i=n0+j
      ·rw[if_pos e1]at hi;cases hi
      ·rw[if_neg e1]at hi;exact hi) l fun i o hi=>by
      by_cases e1:i=n0+j
      ·rw[if_pos e1]at hi;cases hi
      ·exact a i e1
   ·exact skip h
  | cell t off e =>
   simp only[Yi]at h;split at h
   ·split at h
    ·split at h
     ·rename_i q a2 _ ct cs s _ hcs;obtain⟨ei,z,h⟩:=Z0 h;obtain⟨k,h⟩:=Z3 h;simp only[jn,Option.isNone_iff_eq_none]at k;have a0:q≠n0+j:=fun e1=>by rw[e1,k.2]at s;cases s
      refine add b _ e ei z (jf k.1) k.2 h (fun i hi=>?_) fun β1 l g a hn1=>⟨f.mono l,hd,?_⟩
      ·rw[Tr.get_set]
       by_cases e1:i=q
       ·subst e1;simp[s]
       ·rw[if_neg e1]
      ·have n:HR E w0 G0 D w β1 G (fun i=>if i=n0+j then none else no.get i):=HR.rebi (hh.less fun i o hi=>by
        by_cases e1:i=n0+j
        ·rw[if_pos e1]at hi;cases hi
        ·rw[if_neg e1]at hi;exact hi) l fun i o hi=>by
        by_cases e1:i=n0+j
        ·rw[if_pos e1]at hi;cases hi
        ·exact a i e1
       obtain⟨bk,vs,m1,m2,m3,m4,m5⟩:=n.obj q (.cells ct cs) (by rw[if_neg a0];exact s)
       obtain⟨v,m6,m7⟩:=Z3X m3 hcs;rw[Z1o]at m7;subst m7;refine(n.move (fun _=>False) q (.cells ct (cs.set off (.rs (n0+j) 0))) (Ext.refl _ _) n.below (fun _ _ _=>rfl) (fun _ _=>rfl) (Nat.le_refl _) (fun _ f=>f.elim) (fun _ _ _ f=>f.elim) (fun _ f=>f.elim) ?_ ?_ ?_ (fun _ _=>⟨rfl,fun _=>rfl⟩)).eq fun i=>?_
       ·exact⟨bk,vs,m1,m2,ZdF m3 m6 (Z1i.2 ⟨hn1,_,_,_,rfl⟩),Zfp m4 rfl,m5⟩
       ·intro x hx;exact .inr ⟨.cells ct cs,by rw[if_neg a0];exact s,hx⟩
       ·intro x hx;exact(n.own q (.cells ct cs) x (by rw[if_neg a0];exact s) hx).2.1
       ·rw[Zz,Tr.get_set]
        by_cases e1:i=q
        ·subst e1;simp[a0]
        ·simp[e1]
     ·exact skip h
    ·exact skip h
   ·exact skip h
end
end Go.Ab
namespace Go.Ab
open Go.RowKit
section
variable {P:Program} {E:Env} {w0:World} {G0:Gh} {outer:DD} {own:List Nat} {V nt:Nat} {a:Act} {w:World} {β:Bi} {G:Gh} {n0:Nat}
abbrev SS (E:Env) (w0:World) (G0:Gh) (outer:DD) (V nt:Nat) (own:List Nat) (s:St) (a:Act) (w:World) (β:Bi) (G:Gh):Prop :=
 MI E w0 G0 outer V nt own s.base.get s.base s.objs.get s.next a w β G
theorem ZhB {id:Nat} {x:Zb} (h:Z1M E w0.heap.size w β G id x):Z1M E w0.heap.size w β G id (Z56 x):=by
 cases x with
 | row t es p u =>
  obtain⟨hdr,vals,k1,k2,k3,k4,k5,k6,k7⟩:=h;exact⟨hdr,vals,k1,k2,k3,k4,⟨k5.1,Z9Q _ _⟩,fun b c o a=>k6 b c o (Nat.le_trans (Nat.mul_le_mul_right _ (Z9Q _ _)) a),k7⟩
 | _=>exact h
theorem Z7H {id:Nat} {x:Zb} {b:Nat}:Yf β id (Z56 x) b↔Yf β id x b:=by cases x<;>exact Iff.rfl
theorem Tr.mapv_get1 {α γ:Type} (f:α->γ):∀(t:Tr α) (k:Nat),(t.mapv f).get k=(t.get k).map f
 | .leaf,_=>rfl
 | .node l v r,k=>by
  simp only[Tr.mapv,Tr.get];cases Nat.beq k 0 with
  | true=>rfl
  | false =>
   simp only[jA];cases Nat.beq (k % 2) 1 with
   | true=>exact mapv_get1 f l _
   | false=>exact mapv_get1 f r _
theorem HR.lift {h:Nat->Option Zb} {D:DD} (hh:HR E w0 G0 D w β G h) {h':Nat->Option Zb} (d:∀i,h' i=(h i).map Z56):HR E w0 G0 D w β G h':=by
 have key:∀i x',h' i=some x'->∃x,h i=some x/\x'=Z56 x:=fun i x' hi=>by
  rw[d i]at hi;cases hq:h i with
  | none=>rw[hq]at hi;cases hi
  | some x=>rw[hq]at hi;cases hi;exact⟨x,rfl,rfl⟩
 refine⟨hh.below,hh.g0,hh.agree,fun i x' hi=>?_,fun i x' b hi c=>?_,fun i j x y b hi f c hc=>?_,hh.marks,hh.inv0⟩
 ·obtain⟨x,a,rfl⟩:=key i x' hi;exact ZhB (hh.obj i x a)
 ·obtain⟨x,a,rfl⟩:=key i x' hi;exact hh.own i x b a (Z7H.1 c)
 ·obtain⟨x',a,rfl⟩:=key i x hi;obtain⟨y',e,rfl⟩:=key j y f;exact hh.inj i j x' y' b a e (Z7H.1 c) (Z7H.1 hc)
theorem Zdt {c:Z3K} {s s':St} (k:Zds E c n0 s=some s') (hm:SS E w0 G0 outer V nt own s a w β G) :
  ∃β',SS E w0 G0 outer V nt own s' a w β' G/\Z4O n0 β β'/\(∀i,i<n0->s.objs.get i=none->s'.objs.get i=none)/\n0<=s'.next:=by
 unfold Zds at k;simp only at k;obtain⟨hu,k⟩:=Z3 k;obtain⟨b,hb,k⟩:=Z0 k;obtain⟨o1,a0,k⟩:=Z0 k;obtain⟨o2,o,k⟩:=Z0 k;obtain⟨r,hr,k⟩:=Z0 k;cases k;generalize ZbH s.objs s.base n0 c.keep (c.accs.map (Z67 s.objs s.base))=XL at hu hb a0 o hr;generalize hLdef:XL.map some++c.accs.map (Z67 s.objs s.base)=L at hu hb a0 o;have hLlen:L.length=XL.length+c.accs.length:=by rw[<-hLdef,List.length_append,List.length_map,List.length_map]
 have g:∀i x',o2.get i=some x'->((i<n0/\∀(j v:Nat),L[j]? ≠ some (some (i,v)))/\∃x,s.objs.get i=some x/\Z2F n0 L x=some x')\/(∃j id v e es p,i=n0+j/\L[j]? = some (some (id,v))/\s.objs.get id=some (.row e es p v)/\x'=.row e es p 0):=fun i x' hi=>by
  rcases Z2M o i with⟨h,l⟩|⟨j,id,v,e,es,p,h,l,n,f⟩
  ·rw[h]at hi;rcases Tr.tm_get1 a0 i with⟨_,f⟩|⟨x,y,n,f,h5⟩
   ·rw[f]at hi;cases hi
   ·rw[h5]at hi;cases hl:(Nat.blt i n0 && !Z3c i L)with
    | true =>
     rw[hl]at f;simp only[jB]at f;obtain⟨z,h6,h7⟩:=Z0 f;cases h7;cases hi;simp only[jn,Bool.not_eq_true',Tr.blt_dec,jk]at hl;exact .inl ⟨⟨hl.1,Z6k hl.2⟩,x,n,h6⟩
    | false =>
     rw[hl]at f;simp only[jA]at f;cases f;cases hi
  ·rw[f]at hi;cases hi;exact .inr ⟨j,id,v,e,es,p,by omega,l,n,rfl⟩
 have hh1:=ZhY hm.hr hu g
 have m:∀t d',b.get t=some d'->∃d,s.base.get t=some d/\ren n0 L d=some d':=fun t d' ht=>by
  rcases Tr.tm_get1 hb t with⟨_,f⟩|⟨x,y,n,f,h5⟩
  ·rw[f]at ht;cases ht
  ·rw[h5]at ht;subst ht;cases hk:Nat.testBit c.keep t with
   | true =>
    rw[hk]at f;simp only[jB]at f;obtain⟨z,h6,h7⟩:=Z0 f;cases h7;exact⟨x,n,h6⟩
   | false =>
    rw[hk]at f;simp only[jA]at f;cases f
 have hf1:FrM (Z18 n0 L β) G b.get a.tmps:=fun t d' ht=>by
  obtain⟨d,h,l⟩:=m t d' ht;obtain⟨v,n,f⟩:=hm.fr t d h;exact⟨v,n,(Zce l f).1⟩
 have hd1:∀t d,b.get t=some d->Nat.testBit V t=true:=fun t d' ht=>by
  obtain⟨d,h,_⟩:=m t d' ht;exact hm.dom t d h
 have a1:∀i,n0<=i->o2.get i=none->ZE (Z18 n0 L β) o2.get i:=fun i hi q=>by
  have h:¬i<n0:=by omega
  refine⟨by simp[Z18,h],fun u=>?_,q⟩
  simp only[Z18,h,if_false]
  by_cases hu0:u=0
  ·rw[if_pos hu0];split
   ·rename_i id v hj;rcases Z2M o i with⟨l,n⟩|⟨j,id',v',e,es,p,l,n,f,h5⟩
    ·exact absurd hj (n (i-n0) id v (by omega))
    ·rw[h5]at q;cases q
   ·rfl
  ·rw[if_neg hu0]
 have hn1:∀i,n0+XL.length+c.accs.length<=i->o2.get i=none:=fun i hi=>by
  cases q:o2.get i with
  | none=>rfl
  | some x =>
   rcases g i x q with⟨h,_⟩|⟨j,id,v,e,es,p,h,l,_⟩
   ·have:=h.1;omega
   ·have:=(jc.1 l).1;omega
 obtain⟨β',k1,k2,k3,k4,k5,k6,k7⟩:=Z2d a.tmps V c.accs XL.length b o2 _ r hr hh1 hf1 hd1 a1 hn1;have a2:=Z5i n0 L β;refine⟨β',⟨k4,k5,hm.sz,k3,fun i hi=>k6 i hi,hm.df⟩,⟨fun i hi=>(k2.blk i hi).trans (a2.blk i hi),fun i hi u=>(k2.hdr i hi u).trans (a2.hdr i hi u)⟩,fun i hi q=>k7 i hi ?_,by show n0<=n0+XL.length+c.accs.length;omega⟩
 cases hz:o2.get i with
 | none=>rfl
 | some x =>
  rcases g i x hz with⟨_,x',l,_⟩|⟨j,id,v,e,es,p,h,_⟩
  ·rw[q]at l;cases l
  ·omega
theorem ZeK {b:Z3K} {s s':St} (c:Zdr E b n0 s=some s') (f:SS E w0 G0 outer V nt own s a w β G) :
  ∃β',SS E w0 G0 outer V nt own s' a w β' G/\Z4O n0 β β'/\(∀i,i<n0->s.objs.get i=none->s'.objs.get i=none)/\n0<=s'.next:=by
 unfold Zdr at c;obtain⟨s1,j,c⟩:=Z0 c;cases c;obtain⟨β',k1,k2,k3,k4⟩:=Zdt j f;cases b.raw with
 | true=>exact⟨β',k1,k2,k3,k4⟩
 | false =>
  simp only[jA];have e:∀i,(s1.objs.mapv Z56).get i=(s1.objs.get i).map Z56:=Tr.mapv_get1 Z56 _;refine⟨β',⟨k1.fr,k1.dom,k1.sz,k1.hr.lift e,fun i hi=>?_,k1.df⟩,k2,fun i hi g=>?_,k4⟩
  ·have d:=k1.fresh i hi;exact⟨d.blk,d.hdr,by show(s1.objs.mapv Z56).get i=none;rw[e,d.h];rfl⟩
  ·show(s1.objs.mapv Z56).get i=none;rw[e,k3 i hi g];rfl
end
end Go.Ab
namespace Go.Ab
open Go.RowKit
theorem Z3b {i:Nat}:∀{l:List Nat},Z3H i l=true↔i∈l
 | []=>by simp[Z3H]
 | j::l=>by
  simp only[Z3H,Tr.beq_dec,jv]
  by_cases e:i=j
  ·simp[e]
  ·simp[e,Z3b (l:=l)]
theorem Z5x {i:Nat}:∀{l:List Nat},i∈l->Z1Q i l<Z2q l
 | j::l,h=>by
  simp only[Z1Q,Z2q,Tr.beq_dec]
  by_cases e:i=j
  ·simp[e]
  ·have:=Z5x (l:=l) (by simpa[e]using h)
   simp[e,this]
theorem Z4o {d i:Nat}:∀{l:List Nat},i∈l->Z6l d (Z1Q i l) l=i
 | j::l,h=>by
  simp only[Z1Q,Tr.beq_dec]
  by_cases e:i=j
  ·simp[e,Z6l]
  ·have:=Z4o (d:=d) (l:=l) (by simpa[e]using h)
   simp[e,Z6l,this]
theorem Zc0 {d:Nat}:∀{l:List Nat} {j:Nat},j<Z2q l->Z6l d j l∈l
 | [],j,h=>by simp[Z2q]at h
 | i::l,0,_=>by simp[Z6l]
 | i::l,j+1,h=>by
  simp only[Z2q]at h;simp only[Z6l,jv];exact .inr (Zc0 (by omega))
theorem Z8Q {d:Nat}:∀{l:List Nat} {j:Nat},Zaj l=true->j<Z2q l->Z1Q (Z6l d j l) l=j
 | [],j,_,h=>by simp[Z2q]at h
 | i::l,0,_,_=>by simp[Z6l,Z1Q]
 | i::l,j+1,hu,h=>by
  simp only[Z2q]at h;simp only[Zaj,jn,Bool.not_eq_true']at hu;have b:=Zc0 (d:=d) (l:=l) (j:=j) (by omega)
  have a:¬Z6l d j l=i:=fun e=>by
   have:=Z3b.2 b;rw[e,hu.1]at this;cases this
  simp only[Z6l,Z1Q,Tr.beq_dec,a,decide_false,jA,Z8Q hu.2 (by omega:j<Z2q l)]
theorem Z5C {j:Nat}:∀{n i:Nat},j∈upN i n↔i<=j/\j<i+n
 | 0,i=>by simp[upN]
 | n+1,i=>by
  simp only[upN,jv,Z5C];omega
theorem ZbW {k i:Nat}:∀{l:List Nat},i∈geN k l↔i∈l/\k<=i
 | []=>by simp[geN]
 | j::l=>by
  simp only[geN];cases hb:Nat.ble k j with
  | true =>
   have:=jf hb;simp only[jB,jv,ZbW (l:=l)];constructor
   ·rintro(e|⟨b,a⟩)
    ·subst e;exact⟨.inl rfl,this⟩
    ·exact⟨.inr b,a⟩
   ·rintro⟨e|e,a⟩
    ·exact .inl e
    ·exact .inr ⟨e,a⟩
  | false =>
   have:¬k<=j:=fun h=>by rw[Nat.ble_eq_true_of_le h]at hb;cases hb
   simp only[jA,jv,ZbW (l:=l)];constructor
   ·rintro⟨b,a⟩;exact⟨.inr b,a⟩
   ·rintro⟨e|e,a⟩
    ·subst e;exact absurd a this
    ·exact⟨e,a⟩
theorem Tr.allV_get {α:Type} {p:α->Bool}:∀{t:Tr α},t.allV p=true->∀{k:Nat} {x:α},t.get k=some x->p x=true
 | .leaf,_,k,x,h=>by cases h
 | .node l v r,ha,k,x,h=>by
  simp only[Tr.allV,jn]at ha;rw[Tr.get_node]at h
  by_cases e0:k=0
  ·rw[if_pos e0]at h;subst h;exact ha.2.1
  ·rw[if_neg e0]at h
   by_cases e1:k % 2=1
   ·rw[if_pos e1]at h;exact Tr.allV_get ha.1 h
   ·rw[if_neg e1]at h;exact Tr.allV_get ha.2.2 h
theorem Tr.mapv_get' {α β:Type} (f:α->β):∀(t:Tr α) (k:Nat),(t.mapv f).get k=(t.get k).map f
 | .leaf,_=>rfl
 | .node l v r,k=>by
  simp only[Tr.mapv];rw[Tr.get_node,Tr.get_node]
  by_cases e0:k=0
  ·rw[if_pos e0,if_pos e0]
  ·rw[if_neg e0,if_neg e0]
   by_cases e1:k % 2=1
   ·rw[if_pos e1,if_pos e1];exact Tr.mapv_get' f l _
   ·rw[if_neg e1,if_neg e1];exact Tr.mapv_get' f r _
theorem Tr.ents_get {α:Type}:∀(t:Tr α) (a b k:Nat) (x:α),t.get k=some x->(a*k+b,x)∈t.ents a b
 | .leaf,_,_,_,_,h=>by cases h
 | .node l v r,a,b,k,x,h=>by
  rw[Tr.get_node]at h;simp only[Tr.ents,List.mem_append]
  by_cases e0:k=0
  ·rw[if_pos e0]at h;subst h;subst e0;exact .inr (.inl (by simp))
  ·rw[if_neg e0]at h
   by_cases e1:k % 2=1
   ·rw[if_pos e1]at h;have:=Tr.ents_get l (2*a) (a+b) _ _ h;rw[show 2*a*(k / 2)+(a+b)=a*k+b by
     have:k=2*(k / 2)+1:=by omega
     generalize k / 2=m at this;subst this;rw[Nat.mul_add,<-Nat.mul_assoc,Nat.mul_comm a 2];omega]at this
    exact .inl this
   ·rw[if_neg e1]at h;have:=Tr.ents_get r (2*a) (2*a+b) _ _ h;rw[show 2*a*(k / 2-1)+(2*a+b)=a*k+b by
     have:k=2*(k / 2-1)+2:=by omega
     generalize k / 2-1=m at this;subst this;rw[Nat.mul_add,<-Nat.mul_assoc,Nat.mul_comm a 2];omega]at this
    exact .inr (.inr this)
theorem Z4u (h:Nat->Option Zb):∀(n:Nat) (todo acc:List Nat) (i:Nat),i∈Z1g h n todo acc->(∀j∈acc,∃x,h j=some x)->∃x,h i=some x
 | 0,_,acc,i,hi,ha=>ha i hi
 | n+1,[],acc,i,hi,ha=>ha i hi
 | n+1,j::todo,acc,i,hi,ha=>by
  simp only[Z1g]at hi;cases hq:acc.any (Nat.beq j)with
  | true=>rw[hq]at hi;exact Z4u h n _ _ i hi ha
  | false =>
   rw[hq]at hi;simp only[jA]at hi;cases hj:h j with
   | none=>rw[hj]at hi;exact Z4u h n _ _ i hi ha
   | some o =>
    rw[hj]at hi;refine Z4u h n _ _ i hi fun k a=>?_;rcases jv.1 a with e|e
    ·exact e▸⟨o,hj⟩
    ·exact ha k e
theorem Zc2 {p:Nat->Bool} {h:Nat->Option Zb}:∀{is:List Nat},okH p h is=true->∀i∈is,∀o,h i=some o->okO p o=true
 | [],_,i,hi,_,_=>by cases hi
 | j::is,hb,i,hi,o,ho=>by
  simp only[okH,jn]at hb;rcases jv.1 hi with e|e
  ·subst e;rw[ho]at hb;exact hb.1
  ·exact Zc2 hb.2 i e o ho
mutual
theorem Z70:∀d:DV,okD (fun _=>true) d=true
 | .ptr _ _ | .rptr _ _ _ _ _ | .rs _ _ | .rv _ _ _ _ _ | .map _ | .iter _ | .yld _=>by simp[okD]
 | .agg cs=>by simp only[okD];exact Z2Y cs
 | .tup cs=>by simp only[okD];exact Z2Y cs
 | .fn _ a b=>by simp only[okD,Z2Y a,Z2Y b,ju]
 | .iface _ v=>by simp only[okD];exact Z70 v
 | .bool _ | .int _ _ | .str _ | .nilp | .pub _ | .nils | .sl _ | .slen _ | .nilfn | .nilmap | .nilif=>by simp[okD]
theorem Z2Y:∀ds:List DV,Z1h (fun _=>true) ds=true
 | []=>by simp[Z1h]
 | d::ds=>by simp only[Z1h,Z70 d,Z2Y ds,ju]
end
theorem Z7s {α:Type} {p:α->Bool} (a:∀x,p x=true):∀t:Tr α,t.allV p=true
 | .leaf=>rfl
 | .node l v r=>by
  simp only[Tr.allV,Z7s a l,Z7s a r,Bool.true_and,Bool.and_true];cases v with
  | none=>rfl
  | some x=>exact a x
theorem ZhP (o:Zb):okO (fun _=>true) o=true:=by
 cases o<;>simp only[okO]
 ·exact Z2Y _
 ·exact Z7s Z70 _
def Z8f (p:Nat->Bool) (f:Nat->Nat) (β β':Bi):Prop:=∀i,p i=true->β'.blk (f i)=β.blk i/\∀u,β'.hdr (f i) u=β.hdr i u
section
variable {P:Program} {E:Env} {w0:World} {G0:Gh} {D:DD} {w:World} {β β':Bi} {G:Gh} {h:Nat->Option Zb} {p:Nat->Bool} {f:Nat->Nat}
mutual
theorem Rep.rn (e:Z8f p f β β'):∀(d:DV) (v:Value),okD p d=true->Rep β G d v->Rep β' G (rn f d) v
 | .bool _,_,_,h=>by unfold Ab.rn;unfold Rep at h⊢;exact h
 | .int _ _,_,_,h=>by unfold Ab.rn;unfold Rep at h⊢;exact h
 | .str _,_,_,h=>by unfold Ab.rn;unfold Rep at h⊢;exact h
 | .nilp,_,_,h=>by unfold Ab.rn;unfold Rep at h⊢;exact h
 | .ptr i _,_,hb,h=>by
  unfold Ab.rn;unfold Rep at h⊢;rw[(e i hb).1];exact h
 | .rptr i _ _ _ _,_,hb,h=>by
  unfold Ab.rn;unfold Rep at h⊢;simp only[(e i hb).2];exact h
 | .pub cs,_,_,h=>by
  unfold Ab.rn;unfold Rep at h⊢;obtain⟨l,b,o,j,g⟩:=h;exact⟨l,b,o,j,Pub.free cs b o l g⟩
 | .nils,_,_,h=>by unfold Ab.rn;unfold Rep at h⊢;exact h
 | .sl es,v,_,h=>by unfold Ab.rn;exact Rep.free _ v rfl h
 | .rs i _,_,hb,h=>by
  unfold Ab.rn;unfold Rep at h⊢;rw[(e i hb).2];exact h
 | .rv i _ _ _ _,_,hb,h=>by
  unfold Ab.rn;unfold Rep at h⊢;rw[(e i hb).2];exact h
 | .slen _,_,_,h=>by unfold Ab.rn;unfold Rep at h⊢;exact h
 | .agg cs,_,hb,h=>by unfold Ab.rn;unfold Rep at h⊢;obtain⟨vs,j,g⟩:=h;exact⟨vs,j,Ze.rn e cs vs (by simpa[okD]using hb) g⟩
 | .tup cs,_,hb,h=>by unfold Ab.rn;unfold Rep at h⊢;obtain⟨vs,j,g⟩:=h;exact⟨vs,j,Ze.rn e cs vs (by simpa[okD]using hb) g⟩
 | .fn _ a c,_,hb,h=>by
  unfold Ab.rn;unfold Rep at h⊢;obtain⟨as,cs,j,g,m⟩:=h;have k:Z1h p a=true/\Z1h p c=true:=by simpa[okD]using hb
  exact⟨as,cs,j,Ze.rn e a as k.1 g,Ze.rn e c cs k.2 m⟩
 | .nilfn,_,_,h=>by unfold Ab.rn;unfold Rep at h⊢;exact h
 | .map i,_,hb,h=>by
  unfold Ab.rn;unfold Rep at h⊢;rw[(e i hb).1];exact h
 | .nilmap,_,_,h=>by unfold Ab.rn;unfold Rep at h⊢;exact h
 | .iface _ d,_,hb,h=>by unfold Ab.rn;unfold Rep at h⊢;obtain⟨u,j,g⟩:=h;exact⟨u,j,Rep.rn e d u (by simpa[okD]using hb) g⟩
 | .nilif,_,_,h=>by unfold Ab.rn;unfold Rep at h⊢;exact h
 | .iter i,_,hb,h=>by
  unfold Ab.rn;unfold Rep at h⊢;rw[(e i hb).1];exact h
 | .yld i,_,hb,h=>by
  unfold Ab.rn;unfold Rep at h⊢;rw[(e i hb).1];exact h
theorem Ze.rn (b:Z8f p f β β'):∀(ds:List DV) (vs:List Value),Z1h p ds=true->Ze β G ds vs->Ze β' G (rns f ds) vs
 | [],_,_,h=>by unfold rns;unfold Ze at h⊢;exact h
 | d::ds,_,hb,h=>by
  unfold rns;unfold Ze at h⊢;have a:okD p d=true/\Z1h p ds=true:=by simpa[Z1h]using hb
  obtain⟨v,vs',e,c,g⟩:=h;exact⟨v,vs',e,Rep.rn b d v a.1 c,Ze.rn b ds vs' a.2 g⟩
end
theorem Zj4 (f:Nat->Nat) (d:DV):Zw (rn f d)=Zw d:=by cases d<;>simp[rn,Zw]
theorem ZdK (f:Nat->Nat):∀ds:List DV,(rns f ds).all Zw=ds.all Zw
 | []=>by simp[rns]
 | d::ds=>by simp only[rns,jt,Zj4,ZdK f ds]
theorem Z4l:∀{es:List (List DV)},(∀c∈es,Zc c=true)->Zc es.flatten=true
 | [],_=>rfl
 | c::es,h=>by
  have d:∀(a b:List DV),Zc a=true->Zc b=true->Zc (a++b)=true:=fun a b e f=>by
   induction a with
   | nil=>exact f
   | cons x a ih =>
    simp only[Zc,jn,List.cons_append]at e⊢;exact⟨e.1,ih e.2⟩
  rw[List.flatten_cons];exact d _ _ (h c (by simp)) (Z4l fun c hc=>h c (by simp[hc]))
theorem Z1M.rn (h:Z8f p f β β') {id base:Nat} (a:p id=true):∀{o:Zb},okO p o=true->Z1M E base w β G id o->Z1M E base w β' G (f id) (rnO f o)
 | .cells t cs,hb,hr=>by
  obtain⟨b,vs,g,e,i,j,k⟩:=hr;exact⟨b,vs,by rw[(h id a).1];exact g,e,Ze.rn h cs _ hb i,by rw[ZdK];exact j,k⟩
 | .row t es q u,_,hr=>by
  obtain⟨hdr,vals,g,e,i,j,k,l,r⟩:=hr;exact⟨hdr,vals,by rw[(h id a).2];exact g,e,Ze.free _ _ (Z4l fun c hc=>(j c hc).2.1) i,j,k,l,fun u' x=>by rw[(h id a).2];exact r u' x⟩
 | .map es,_,hr=>by
  obtain⟨b,ms,clock,g,e,i,j⟩:=hr;exact⟨b,ms,clock,by rw[(h id a).1];exact g,e,Z7I i,j⟩
 | .mit m n se,hb,hr=>by
  obtain⟨b,bm,c0,g,e,i⟩:=hr;exact⟨b,bm,c0,by rw[(h id a).1];exact g,by rw[(h m hb).1];exact e,i⟩
 | .bag t es u,_,hr=>by
  obtain⟨fs,y,hdr,vals,g,e,i,j,k,l,r⟩:=hr;exact⟨fs,y,hdr,vals,by rw[(h id a).2];exact g,e,Ze.free _ _ (Z4l fun c hc=>(j c hc).2.1) i,j,k,l,fun u' x=>by rw[(h id a).2];exact r u' x⟩
 | .siter s pos,_,hr=>by
  obtain⟨b,g,e⟩:=hr;exact⟨b,by rw[(h id a).1];exact g,e⟩
 | .loop fid bs ps as bo bid ex,hb,hr=>by
  obtain⟨b,tmps,df,fn,F,g,e,i,j,k,l⟩:=hr;refine⟨b,tmps,df,fn,F,by rw[(h id a).1];exact g,e,fun t d ht=>?_,j,k,fun t d ht=>?_⟩
  ·rw[Tr.mapv_get']at ht;cases hq:bs.get t with
   | none=>rw[hq]at ht;cases ht
   | some d0 =>
    rw[hq]at ht;cases ht;obtain⟨v,r,z⟩:=i t d0 hq;exact⟨v,r,Rep.rn h d0 v (Tr.allV_get hb hq) z⟩
  ·rw[Tr.mapv_get']at ht;cases hq:bs.get t with
   | none=>rw[hq]at ht;cases ht
   | some d0=>exact l t d0 hq
theorem Zc6 (c:Z8f p f β β') {id:Nat} (a:p id=true) (o:Zb) (b:Nat):Yf β' (f id) (rnO f o) b↔Yf β id o b:=by
 cases o<;>simp only[rnO,Yf,(c id a).1,(c id a).2]
theorem HR.rn (e:Z8f p f β β') (n:∀i j,p i=true->p j=true->f i=f j->i=j) (hh:HR E w0 G0 D w β G h) {h':Nat->Option Zb}
  (hi:∀i y,h' i=some y->∃j x,p j=true/\f j=i/\h j=some x/\y=rnO f x/\okO p x=true):HR E w0 G0 D w β' G h' :=
 ⟨hh.below,hh.g0,hh.agree,fun i o a=>by
   obtain⟨j,x,d,rfl,c,rfl,m⟩:=hi i o a;exact Z1M.rn e d m (hh.obj j x c),
  fun i o b a k=>by
   obtain⟨j,x,d,rfl,c,rfl,m⟩:=hi i o a;exact hh.own j x b c ((Zc6 e d x b).1 k),
  fun i i' o o' b a g k l=>by
   obtain⟨j,x,d,rfl,c,rfl,m⟩:=hi i o a;obtain⟨j',x',g1,rfl,g3,rfl,g5⟩:=hi i' o' g;rw[hh.inj j j' x x' b c g3 ((Zc6 e d x b).1 k) ((Zc6 e g1 x' b).1 l)],hh.marks,hh.inv0⟩
theorem Z41:∀{is:List Nat} {i:Nat} {y:Zb},(Z3j f h is).get i=some y->∃j∈is,∃x,f j=i/\h j=some x/\y=rnO f x
 | [],i,y,hy=>by cases hy
 | j::is,i,y,hy=>by
  simp only[Z3j,Tr.get_set]at hy
  by_cases e:i=f j
  ·rw[if_pos e]at hy;cases hj:h j with
   | none=>rw[hj]at hy;cases hy
   | some x=>rw[hj]at hy;cases hy;exact⟨j,by simp,x,e.symm,hj,rfl⟩
  ·rw[if_neg e]at hy;obtain⟨k,a,x,b⟩:=Z41 hy;exact⟨k,by simp[a],x,b⟩
theorem Zcj:∀{is:List Nat} {j:Nat},j∈is->(∀i∈is,f i=f j->i=j)->(Z3j f h is).get (f j)=(h j).map (rnO f)
 | i::is,j,b,hinj=>by
  simp only[Z3j,Tr.get_set]
  by_cases e:f j=f i
  ·rw[if_pos e];rw[hinj i (by simp) e.symm]
  ·rw[if_neg e];have a:j∈is:=by
    rcases jv.1 b with q|q
    ·subst q;exact absurd rfl e
    ·exact q
   exact Zcj a fun i hi=>hinj i (by simp[hi])
theorem Z6v:∀{is:List Nat} {i:Nat},(∀j∈is,f j≠i)->Zq i (Z42 f h is)=none
 | [],_,_=>rfl
 | j::is,i,hn=>by
  have a:Zq i (Z42 f h is)=none:=Z6v fun k b=>hn k (List.mem_cons_of_mem _ b);have:=hn j (by simp)
  simp only[Z42,Zq,a,Tr.beq_dec];simp[this]
theorem ZdI:∀{is:List Nat} {j:Nat},j∈is->(∀i∈is,f i=f j->i=j)->Zq (f j) (Z42 f h is)=some ((h j).map (rnO f))
 | i::is,j,b,hinj=>by
  simp only[Z42,Zq]
  by_cases hm:j∈is
  ·rw[ZdI hm fun i hi=>hinj i (by simp[hi])]
  ·have e:j=i:=by
    rcases jv.1 b with q|q
    ·exact q
    ·exact absurd q hm
   subst e;have c:Zq (f j) (Z42 f h is)=none:=Z6v fun k a q=>by
    have:=hinj k (by simp[a]) q
    subst this;exact hm a
   rw[c];simp
theorem Zd2 {h':Nat->Option Zb} {G':Gh} (b:Ext β G β G') (a:∀i t es p u,h i=some (.row t es p u)->∃p',h' i=some (.row t es p' u)) :
  ∀{ds:List DV} {vs:List Value},(∀i∈Zi ds,Z2H E β G' h' i)->Ze β G ds vs->Ze β G' (ds.map fun d=>(frz h d).getD d) vs
 | [],vs,_,hr=>by rw[Zg]at hr;exact Zg.2 hr
 | d::ds,vs,hs,hr=>by
  obtain⟨v,vs',rfl,c,e⟩:=Za.1 hr;refine Za.2 ⟨v,vs',rfl,?_,Zd2 b a (fun i hi=>hs i (by simp[Zi,hi])) e⟩
  show Rep β G' ((frz h d).getD d) v;cases hq:frz h d with
  | none=>exact Rep.mono b _ _ c
  | some d'=>exact(Z5v b a hq (fun i hi=>hs i (by simp[Zi,hi])) c).1
theorem ZiD {D:DD} {s:Tr Zb} {k:Nat} {β0:Bi} {G1:Gh} {r:DV} {o:Tr Zb} {n:Nat} {e:Ending} {w':World} (hfr:∀id,k<=id->ZE β0 s.get id) (hp:YI E w0 G0 D β0 G1 s k r o n e w')
  {y:DV×Tr Zb×Nat} (hy:Z8m k (r,o,n)=some y):YI E w0 G0 D β0 G1 s k y.1 y.2.1 y.2.2 e w':=by
 obtain⟨v,β',G',rfl,hle,w,hhr,hf',hv⟩:=hp;unfold Z8m at hy;simp only at hy;generalize hR:geN k (Z1g o.get 4096 (rid r++upN 0 k) [])=R at hy;obtain⟨hb,hy⟩:=Z3 hy;cases hy;simp only[jn]at hb;obtain⟨hu,hr1,hr2⟩:=hb;have hge:∀i∈R,k<=i:=fun i hi=>by rw[<-hR]at hi;exact(ZbW.1 hi).2
 have m:∀j,(Nat.blt j k||Z3H j R)=true↔j<k\/j∈R:=fun j=>by
  simp only[Bool.or_eq_true,Tr.blt_dec,jk,Z3b]
 have l:∀j,j<k->Z2p k R j=j:=fun j c=>by simp[Z2p,Tr.blt_dec,c]
 have p:∀j,j∈R->Z2p k R j=k+Z1Q j R:=fun j c=>by
  have:=hge j c;simp[Z2p,Tr.blt_dec,show ¬j<k by omega]
 have z:∀i j,(Nat.blt i k||Z3H i R)=true->(Nat.blt j k||Z3H j R)=true->Z2p k R i=Z2p k R j->i=j:=fun i j hi c he=>by
  rcases(m i).1 hi with hi|hi<;>rcases(m j).1 c with c|c
  ·rw[l i hi,l j c]at he;exact he
  ·rw[l i hi,p j c]at he;omega
  ·rw[p i hi,l j c]at he;omega
  ·rw[p i hi,p j c]at he;have:Z1Q i R=Z1Q j R:=by omega
   rw[<-Z4o (d:=0) hi,this,Z4o c]
 have a1:∀j,j∈upN 0 k++R↔j<k\/j∈R:=fun j=>by
  rw[List.mem_append,Z5C];simp
 have t:∀i y,(Z3j (Z2p k R) o.get (upN 0 k++R)).get i=some y->∃j x,(Nat.blt j k||Z3H j R)=true/\Z2p k R j=i/\o.get j=some x/\y=rnO (Z2p k R) x/\okO (fun j=>Nat.blt j k||Z3H j R) x=true:=fun i y hy=>by
  obtain⟨j,c,x,h1,h2,h3⟩:=Z41 hy;exact⟨j,x,(m j).2 ((a1 j).1 c),h1,h2,h3,Zc2 hr2 j c x h2⟩
 let β3:Bi:=⟨fun i=>if i<k then β'.blk i else if i<k+Z2q R then β'.blk (Z6l 0 (i-k) R)else none,fun i u=>if i<k then β'.hdr i u else if i<k+Z2q R then β'.hdr (Z6l 0 (i-k) R) u else none⟩
 have a0:Z8f (fun j=>Nat.blt j k||Z3H j R) (Z2p k R) β' β3:=fun j c=>by
  rcases(m j).1 c with c|c
  ·rw[l j c];simp only[β3,if_pos c];exact⟨trivial,fun _=>trivial⟩
  ·rw[p j c];have:=Z5x c;simp only[β3,show ¬k+Z1Q j R<k by omega,if_false,show k+Z1Q j R<k+Z2q R by omega,if_true,show k+Z1Q j R-k=Z1Q j R by omega,Z4o c]
   exact⟨trivial,fun _=>trivial⟩
 refine⟨v,β3,G',rfl,Nat.le_add_right _ _,⟨⟨w.ext.g,fun id b a=>?_,fun id u x a=>?_⟩,fun id a hn=>?_⟩,HR.rn a0 z hhr t,fun id a=>⟨?_,fun u=>?_,?_⟩,Rep.rn a0 r v hr1 hv⟩
 ·by_cases q:id<k
  ·simp only[β3,if_pos q];exact w.ext.blk id b a
  ·rw[(hfr id (by omega)).blk]at a;cases a
 ·by_cases q:id<k
  ·simp only[β3,if_pos q];exact w.ext.hdr id u x a
  ·rw[(hfr id (by omega)).hdr]at a;cases a
 ·obtain⟨k1,k2,k3⟩:=w.keep id a hn;refine⟨?_,?_,fun u=>?_⟩
  ·have:=Zcj (f:=Z2p k R) (h:=o.get) (is:=upN 0 k++R) (j:=id) ((a1 id).2 (.inl a)) (fun i hi he=>z i id ((m i).2 ((a1 i).1 hi)) ((m id).2 (.inl a)) he);rw[l id a,k1]at this;exact this
  ·simp only[β3,if_pos a];exact k2
  ·simp only[β3,if_pos a];exact k3 u
 ·have q:k+Z2q R<=id:=a;simp only[β3,show ¬id<k by omega,if_false,show ¬id<k+Z2q R by omega]
 ·have q:k+Z2q R<=id:=a;simp only[β3,show ¬id<k by omega,if_false,show ¬id<k+Z2q R by omega]
 ·have q:k+Z2q R<=id:=a;cases hq:(Z3j (Z2p k R) o.get (upN 0 k++R)).get id with
  | none=>rfl
  | some y =>
   obtain⟨j,x,h1,h2,_⟩:=t id y hq;rcases(m j).1 h1 with c|c
   ·rw[l j c]at h2;omega
   ·rw[p j c]at h2;have:=Z5x c;omega
theorem Zgf {callH:Yb} (hH:YT P E callH):YT P E (Z4e E callH):=fun g as o nx r o' nx' s=>by
 unfold Z4e at s;obtain⟨F,hF,s⟩:=Z0 s;cases hc:F.can with
 | false=>rw[hc]at s;exact hH g as o nx r o' nx' s
 | true =>
  rw[hc]at s;simp only[jB]at s;generalize hfs:(as.map fun d=>(frz o.get d).getD d)=fs at s;generalize ho1:Y3 o (Zo o.get (Zi as))=o1 at s;generalize hR:Z1g o1.get 4096 (Z1q fs) []=R at s;generalize hk:Z2q R=k at s;obtain⟨hb,s⟩:=Z3 s;obtain⟨⟨r1,o2,n2⟩,hcall,s⟩:=Z0 s;obtain⟨⟨r3,o3,n3⟩,hexit,s⟩:=Z0 s;cases s;simp only[jn]at hb;obtain⟨hu,hb1,hb2⟩:=hb;obtain⟨hent,hcs⟩:=hH _ _ _ _ _ _ _ hcall;refine⟨hent,fun w0 G0 D w β G vs hh hfr hrep=>?_⟩
  obtain⟨G1,hx1,a8,hs1⟩:=Z1I hh (Zi as);have hrep1:Ze β G1 fs vs.toList:=by rw[<-hfs];exact Zd2 hx1 (Z26 _ _) hs1 hrep
  have a4:∀i,o1.get i=Zy o.get (Zo o.get (Zi as)) i:=fun i=>by rw[<-ho1];exact Z2y _ _ _
  have a8:HR E w0 G0 D w β G1 o1.get:=a8.eq a4;have hk1:∀i,o.get i=none->o1.get i=none:=fun i hi=>by
   rw[a4];unfold Zy;cases z:Zq i (Zo o.get (Zi as))with
   | none=>exact hi
   | some y =>
    obtain⟨t',es',p',u',k1,_⟩:=Y8 o.get _ i y z;rw[hi]at k1;cases k1
  have a1:∀id,nx<=id->ZE β o1.get id:=fun id a=>⟨(hfr id a).blk,(hfr id a).hdr,hk1 id (hfr id a).h⟩;have hRs:∀i∈R,∃x,o1.get i=some x:=fun i hi=>Z4u _ _ _ _ _ (by rw[<-hR]at hi;exact hi) (fun _ z=>by cases z)
  have hRlt:∀i∈R,i<nx:=fun i hi=>by
   obtain⟨x,hx⟩:=hRs i hi;rcases Nat.lt_or_ge i nx with q|q
   ·exact q
   ·rw[(a1 i q).h]at hx;cases hx
  have hs:∀i x,(Z2w o1.get R).get i=some x->o1.get i=some x:=fun i x hi=>by
   rw[Z27]at hi;split at hi
   ·exact hi
   ·cases hi
  have hsR:∀i x,(Z2w o1.get R).get i=some x->i∈R:=fun i x hi=>by
   rw[Z27]at hi;split at hi
   ·assumption
   ·cases hi
  have hcut:=Zeq (D:=D) a8 hs
  have a3:∀j,j<k->ZF k nx R j=Z6l 0 j R:=fun j f=>by simp[ZF,Tr.blt_dec,f]
  have n:∀j,k<=j->ZF k nx R j=nx+(j-k):=fun j f=>by simp[ZF,Tr.blt_dec,show ¬j<k by omega]
  have a7:∀i,i∈R->ZF k nx R (Z1Q i R)=i:=fun i hi=>by
   rw[a3 _ (by rw[<-hk];exact Z5x hi),Z4o hi]
  let β0:Bi:=⟨fun j=>β.blk (ZF k nx R j),fun j u=>β.hdr (ZF k nx R j) u⟩
  have a2:Z8f (fun i=>Z3H i R) (Z4K R) β β0:=fun i hi=>by
   have hi:=Z3b.1 hi;show β.blk (ZF k nx R (Z1Q i R))=_/\∀u,β.hdr (ZF k nx R (Z1Q i R)) u=_;rw[a7 i hi];exact⟨rfl,fun _=>rfl⟩
  have hinj0:∀i j,Z3H i R=true->Z3H j R=true->Z4K R i=Z4K R j->i=j:=fun i j hi f p=>by
   have hi:=Z3b.1 hi;have f:=Z3b.1 f;have p:Z1Q i R=Z1Q j R:=p;rw[<-Z4o (d:=0) hi,p,Z4o f]
  have hh0:HR E w0 G0 (Z7v D w β G1 o1.get (Z2w o1.get R).get) w β0 G1 (Z3j (Z4K R) o1.get R).get:=HR.rn a2 hinj0 hcut fun i y hy=>by
   obtain⟨j,f,x,l,h2,h3⟩:=Z41 hy;exact⟨j,x,Z3b.2 f,l,by rw[Z27,if_pos f];exact h2,h3,Zc2 hb2 j f x h2⟩
  have hfr0:∀j,k<=j->ZE β0 (Z3j (Z4K R) o1.get R).get j:=fun j f=>by
   have z:=hfr (nx+(j-k)) (by omega)
   refine⟨?_,fun u=>?_,?_⟩
   ·show β.blk (ZF k nx R j)=none;rw[n j f];exact z.blk
   ·show β.hdr (ZF k nx R j) u=none;rw[n j f];exact z.hdr u
   ·cases z:(Z3j (Z4K R) o1.get R).get j with
    | none=>rfl
    | some y =>
     obtain⟨i,hi,x,l,_⟩:=Z41 z;have:Z1Q i R<Z2q R:=Z5x hi;have l:Z1Q i R=j:=l;omega
  refine Calls.mono (hcs w0 G0 _ w β0 G1 vs hh0 hfr0 (Ze.rn a2 _ _ hb1 hrep1)) fun e w' p=>?_;obtain⟨v,β3,G',rfl,hle,a9,hhr,hf3,hv⟩:=ZiD hfr0 p hexit;simp only at hle a9 hhr hf3 hv
  let β4:Bi:=⟨fun i=>if i∈R then β3.blk (Z1Q i R)else if nx<=i then β3.blk (i-nx+k)else β.blk i,fun i u=>if i∈R then β3.hdr (Z1Q i R) u else if nx<=i then β3.hdr (i-nx+k) u else β.hdr i u⟩
  have m:∀j,j<k->ZF k nx R j∈R:=fun j f=>by rw[a3 j f];exact Zc0 (by omega)
  have a6:∀j,k<=j->ZF k nx R j∉R:=fun j f t=>by
   rw[n j f]at t;have:=hRlt _ t;omega
  have a5:Z8f (fun _=>true) (ZF k nx R) β3 β4:=fun j _=>by
   by_cases q:j<k
   ·have t:=m j q;simp only[β4,if_pos t];rw[a3 j q,Z8Q hu (by omega)]
    exact⟨rfl,fun _=>rfl⟩
   ·have t:=a6 j (by omega)
    simp only[β4,if_neg t];rw[n j (by omega),if_pos (by omega),show nx+(j-k)-nx+k=j by omega]
    refine⟨rfl,fun u=>?_⟩;rw[if_pos (by omega)]
  have a0:∀i j,ZF k nx R i=ZF k nx R j->i=j:=fun i j p=>by
   by_cases qi:i<k<;>by_cases qj:j<k
   ·have l:=Z8Q (d:=0) hu (by omega:i<Z2q R)
    rw[<-a3 i qi,p,a3 j qj,Z8Q hu (by omega)]at l
    exact l.symm
   ·have:=m i qi;rw[p]at this;exact absurd this (a6 j (by omega))
   ·have:=m j qj;rw[<-p]at this;exact absurd this (a6 i (by omega))
   ·rw[n i (by omega),n j (by omega)]at p
    omega
  have c:∀i y,(Z3j (ZF k nx R) o3.get (upN 0 n3)).get i=some y->∃j x,j<n3/\ZF k nx R j=i/\o3.get j=some x/\y=rnO (ZF k nx R) x:=fun i y hy=>by
   obtain⟨j,f,x,l,h2,h3⟩:=Z41 hy;exact⟨j,x,by rw[Z5C]at f;omega,l,h2,h3⟩
  have hat4:∀j,j<n3->(Z3j (ZF k nx R) o3.get (upN 0 n3)).get (ZF k nx R j)=(o3.get j).map (rnO (ZF k nx R)):=fun j f =>
   Zcj (Z5C.2 ⟨by omega,by omega⟩) fun i _ p=>a0 i j p
  have hpost:YI E w0 G0 (Z7v D w β G1 o1.get (Z2w o1.get R).get) β G1 (Z2w o1.get R) nx (rn (ZF k nx R) r3) (Z3j (ZF k nx R) o3.get (upN 0 n3)) (nx+(n3-k)) (.returned v) w':=by
   refine⟨v,β4,G',rfl,Nat.le_add_right _ _,⟨⟨a9.ext.g,fun id b a=>?_,fun id u x a=>?_⟩,fun id a hn=>?_⟩,?_,fun id a=>?_,Rep.rn a5 _ _ (Z70 _) hv⟩
   ·simp only[β4]
    by_cases q:id∈R
    ·rw[if_pos q];refine a9.ext.blk _ b ?_;show β.blk (ZF k nx R (Z1Q id R))=some b;rw[a7 id q];exact a
    ·rw[if_neg q]
     by_cases q2:nx<=id
     ·rw[(hfr id q2).blk]at a;cases a
     ·rw[if_neg q2];exact a
   ·simp only[β4]
    by_cases q:id∈R
    ·rw[if_pos q];refine a9.ext.hdr _ u x ?_;show β.hdr (ZF k nx R (Z1Q id R)) u=some x;rw[a7 id q];exact a
    ·rw[if_neg q]
     by_cases q2:nx<=id
     ·rw[(hfr id q2).hdr]at a;cases a
     ·rw[if_neg q2];exact a
   ·by_cases q:id∈R
    ·rw[Z27,if_pos q]at hn;obtain⟨x,hx⟩:=hRs id q;rw[hn]at hx;cases hx
    ·refine⟨?_,?_,fun u=>?_⟩
     ·cases z:(Z3j (ZF k nx R) o3.get (upN 0 n3)).get id with
      | none=>rfl
      | some y =>
       obtain⟨j,x,_,l,_⟩:=c id y z
       by_cases qj:j<k
       ·exact absurd (l▸m j qj) q
       ·rw[n j (by omega)]at l;omega
     ·simp only[β4,if_neg q,show ¬nx<=id by omega,if_false]
     ·simp only[β4,if_neg q,show ¬nx<=id by omega,if_false]
   ·refine HR.rn a5 (fun i j _ _ p=>a0 i j p) hhr fun i y hy=>?_;obtain⟨j,x,_,l,h2,h3⟩:=c i y hy;exact⟨j,x,rfl,l,h2,h3,ZhP x⟩
   ·have t:id∉R:=fun t=>by have:=hRlt id t;omega
    have hf:=hf3 (id-nx+k) (by omega)
    refine⟨?_,fun u=>?_,?_⟩
    ·simp only[β4,if_neg t,show nx<=id by omega,if_true];exact hf.blk
    ·simp only[β4,if_neg t,show nx<=id by omega,if_true];exact hf.hdr u
    ·cases z:(Z3j (ZF k nx R) o3.get (upN 0 n3)).get id with
     | none=>rfl
     | some y =>
      obtain⟨j,x,h0,l,_⟩:=c id y z
      by_cases qj:j<k
      ·exact absurd (l▸m j qj) t
      ·rw[n j (by omega)]at l;omega
  obtain⟨v2,β2,G2,e2,hle2,hx2,hkp,hh2,hf2,hv2⟩:=ZbA a8 hs hsR a1 hpost;have heq:∀i,(Y3 o1 (Z42 (ZF k nx R) o3.get (upN 0 n3))).get i=Zy o1.get (Z4X (Z3j (ZF k nx R) o3.get (upN 0 n3)) R nx) i:=fun i=>by
   rw[Z2y,Z7p]
   by_cases hi:∃j,j<n3/\ZF k nx R j=i
   ·obtain⟨j,f,rfl⟩:=hi;have l:Zy o1.get (Z42 (ZF k nx R) o3.get (upN 0 n3)) (ZF k nx R j)=(o3.get j).map (rnO (ZF k nx R)):=by
     unfold Zy;rw[ZdI (Z5C.2 ⟨by omega,by omega⟩) fun i _ p=>a0 i j p]
    rw[l,<-hat4 j f];split
    ·rfl
    ·rename_i t;have hm1:ZF k nx R j∉R:=fun q=>t (List.mem_append_left _ q);have hkj:¬j<k:=fun q=>hm1 (m j q);have hge:nx<=ZF k nx R j:=by rw[n j (by omega)];omega
     rw[(a1 _ hge).h];cases z:(Z3j (ZF k nx R) o3.get (upN 0 n3)).get (ZF k nx R j)with
     | none=>rfl
     | some y =>
      refine absurd ?_ t;refine List.mem_append_right _ (List.mem_filter.2 ⟨List.mem_map.2 ⟨(1*ZF k nx R j+0,y),Tr.ents_get _ 1 0 _ y z,by simp⟩,Nat.ble_eq_true_of_le hge⟩)
   ·have l:Zy o1.get (Z42 (ZF k nx R) o3.get (upN 0 n3)) i=o1.get i:=by
     unfold Zy;rw[Z6v fun j f p=>hi ⟨j,by rw[Z5C]at f;omega,p⟩]
    have h2:(Z3j (ZF k nx R) o3.get (upN 0 n3)).get i=none:=by
     cases z:(Z3j (ZF k nx R) o3.get (upN 0 n3)).get i with
     | none=>rfl
     | some y =>
      obtain⟨j,x,h0,l,_⟩:=c i y z;exact absurd ⟨j,h0,l⟩ hi
    rw[l,h2];split
    ·rename_i t;rcases Zhg t with q|q
     ·refine absurd ⟨Z1Q i R,?_,a7 i q⟩ hi;have:=Z5x q;omega
     ·exact(a1 i q).h
    ·rfl
  refine⟨v2,β2,G2,e2,hle2,⟨hx1.trans hx2,fun id a hn=>?_⟩,hh2.eq heq,fun id a=>?_,hv2⟩
  ·obtain⟨k1,k2,k3⟩:=hkp id a (hk1 id hn);exact⟨by rw[heq];exact k1,k2,k3⟩
  ·have:=hf2 id a;exact⟨this.blk,this.hdr,by rw[heq];exact this.h⟩
end
end Go.Ab
namespace Go.Ab
def Le (h h':Nat->Option Zb) (d:DV):Prop:=∀id,id∈Zs d->∀o,h id=some o->h' id=some o
section
variable {E:Env} {ρ ρ':Nat->Option DV} {h h':Nat->Option Zb} {nid:Nat}
def OkX (ρ ρ':Nat->Option DV) (h h':Nat->Option Zb) (x:Operand):Prop:=∀d,ZU ρ x=some d->ZU ρ' x=some d/\Le h h' d
mutual
theorem Za0:∀(d:DV) (i:Nat),i∈Zh d->i∈Zs d
 | .rs _ _,_,h=>by simpa[Zh,Zs]using h
 | .rv _ _ _ _ _,_,h=>by simpa[Zh,Zs]using h
 | .slen _,_,h=>by simp[Zh]at h
 | .agg cs,i,h=>by simp only[Zh,Zs]at h⊢;exact Z31 cs i h
 | .tup cs,i,h=>by simp only[Zh,Zs]at h⊢;exact Z31 cs i h
 | .iface _ v,i,h=>by simp only[Zh,Zs]at h⊢;exact Za0 v i h
 | .bool _,_,h=>by simp[Zh]at h
 | .int _ _,_,h=>by simp[Zh]at h
 | .str _,_,h=>by simp[Zh]at h
 | .nilp,_,h=>by simp[Zh]at h
 | .ptr _ _,_,h=>by simp[Zh]at h
 | .rptr _ _ _ _ _,_,h=>by simp[Zh]at h
 | .pub _,_,h=>by simp[Zh]at h
 | .nils,_,h=>by simp[Zh]at h
 | .sl _,_,h=>by simp[Zh]at h
 | .fn _ _ _,_,h=>by simp[Zh]at h
 | .nilfn,_,h=>by simp[Zh]at h
 | .map _,_,h=>by simp[Zh]at h
 | .nilmap,_,h=>by simp[Zh]at h
 | .nilif,_,h=>by simp[Zh]at h
 | .iter _,_,h=>by simp[Zh]at h
 | .yld _,_,h=>by simp[Zh]at h
theorem Z31:∀(ds:List DV) (i:Nat),i∈Zi ds->i∈ZC ds
 | [],_,h=>by simp[Zi]at h
 | d::ds,i,h=>by
  simp only[Zi,ZC,List.mem_append]at h⊢;rcases h with h|h
  ·exact .inl (Za0 d i h)
  ·exact .inr (Z31 ds i h)
end
mutual
theorem Z7y:∀(d d':DV),frz h d=some d'->∀i∈Zh d,∃o,h i=some o
 | .rs id v,_,hd,i,hi=>by
  simp only[frz]at hd;obtain⟨o,b,_⟩:=Z0 hd;simp only[Zh,List.mem_singleton]at hi;subst hi;exact⟨o,b⟩
 | .rv _ _ _ _ _,_,hd,_,_=>by simp[frz,Zf]at hd
 | .slen _,_,hd,i,hi=>by simp[Zh]at hi
 | .agg cs,_,hd,i,hi=>by
  simp only[frz]at hd;obtain⟨cs',a,_⟩:=Z0 hd;exact Z4k cs cs' a i (by simpa[Zh]using hi)
 | .tup cs,_,hd,i,hi=>by
  simp only[frz]at hd;obtain⟨cs',a,_⟩:=Z0 hd;exact Z4k cs cs' a i (by simpa[Zh]using hi)
 | .iface _ v,_,hd,i,hi=>by
  simp only[frz]at hd;obtain⟨v',a,_⟩:=Z0 hd;exact Z7y v v' a i (by simpa[Zh]using hi)
 | .bool _,_,_,_,h=>by simp[Zh]at h
 | .int _ _,_,_,_,h=>by simp[Zh]at h
 | .str _,_,_,_,h=>by simp[Zh]at h
 | .nilp,_,_,_,h=>by simp[Zh]at h
 | .ptr _ _,_,_,_,h=>by simp[Zh]at h
 | .rptr _ _ _ _ _,_,_,_,h=>by simp[Zh]at h
 | .pub _,_,_,_,h=>by simp[Zh]at h
 | .nils,_,_,_,h=>by simp[Zh]at h
 | .sl _,_,_,_,h=>by simp[Zh]at h
 | .fn _ _ _,_,_,_,h=>by simp[Zh]at h
 | .nilfn,_,_,_,h=>by simp[Zh]at h
 | .map _,_,_,_,h=>by simp[Zh]at h
 | .nilmap,_,_,_,h=>by simp[Zh]at h
 | .nilif,_,_,_,h=>by simp[Zh]at h
 | .iter _,_,_,_,h=>by simp[Zh]at h
 | .yld _,_,_,_,h=>by simp[Zh]at h
theorem Z4k:∀(ds ds':List DV),Z1L h ds=some ds'->∀i∈Zi ds,∃o,h i=some o
 | [],_,_,i,hi=>by simp[Zi]at hi
 | d::ds,_,a,i,hi=>by
  simp only[Z1L]at a;obtain⟨c,e,a⟩:=Z0 a;obtain⟨cs,b,_⟩:=Z0 a;simp only[Zi,List.mem_append]at hi;rcases hi with hi|hi
  ·exact Z7y d c e i hi
  ·exact Z4k ds cs b i hi
end
mutual
theorem Z9t:∀(d d':DV),Le h h' d->frz h d=some d'->frz h' d=some d'
 | .rs id v,d',hl,hd=>by
  simp only[frz]at hd⊢;obtain⟨o,e,b⟩:=Z0 hd;rw[hl id (by simp[Zs]) o e];exact b
 | .rv _ _ _ _ _,_,_,hd=>by simpa only[frz]using hd
 | .slen _,_,_,hd=>by simpa only[frz]using hd
 | .agg cs,d',hl,hd=>by
  simp only[frz]at hd⊢;obtain⟨cs',c,b⟩:=Z0 hd;rw[Z5w cs cs' (fun id a=>hl id (by simpa[Zs]using a)) c];exact b
 | .tup cs,d',hl,hd=>by
  simp only[frz]at hd⊢;obtain⟨cs',c,b⟩:=Z0 hd;rw[Z5w cs cs' (fun id a=>hl id (by simpa[Zs]using a)) c];exact b
 | .iface _ v,d',hl,hd=>by
  simp only[frz]at hd⊢;obtain⟨v',c,b⟩:=Z0 hd;rw[Z9t v v' (fun id a=>hl id (by simpa[Zs]using a)) c];exact b
 | .bool _,_,_,hd=>by simpa only[frz]using hd
 | .int _ _,_,_,hd=>by simpa only[frz]using hd
 | .str _,_,_,hd=>by simpa only[frz]using hd
 | .nilp,_,_,hd=>by simpa only[frz]using hd
 | .ptr _ _,_,_,hd=>by simpa only[frz]using hd
 | .rptr _ _ _ _ _,_,_,hd=>by simpa only[frz]using hd
 | .pub _,_,_,hd=>by simpa only[frz]using hd
 | .nils,_,_,hd=>by simpa only[frz]using hd
 | .sl _,_,_,hd=>by simpa only[frz]using hd
 | .fn _ _ _,_,_,hd=>by simpa only[frz]using hd
 | .nilfn,_,_,hd=>by simpa only[frz]using hd
 | .map _,_,_,hd=>by simpa only[frz]using hd
 | .nilmap,_,_,hd=>by simpa only[frz]using hd
 | .nilif,_,_,hd=>by simpa only[frz]using hd
 | .iter _,_,_,hd=>by simpa only[frz]using hd
 | .yld _,_,_,hd=>by simpa only[frz]using hd
theorem Z5w:∀(ds ds':List DV),(∀id,id∈ZC ds->∀o,h id=some o->h' id=some o)->Z1L h ds=some ds'->Z1L h' ds=some ds'
 | [],_,_,hd=>hd
 | d::ds,d',hl,hd=>by
  simp only[Z1L]at hd⊢;obtain⟨c,f,b⟩:=Z0 hd;obtain⟨cs,g,e⟩:=Z0 b;rw[Z9t d c (fun id a=>hl id (by simp[ZC,a])) f]
  simp only[jm];rw[Z5w ds cs (fun id a=>hl id (by simp[ZC,a])) g]
  exact e
end
theorem Zew {d d':DV} (a:Z9s E h d=some d'):∀i∈Zh d,∃o,h i=some o:=by
 unfold Z9s at a;split at a
 ·obtain⟨o,b,_⟩:=Z0 a;intro i hi;simp only[Zh,List.mem_singleton]at hi;subst hi;exact⟨o,b⟩
 ·exact Z7y _ _ a
theorem Z8p:∀(ds ds':List DV),Z3S E h ds=some ds'->∀i∈Zi ds,∃o,h i=some o
 | [],_,_,i,hi=>by simp[Zi]at hi
 | d::ds,_,a,i,hi=>by
  simp only[Z3S]at a;obtain⟨c,e,a⟩:=Z0 a;obtain⟨cs,b,_⟩:=Z0 a;simp only[Zi,List.mem_append]at hi;rcases hi with hi|hi
  ·exact Zew e i hi
  ·exact Z8p ds cs b i hi
theorem Zgq {d d':DV} (b:Le h h' d) (a:Z9s E h d=some d'):Z9s E h' d=some d':=by
 unfold Z9s at a⊢;split at a
 ·obtain⟨o,c,e⟩:=Z0 a;rw[b _ (by simp[Zs]) o c];exact e
 ·exact Z9t _ _ b a
theorem Z9u:∀(ds ds':List DV),(∀id,id∈ZC ds->∀o,h id=some o->h' id=some o)->Z3S E h ds=some ds'->Z3S E h' ds=some ds'
 | [],_,_,a=>a
 | d::ds,d',hl,a=>by
  simp only[Z3S]at a⊢;obtain⟨c,f,a⟩:=Z0 a;obtain⟨cs,e,a⟩:=Z0 a;rw[Zgq (fun id b=>hl id (by simp[ZC,b])) f,Z9u ds cs (fun id b=>hl id (by simp[ZC,b])) e];exact a
theorem Z5o:∀(is:List Nat),(∀i∈is,h i=h' i)->Zo h is=Zo h' is
 | [],_=>rfl
 | i::is,hs=>by
  simp only[Zo];rw[hs i (by simp),Z5o is (fun j a=>hs j (by simp[a]))]
theorem Z2S:∀(is:List Nat) (u:Nat×Option Zb),u∈Zo h is->u.1∈is
 | [],u,a=>by simp[Zo]at a
 | i::is,u,a=>by
  simp only[Zo,List.mem_append]at a;rcases a with a|a
  ·split at a
   ·rename_i p _ _;cases hp:Nat.beq p 1 with
    | true=>rw[hp]at a;cases a
    | false=>rw[hp]at a;simp only[jA,List.mem_singleton]at a;subst a;simp
   ·cases a
  ·exact List.mem_cons_of_mem _ (Z2S is u a)
theorem Z85 {ds:List DV} (c:∀id,id∈ZC ds->∀o,h id=some o->h' id=some o) (b:∀i∈Zi ds,∃o,h i=some o):Zo h' (Zi ds)=Zo h (Zi ds) :=
 (Z5o _ fun i hi=>by
  obtain⟨o,a⟩:=b i hi;rw[a,c i (Z31 ds i hi) o a]).symm
theorem Zd9 {d:DV} {es:List (List DV)} (c:Le h h' d) (a:ZT h d=some es):Z36 h' d=Z36 h d:=by
 cases d with
 | rs id v =>
  simp only[ZT]at a;obtain⟨o,b,_⟩:=Z0 a;simp only[Z36,b,c id (by simp[Zs]) o b]
 | _=>rfl
theorem Z6e {d:DV} {es:List (List DV)} (f:Le h h' d) (a:ZT h d=some es):ZT h' d=some es:=by
 cases d with
 | rs id v =>
  simp only[ZT]at a⊢;obtain⟨o,b,c⟩:=Z0 a;rw[f id (by simp[Zs]) o b];exact c
 | rv id v i n e =>
  simp only[ZT]at a⊢;obtain⟨o,b,c⟩:=Z0 a;rw[f id (by simp[Zs]) o b];exact c
 | nils=>exact a
 | sl es=>exact a
 | _=>cases a
theorem ZcQ {d:DV} {es:List (List DV)} (a:ZT h d=some es):∀i∈Zi [d],∃o,h i=some o:=fun i hi=>by
 cases d with
 | rs id v =>
  simp only[ZT]at a;obtain⟨o,b,_⟩:=Z0 a;simp[Zi,Zh]at hi;subst hi;exact⟨o,b⟩
 | rv id v i n e =>
  simp only[ZT]at a;obtain⟨o,b,_⟩:=Z0 a;simp[Zi,Zh]at hi;subst hi;exact⟨o,b⟩
 | nils=>simp[Zi,Zh]at hi
 | sl es=>simp[Zi,Zh]at hi
 | _=>cases a
theorem Zgz {ti:TI} {a d:DV} (g:Le h h' a) (b:Z3a ti h a=some d):Z3a ti h' a=some d:=by
 cases a with
 | ptr id off =>
  simp only[Z3a]at b⊢;obtain⟨o,c,f⟩:=Z0 b;rw[g id (by simp[Zs]) o c];exact f
 | rptr id v i e off =>
  simp only[Z3a]at b⊢;obtain⟨o,c,f⟩:=Z0 b;rw[g id (by simp[Zs]) o c];exact f
 | pub cs=>exact b
 | _=>cases b
theorem Zfc {ti:TI} {a v:DV} {us:List (Nat×Option Zb)} (j:Le h h' a) (c:Z5p ti h a v=some us):Z5p ti h' a v=some us/\∀u∈us,u.1∈Zs a:=by
 unfold Z5p at c⊢;obtain⟨k,c⟩:=Z3 c;rw[k];cases a with
 | ptr id off =>
  simp only[jB]at c⊢;obtain⟨o,f,b⟩:=Z0 c;rw[j id (by simp[Zs]) o f]
  refine⟨b,?_⟩;split at b
  ·obtain⟨_,g⟩:=Z3 b;cases g;intro u d;simp only[List.mem_singleton]at d;subst d;simp[Zs]
  ·cases b
 | rptr id v i e off =>
  simp only[jB]at c⊢;obtain⟨o,f,b⟩:=Z0 c;rw[j id (by simp[Zs]) o f]
  refine⟨b,?_⟩;split at b
  ·obtain⟨_,_,b⟩:=Z0 b;obtain⟨_,g⟩:=Z3 b;cases g;intro u d;simp only[List.mem_singleton]at d;subst d;simp[Zs]
  ·cases b
 | _=>cases c
theorem Zhz {k:TK} {d r:DV} (c:Le h h' d) (a:Z5K k h d=some r):Z5K k h' d=some r:=by
 unfold Z5K at a⊢;split at a
 ·exact a
 ·exact a
 ·rename_i id;obtain⟨o,e,b⟩:=Z0 a;rw[c id (by simp[Zs]) o e];exact b
 ·exact a
 ·obtain⟨es,f,b⟩:=Z0 a;rw[Z6e c f];exact b
 ·exact a
 ·cases a
theorem Zei {t t':TypeId} {x:DV} {xs:List (List DV)} (b:Le h h' x) (a:Z8g E h t t' x=some xs):Z8g E h' t t' x=some xs:=by
 unfold Z8g at a⊢;cases hq:Nat.beq t t' with
 | true=>rw[hq]at a;exact Z6e b a
 | false=>rw[hq]at a;exact a
theorem ZcF {t t':TypeId} {s x:DV} {r:Out} (k:Le h h' s) (l:Le h h' x) (a:Z29 E nid h t t' s x=some r):Z29 E nid h' t t' s x=some r/\∀u∈r.upd,u.1=nid\/u.1∈Zs s:=by
 unfold Z29 at a⊢;obtain⟨ti,e,a⟩:=Z0 a;rw[e];simp only[jm];split at a
 ·obtain⟨ei,g,a⟩:=Z0 a;obtain⟨xs,f,a⟩:=Z0 a;rw[g];simp only[jm,Zei l f];obtain⟨m,a⟩:=Z3 a;rw[m];simp only[jB];cases s with
  | nils =>
   refine⟨a,?_⟩;cases xs with
   | nil=>cases a;simp
   | cons c cs =>
    obtain⟨_,a⟩:=Z3 a;cases a;intro u b;simp only[List.mem_singleton]at b;subst b;exact .inl rfl
  | rs id v =>
   simp only at a⊢;obtain⟨o,i,d⟩:=Z0 a;rw[k id (by simp[Zs]) o i]
   refine⟨d,?_⟩;split at d
   ·obtain⟨_,j⟩:=Z3 d;cases j;intro u b;simp only[List.mem_singleton]at b;subst b;exact .inr (by simp[Zs])
   ·cases d
  | _=>cases a
 ·cases a
theorem Z1w:∀{xs:List Operand} {ds:List DV},(∀x∈xs,OkX ρ ρ' h h' x)->Z1n ρ xs=some ds->Z1n ρ' xs=some ds/\∀id,id∈ZC ds->(∀o,h id=some o->h' id=some o)/\∃x∈xs,∃d,ZU ρ x=some d/\id∈Zs d
 | [],ds,_,b=>by simp only[Z1n,jh]at b;subst b;exact⟨rfl,fun id a=>by simp[ZC]at a⟩
 | x::xs,ds,ho,b=>by
  simp only[Z1n]at b⊢;obtain⟨d,c,b⟩:=Z0 b;obtain⟨ds',e,b⟩:=Z0 b;cases b;obtain⟨k1,k2⟩:=ho x (by simp) d c
  obtain⟨k3,k4⟩:=Z1w (fun y hy=>ho y (by simp[hy])) e
  refine⟨by rw[k1,k3];rfl,fun id a=>?_⟩
  simp only[ZC,List.mem_append]at a;rcases a with a|a
  ·exact⟨k2 id a,x,by simp,d,c,a⟩
  ·obtain⟨m1,y,m2,m3⟩:=k4 id a;exact⟨m1,y,by simp[m2],m3⟩
theorem Z6m:∀{ps:List (Nat×Operand)} {vs:List (Nat×DV)},(∀x∈ps.map (·.2),OkX ρ ρ' h h' x)->Z23 ρ ps=some vs->Z23 ρ' ps=some vs/\∀id,id∈ZC (vs.map (·.2))->(∀o,h id=some o->h' id=some o)/\∃x∈ps.map (·.2),∃d,ZU ρ x=some d/\id∈Zs d
 | [],vs,_,b=>by simp only[Z23,jh]at b;subst b;exact⟨rfl,fun id a=>by simp[ZC]at a⟩
 | (i,x)::ps,vs,ho,b=>by
  simp only[Z23]at b⊢;obtain⟨d,c,b⟩:=Z0 b;obtain⟨vs',e,b⟩:=Z0 b;cases b;obtain⟨k1,k2⟩:=ho x (by simp) d c
  obtain⟨k3,k4⟩:=Z6m (fun y hy=>ho y (by simp at hy⊢;exact .inr hy)) e
  refine⟨by rw[k1,k3];rfl,fun id a=>?_⟩
  simp only[jr,ZC,List.mem_append]at a;rcases a with a|a
  ·exact⟨k2 id a,x,by simp,d,c,a⟩
  ·obtain⟨m1,y,m2,m3⟩:=k4 id a;exact⟨m1,y,by simp at m2⊢;exact .inr m2,m3⟩
theorem Zgs (d:DV):ZC (cellsOf d)=Zs d:=by
 cases d<;>simp[cellsOf,ZC,Zs]
theorem Z9Z {size:Nat}:∀{ps:List (Nat×DV)} {k:Nat} {es:List (List DV)},(∀id,id∈ZC (ps.map (·.2))->∀o,h id=some o->h' id=some o)->Z5Y h size k ps=some es->Z5Y h' size k ps=some es/\∀i∈Zi (ps.map (·.2)),∃o,h i=some o
 | [],k,es,_,a=>⟨a,fun i hi=>by simp[Zi]at hi⟩
 | (i,v)::ps,k,es,hl,a=>by
  simp only[Z5Y]at a⊢;obtain⟨l,a⟩:=Z3 a;obtain⟨c,f,a⟩:=Z0 a;obtain⟨e,a⟩:=Z3 a;obtain⟨r,g,a⟩:=Z0 a;obtain⟨k1,k2⟩:=Z9Z (fun id b=>hl id (by simp[ZC,b])) g
  refine⟨?_,fun j d=>?_⟩
  ·rw[l];simp only[jB];rw[Z5w _ _ (fun id b=>hl id (by rw[Zgs]at b;simp[ZC,b])) f]
   simp only[jm,e,jB];rw[k1];exact a
  ·simp only[jr,Zi,List.mem_append]at d;rcases d with d|d
   ·exact Z4k _ _ f j (by rw[Z7e];exact d)
   ·exact k2 j d
end
end Go.Ab
namespace Go.Ab
section
variable {E:Env} {ρ ρ':Nat->Option DV} {h h':Nat->Option Zb} {nid:Nat}
theorem Yt {x:Option DV} {r:Out} (a:x.bind ret=some r):r.upd=[]:=by
 obtain⟨d,_,h⟩:=Z0 a;cases h;rfl
def Ups (ρ:Nat->Option DV) (nid:Nat) (xs:Array Operand) (r:Out):Prop:=∀u∈r.upd,u.1=nid\/∃x∈xs,∃d,ZU ρ x=some d/\u.1∈Zs d
theorem ZK {xs:Array Operand} {r:Out} (h:r.upd=[]):Ups ρ nid xs r:=fun u a=>by rw[h]at a;cases a
theorem ZgA {c:Call} {r:Out} (m:∀x∈c.operands,OkX ρ ρ' h h' x) (a:Zx E nid ρ h (.call c)=some r):Zx E nid ρ' h' (.call c)=some r/\Ups ρ nid c.operands r:=by
 have b:∀x∈c.args.toList,x∈c.operands:=fun x w=>by simp[Call.operands];exact .inr (by simpa using w)
 simp only[Zx]at a⊢;split at a
 ·split at a
  ·rename_i x t ts f _;obtain⟨ti,p,a⟩:=Z0 a;obtain⟨d,g,a⟩:=Z0 a;have w:=b x (by rw[f];simp)
   obtain⟨k1,k2⟩:=m x w d g;obtain⟨q,i,j⟩:=Z0 a;rw[p];simp only[jm];rw[k1];simp only[jm];rw[Zhz k2 i];exact⟨j,ZK (Yt a)⟩
  ·cases a
 ·split at a
  ·rename_i s x t t' f _;obtain⟨ds,g,a⟩:=Z0 a;obtain⟨dx,i,a⟩:=Z0 a;have y:=b s (by rw[f];simp)
   obtain⟨k1,k2⟩:=m s y ds g;obtain⟨k3,k4⟩:=m x (b x (by rw[f];simp)) dx i
   obtain⟨k5,k6⟩:=ZcF k2 k4 a;simp only[jB,k1,k3,jm];refine⟨k5,fun u hu=>?_⟩;rcases k6 u hu with e|e
   ·exact .inl e
   ·exact .inr ⟨s,y,ds,g,e⟩
  ·cases a
 ·split at a
  ·rename_i x f;obtain⟨d,g,a⟩:=Z0 a;obtain⟨k1,k2⟩:=m x (b x (by rw[f];simp)) d g
   rw[k1];simp only[jm];split at a
   ·exact⟨a,ZK (by obtain rfl:=Z1p a;rfl)⟩
   ·rename_i id v;obtain⟨o,ho,i⟩:=Z0 a;simp only[k2 id (by simp[Zs]) o ho,jm]
    refine⟨i,?_⟩;split at i
    ·obtain⟨_,j⟩:=Z3 i;obtain rfl:=Z1p j;exact ZK rfl
    ·cases i
   ·cases a
  ·cases a
 ·split at a
  ·rename_i x n t t' f _;obtain⟨dx,g,a⟩:=Z0 a;obtain⟨dn,i,a⟩:=Z0 a;obtain⟨ti,p,a⟩:=Z0 a;have z:=b x (by rw[f];simp)
   obtain⟨k1,k2⟩:=m x z dx g;obtain⟨k3,_⟩:=m n (b n (by rw[f];simp)) dn i
   simp only[k1,k3,p,jm];split at a
   ·exact⟨a,ZK (by obtain rfl:=Z1p a;rfl)⟩
   ·rename_i id v k e _ _ _ _;obtain⟨o,ho,j⟩:=Z0 a;simp only[k2 id (by simp[Zs]) o ho,jm]
    refine⟨j,?_⟩;split at j
    ·obtain⟨_,h4⟩:=Z3 j;obtain⟨l,_,h5⟩:=Z0 h4;cases h5;intro u hu;simp only[List.mem_singleton]at hu;subst hu;exact .inr ⟨x,z,_,g,by simp[Zs]⟩
    ·cases j
   ·cases a
  ·cases a
 ·obtain⟨vs,g,a⟩:=Z0 a;obtain⟨k1,_⟩:=Z1w (h:=h) (h':=h') (fun x w=>m x (b x w)) g;rw[k1];refine⟨a,?_⟩;split at a
  ·exact ZK (Yt a)
  ·cases a
 ·obtain⟨vs,g,a⟩:=Z0 a;obtain⟨k1,_⟩:=Z1w (h:=h) (h':=h') (fun x w=>m x (b x w)) g;rw[k1];refine⟨a,?_⟩;split at a
  ·exact ZK (Yt a)
  ·cases a
 ·cases a
theorem Zb0 {x:Option Operand} {d:Option DV} (e:∀y,x=some y->OkX ρ ρ' h h' y) (a:Z2e ρ x=some d):Z2e ρ' x=some d:=by
 cases x with
 | none=>exact a
 | some y =>
  simp only[Z2e]at a⊢;obtain⟨v,b,c⟩:=Z0 a;rw[(e y rfl v b).1];exact c
theorem ZiU {op:Op} {r:Out} (hx:∀x∈op.operands,OkX ρ ρ' h h' x) (p:Zx E nid ρ h op=some r):Zx E nid ρ' h' op=some r/\Ups ρ nid op.operands r:=by
 cases op with
 | call c=>exact ZgA hx p
 | move x =>
  simp only[Zx]at p⊢;obtain⟨d,h1,g⟩:=Z0 p;rw[(hx x (by simp[Op.operands]) d h1).1]
  exact⟨g,ZK (Yt p)⟩
 | assign x =>
  simp only[Zx]at p⊢;obtain⟨d,h1,g⟩:=Z0 p;rw[(hx x (by simp[Op.operands]) d h1).1]
  exact⟨g,ZK (Yt p)⟩
 | pick c x y =>
  simp only[Zx]at p⊢;obtain⟨d,h1,g⟩:=Z0 p;rw[(hx c (by simp[Op.operands]) d h1).1]
  simp only[jm];split at g
  ·rename_i b;cases b
   ·obtain⟨e,a,h4⟩:=Z0 g;simp only[jA];rw[show ZU ρ' y=some e from(hx y (by simp[Op.operands]) e a).1]
    exact⟨h4,ZK (Yt g)⟩
   ·obtain⟨e,a,h4⟩:=Z0 g;simp only[jB];rw[show ZU ρ' x=some e from(hx x (by simp[Op.operands]) e a).1]
    exact⟨h4,ZK (Yt g)⟩
  ·cases g
 | alloc t =>
  simp only[Zx]at p⊢;refine⟨p,?_⟩;obtain⟨ti,_,g⟩:=Z0 p;cases g;intro u hu;simp only[List.mem_singleton]at hu;subst hu;exact .inl rfl
 | box t x =>
  simp only[Zx]at p⊢;obtain⟨d,h1,g⟩:=Z0 p;rw[(hx x (by simp[Op.operands]) d h1).1]
  refine⟨g,?_⟩;obtain⟨_,a⟩:=Z3 g;cases a;intro u hu;simp only[List.mem_singleton]at hu;subst hu;exact .inl rfl
 | build t ps =>
  simp only[Zx]at p⊢;obtain⟨ti,w,h1⟩:=Z0 p;obtain⟨vs,g,a⟩:=Z0 h1;rw[w];simp only[jm];rw[(Z6m (h:=h) (h':=h') (fun x hm=>hx x (by simpa[Op.operands]using hm)) g).1]
  refine⟨a,?_⟩;split at a
  ·obtain⟨cs,_,h5⟩:=Z0 a;cases h5;exact ZK rfl
  ·obtain⟨ei,_,h4⟩:=Z0 a;obtain⟨cs,_,h5⟩:=Z0 h4;cases h5;exact ZK rfl
  ·cases a
 | buildSlice t n ps =>
  simp only[Zx]at p⊢;obtain⟨ti,w,h1⟩:=Z0 p;rw[w];simp only[jm];cases hk:ti.k with
  | slice e =>
   rw[hk]at h1;simp only at h1⊢;obtain⟨ei,hei,g⟩:=Z0 h1;obtain⟨vs,a,h4⟩:=Z0 g;obtain⟨es,h5,h6⟩:=Z0 h4;obtain⟨k1,k2⟩:=Z6m (h:=h) (h':=h') (fun x hm=>hx x (by simpa[Op.operands]using hm)) a
   obtain⟨k3,k4⟩:=Z9Z (fun id hid=>(k2 id hid).1) h5;have k5:=Z85 (fun id hid=>(k2 id hid).1) k4;rw[hei];simp only[jm];rw[k1];simp only[jm];rw[k3];simp only[jm];rw[k5];refine⟨h6,?_⟩;obtain⟨_,h7⟩:=Z3 h6;cases h7;intro u hu;rcases jv.1 hu with rfl|hu
   ·exact .inl rfl
   ·obtain⟨_,x,m1,d,m2,m3⟩:=k2 u.1 (Z31 _ _ (Z2S _ u hu));exact .inr ⟨x,by simpa[Op.operands]using m1,d,m2,m3⟩
  | _=>rw[hk]at h1;cases h1
 | load t x =>
  simp only[Zx]at p⊢;obtain⟨ti,w,h1⟩:=Z0 p;obtain⟨d,g,a⟩:=Z0 h1;obtain⟨v,h4,h5⟩:=Z0 a;obtain⟨k1,k2⟩:=hx x (by simp[Op.operands]) d g
  rw[w];simp only[jm];rw[k1];simp only[jm];rw[Zgz k2 h4];exact⟨h5,ZK (Yt a)⟩
 | store t x y =>
  simp only[Zx]at p⊢;obtain⟨ti,w,h1⟩:=Z0 p;obtain⟨d,g,a⟩:=Z0 h1;obtain⟨v,h4,h5⟩:=Z0 a;obtain⟨us,h6,h7⟩:=Z0 h5;obtain⟨k1,k2⟩:=hx x (by simp[Op.operands]) d g
  obtain⟨k3,_⟩:=hx y (by simp[Op.operands]) v h4
  obtain⟨k5,k6⟩:=Zfc k2 h6;rw[w];simp only[jm];rw[k1];simp only[jm];rw[k3];simp only[jm];rw[k5];refine⟨h7,?_⟩;cases h7;intro u hu;exact .inr ⟨x,by simp[Op.operands],d,g,k6 u hu⟩
 | nilCheck x =>
  simp only[Zx]at p⊢;obtain⟨d,h1,g⟩:=Z0 p;rw[(hx x (by simp[Op.operands]) d h1).1]
  refine⟨g,?_⟩;split at g<;>first|(cases g;exact ZK rfl)|cases g
 | binOp op t x y z =>
  simp only[Zx]at p⊢;obtain⟨d,h1,g⟩:=Z0 p;obtain⟨e,a,h4⟩:=Z0 g;rw[(hx x (by simp[Op.operands]) d h1).1];simp only[jm];rw[(hx y (by simp[Op.operands]) e a).1]
  exact⟨h4,ZK (Yt h4)⟩
 | unOp op t x =>
  simp only[Zx]at p⊢;obtain⟨d,h1,g⟩:=Z0 p;rw[(hx x (by simp[Op.operands]) d h1).1]
  exact⟨g,ZK (Yt g)⟩
 | convert s t x =>
  simp only[Zx]at p⊢;obtain⟨si,hsi,h0⟩:=Z0 p;obtain⟨ti,w,h1⟩:=Z0 h0;obtain⟨d,g,a⟩:=Z0 h1;rw[hsi];simp only[jm];rw[w];simp only[jm];rw[(hx x (by simp[Op.operands]) d g).1]
  refine⟨a,?_⟩;split at a<;>first|(cases a;exact ZK rfl)|cases a
 | makeInterface t x =>
  simp only[Zx]at p⊢;obtain⟨ti,w,h1⟩:=Z0 p;obtain⟨d,g,a⟩:=Z0 h1;rw[w];simp only[jm];rw[(hx x (by simp[Op.operands]) d g).1]
  refine⟨a,?_⟩;cases hk:ti.k<;>rw[hk]at a<;>first|(cases a;exact ZK rfl)|cases a
 | typeAssert x xt t ok =>
  simp only[Zx]at p⊢;obtain⟨ti,w,h1⟩:=Z0 p;obtain⟨d,g,a⟩:=Z0 h1;rw[w];simp only[jm];rw[(hx x (by simp[Op.operands]) d g).1]
  refine⟨a,?_⟩;have fin:∀{r:Out},(bif ok then(Z1b ti).bind fun z=>ret (.tup [z,.bool false])else none)=some r->r.upd=[]:=fun h=>by
   obtain⟨_,h⟩:=Z3 h;obtain⟨z,_,h⟩:=Z0 h;cases h;rfl
  have fin2:∀{v:DV} {q:Bool} {r:Out},(bif q then ret v else bif ok then(Z1b ti).bind fun z=>ret (.tup [z,.bool false])else none)=some r->r.upd=[]:=fun {v q r} h=>by
   cases q with
   | true=>cases h;rfl
   | false=>exact fin h
  cases d with
  | nilif=>cases hk:ti.k<;>rw[hk]at a<;>first|exact ZK (fin a)|cases a
  | iface t' v=>cases hk:ti.k<;>rw[hk]at a<;>first|exact ZK (fin2 a)|cases a
  | _=>cases hk:ti.k<;>rw[hk]at a<;>cases a
 | makeSlice t l c =>
  simp only[Zx]at p⊢;obtain⟨ti,w,h1⟩:=Z0 p;obtain⟨dl,g,a⟩:=Z0 h1;obtain⟨dc,h4,h5⟩:=Z0 a;rw[w];simp only[jm];rw[(hx l (by simp[Op.operands]) dl g).1];simp only[jm];rw[(hx c (by simp[Op.operands]) dc h4).1]
  refine⟨h5,?_⟩;split at h5
  ·obtain⟨ei,_,h6⟩:=Z0 h5;obtain⟨_,h7⟩:=Z3 h6;cases h7;intro u hu;simp only[List.mem_singleton]at hu;subst hu;exact .inl rfl
  ·cases h5
 | makeFunc f x y =>
  simp only[Zx]at p⊢;obtain⟨d,h1,g⟩:=Z0 p;obtain⟨e,a,h4⟩:=Z0 g;rw[(Z1w (h:=h) (h':=h') (fun z hm=>hx z (by simp[Op.operands];exact .inl (by simpa using hm))) h1).1];simp only[jm]
  rw[(Z1w (h:=h) (h':=h') (fun z hm=>hx z (by simp[Op.operands];exact .inr (by simpa using hm))) a).1]
  refine⟨h4,?_⟩;cases h4;exact ZK rfl
 | makeMap t x =>
  cases x with
  | some x=>simp[Zx]at p
  | none =>
   refine⟨by simpa only[Zx]using p,?_⟩
   simp only[Zx]at p;cases p;intro u hu;simp only[List.mem_singleton]at hu;subst hu;exact .inl rfl
 | slice t x lo hi mx =>
  cases mx with
  | some m=>simp[Zx]at p
  | none =>
   simp only[Zx]at p⊢;obtain⟨ti,w,h1⟩:=Z0 p;obtain⟨d,g,a⟩:=Z0 h1;obtain⟨dl,h4,h5⟩:=Z0 a;obtain⟨dh,h6,h7⟩:=Z0 h5;obtain⟨k1,k2⟩:=hx x (by simp[Op.operands]) d g
   rw[w];simp only[jm];rw[k1];simp only[jm];rw[Zb0 (h:=h) (h':=h') (fun y hy=>hx y (by subst hy;simp[Op.operands])) h4];simp only[jm]
   rw[Zb0 (h:=h) (h':=h') (fun y hy=>hx y (by subst hy;simp[Op.operands])) h6];simp only[jm]
   cases hk:ti.k with
   | string =>
    rw[hk]at h7;cases d with
    | str s=>exact⟨h7,ZK (Yt h7)⟩
    | _=>cases h7
   | array n e =>
    rw[hk]at h7;cases d with
    | ptr id off =>
     simp only at h7⊢;obtain⟨ei,hei,h8⟩:=Z0 h7;obtain⟨ob,h9,h10⟩:=Z0 h8;rw[hei];simp only[jm];rw[k2 id (by simp[Zs]) _ h9];simp only[jm]
     refine⟨h10,?_⟩;cases ob with
     | cells ct cs =>
      obtain⟨_,h11⟩:=Z3 h10;obtain⟨q,_,h12⟩:=Z0 h11;cases h12;intro u hu;simp only[List.mem_singleton]at hu;subst hu;exact .inr ⟨x,by simp[Op.operands],.ptr id off,g,by simp[Zs]⟩
     | _=>cases h10
    | pub cs =>
     simp only at h7⊢;refine⟨h7,?_⟩;obtain⟨ei,_,h8⟩:=Z0 h7;obtain⟨_,h9⟩:=Z3 h8;exact ZK (Yt h9)
    | _=>cases h7
   | slice e =>
    rw[hk]at h7;simp only at h7⊢;obtain⟨ei,hei,h8⟩:=Z0 h7;obtain⟨es,h9,h10⟩:=Z0 h8;have k5:=Z85 (h:=h) (h':=h') (ds:=[d]) (fun id hid=>k2 id (by simpa[ZC]using hid)) (ZcQ h9)
    simp only[Zi,jo]at k5;have k6:Z36 h' d=Z36 h d:=Zd9 k2 h9;rw[hei];simp only[jm];rw[Z6e k2 h9];simp only[jm];rw[k5,k6];refine⟨h10,?_⟩;obtain⟨_,h11⟩:=Z3 h10;cases hvw:ti.view&&Z36 h d with
    | true =>
     rw[hvw]at h11;simp only[jB]at h11;exact ZK (Yt h11)
    | false =>
    rw[hvw]at h11;simp only[jA]at h11;obtain⟨q,_,h12⟩:=Z0 h11;cases h12;intro u hu;exact .inr ⟨x,by simp[Op.operands],d,g,Za0 d _ (Z2S _ u hu)⟩
   | _=>rw[hk]at h7;cases h7
 | fieldAddr s x f =>
  simp only[Zx]at p⊢;obtain⟨ti,w,h1⟩:=Z0 p;obtain⟨d,g,a⟩:=Z0 h1;rw[w];simp only[jm];rw[(hx x (by simp[Op.operands]) d g).1]
  refine⟨a,?_⟩;split at a
  ·obtain⟨q,_,h4⟩:=Z0 a;obtain⟨fi,_,h5⟩:=Z0 h4;obtain⟨_,h6⟩:=Z3 h5;exact ZK (Yt h6)
  ·cases a
 | field s x f =>
  simp only[Zx]at p⊢;obtain⟨ti,w,h1⟩:=Z0 p;obtain⟨d,g,a⟩:=Z0 h1;rw[w];simp only[jm];rw[(hx x (by simp[Op.operands]) d g).1]
  refine⟨a,?_⟩;split at a
  ·obtain⟨q,_,h4⟩:=Z0 a;obtain⟨fi,_,h5⟩:=Z0 h4;exact ZK (Yt h5)
  ·cases a
 | indexAddr t x i =>
  simp only[Zx]at p⊢;obtain⟨ti,w,h1⟩:=Z0 p;obtain⟨d,g,a⟩:=Z0 h1;obtain⟨di,h4,h5⟩:=Z0 a;obtain⟨k1,k2⟩:=hx x (by simp[Op.operands]) d g
  rw[w];simp only[jm];rw[k1];simp only[jm];rw[(hx i (by simp[Op.operands]) di h4).1];simp only[jm]
  cases hk:ti.k with
  | array len e =>
   rw[hk]at h5;refine⟨h5,?_⟩;obtain⟨ei,_,h6⟩:=Z0 h5;obtain⟨j,_,h7⟩:=Z0 h6;exact ZK (Yt h7)
  | slice e =>
   rw[hk]at h5;simp only at h5⊢;obtain⟨ei,hei,h6⟩:=Z0 h5;rw[hei];simp only[jm];cases d with
   | sl es =>
    refine⟨h6,?_⟩;obtain⟨j,_,h7⟩:=Z0 h6;obtain⟨c,_,h8⟩:=Z0 h7;obtain⟨_,h9⟩:=Z3 h8;cases h9;exact ZK rfl
   | rs id v =>
    simp only at h6⊢;obtain⟨o,ho,h7⟩:=Z0 h6;rw[k2 id (by simp[Zs]) o ho]
    refine⟨h7,?_⟩;split at h7
    ·obtain⟨j,_,h8⟩:=Z0 h7;obtain⟨_,h9⟩:=Z3 h8;cases h9;exact ZK rfl
    ·cases h7
   | _=>cases h6
  | _=>rw[hk]at h5;cases h5
 | index t x i =>
  simp only[Zx]at p⊢;obtain⟨ti,w,h1⟩:=Z0 p;obtain⟨d,g,a⟩:=Z0 h1;obtain⟨di,h4,h5⟩:=Z0 a;rw[w];simp only[jm];rw[(hx x (by simp[Op.operands]) d g).1];simp only[jm];rw[(hx i (by simp[Op.operands]) di h4).1]
  refine⟨h5,?_⟩;split at h5
  ·obtain⟨ei,_,h6⟩:=Z0 h5;obtain⟨j,_,h7⟩:=Z0 h6;exact ZK (Yt h7)
  ·obtain⟨j,_,h7⟩:=Z0 h5;obtain⟨c,_,h8⟩:=Z0 h7;cases h8;exact ZK rfl
  ·cases h5
 | lookup t m k ok =>
  simp only[Zx]at p⊢;obtain⟨ti,w,h1⟩:=Z0 p;obtain⟨dm,g,a⟩:=Z0 h1;obtain⟨dk,h4,h5⟩:=Z0 a;obtain⟨k1,k2⟩:=hx m (by simp[Op.operands]) dm g
  rw[w];simp only[jm];rw[k1];simp only[jm];rw[(hx k (by simp[Op.operands]) dk h4).1];simp only[jm]
  cases hk:ti.k with
  | map kt e =>
   rw[hk]at h5;simp only at h5⊢;obtain⟨ei,hei,h6⟩:=Z0 h5;obtain⟨ki,hki,h7⟩:=Z0 h6;obtain⟨hq,h8⟩:=Z3 h7;obtain⟨es,h9,h10⟩:=Z0 h8;rw[hei];simp only[jm];rw[hki];simp only[jm];rw[hq];simp only[jB];have k3:∀(z:Option (List (DV×DV))),z=some es->(z.bind fun es=>(Z2Q dk es).bind fun r=>match r,ei.zero with
     | some v,_=>ret (bif ok then .tup [v,.bool true]else v)
     | none,z::_=>ret (bif ok then .tup [z,.bool false]else z)
     | _,_=>none)=some r:=fun z hz=>by rw[hz];exact h10
   refine⟨k3 _ ?_,?_⟩
   ·cases dm with
    | nilmap=>exact h9
    | map id =>
     simp only at h9⊢;obtain⟨o,ho,h11⟩:=Z0 h9;rw[k2 id (by simp[Zs]) o ho];exact h11
    | _=>cases h9
   ·obtain⟨q,_,h12⟩:=Z0 h10;split at h12<;>first|(cases h12;exact ZK rfl)|cases h12
  | _=>rw[hk]at h5;cases h5
 | mapUpdate t m k x =>
  simp only[Zx]at p⊢;obtain⟨ti,w,h1⟩:=Z0 p;obtain⟨dm,g,a⟩:=Z0 h1;obtain⟨dk,h4,h5⟩:=Z0 a;obtain⟨dx,h6,h7⟩:=Z0 h5;obtain⟨k1,k2⟩:=hx m (by simp[Op.operands]) dm g
  rw[w];simp only[jm];rw[k1];simp only[jm];rw[(hx k (by simp[Op.operands]) dk h4).1];simp only[jm];rw[(hx x (by simp[Op.operands]) dx h6).1];simp only[jm]
  cases hk:ti.k with
  | map kt e =>
   rw[hk]at h7;cases dm with
   | map id =>
    simp only at h7⊢;obtain⟨ki,hki,h8⟩:=Z0 h7;obtain⟨o,ho,h9⟩:=Z0 h8;rw[hki];simp only[jm];rw[k2 id (by simp[Zs]) o ho]
    refine⟨h9,?_⟩;split at h9
    ·obtain⟨_,h10⟩:=Z3 h9;obtain⟨es,_,h11⟩:=Z0 h10;cases h11;intro u hu;simp only[List.mem_singleton]at hu;subst hu;exact .inr ⟨m,by simp[Op.operands],.map id,g,by simp[Zs]⟩
    ·cases h9
   | _=>cases h7
  | _=>rw[hk]at h7;cases h7
 | range t x =>
  simp only[Zx]at p⊢;obtain⟨ti,w,h1⟩:=Z0 p;obtain⟨d,g,a⟩:=Z0 h1;obtain⟨k1,k2⟩:=hx x (by simp[Op.operands]) d g
  rw[w];simp only[jm];rw[k1];simp only[jm];cases hk:ti.k with
  | string =>
   rw[hk]at a;cases d with
   | str s =>
    refine⟨a,?_⟩;cases a;intro u hu;simp only[List.mem_singleton]at hu;subst hu;exact .inl rfl
   | _=>cases a
  | map kt e =>
   rw[hk]at a;cases d with
   | map id =>
    simp only at a⊢;obtain⟨ob,ho,h4⟩:=Z0 a;rw[k2 id (by simp[Zs]) _ ho];simp only[jm]
    refine⟨h4,?_⟩;cases ob with
    | map es =>
     cases h4;intro u hu;simp only[List.mem_singleton]at hu;subst hu;exact .inl rfl
    | _=>cases h4
   | _=>cases a
  | _=>rw[hk]at a;cases a
 | next it s =>
  cases s with
  | false=>simp[Zx]at p
  | true =>
   simp only[Zx]at p⊢;obtain⟨d,h1,g⟩:=Z0 p;obtain⟨k1,k2⟩:=hx it (by simp[Op.operands]) d h1
   rw[k1];simp only[jm];cases d with
   | iter id =>
    simp only at g⊢;obtain⟨o,ho,a⟩:=Z0 g;rw[k2 id (by simp[Zs]) o ho]
    refine⟨a,?_⟩;split at a
    ·rename_i s pos
     by_cases hp:pos<s.size
     ·simp only[hp,decide_true,jB]at a;cases a;intro u hu;simp only[List.mem_singleton]at hu;subst hu;exact .inr ⟨it,by simp[Op.operands],.iter id,h1,by simp[Zs]⟩
     ·simp only[hp,decide_false,jA]at a;cases a;exact ZK rfl
    ·cases a
   | _=>cases g
 | extract t i =>
  simp only[Zx]at p⊢;obtain⟨d,h1,g⟩:=Z0 p;rw[(hx t (by simp[Op.operands]) d h1).1]
  refine⟨g,?_⟩;split at g
  ·exact ZK (Yt g)
  ·cases g
 | _=>simp[Zx]at p
theorem ZbM:∀(xs ys:List DV) (i:Nat),i∈ZC (xs++ys)↔i∈ZC xs\/i∈ZC ys
 | [],ys,i=>by simp[ZC]
 | x::xs,ys,i=>by simp[ZC,ZbM xs ys i,or_assoc]
theorem Ze4 {c:Call} {g:FuncId} {x y as:List DV} (q:∀z∈c.operands,OkX ρ ρ' h h' z) (l:target E ρ c=some (.fn (.func g) x y,as)) :
  target E ρ' c=some (.fn (.func g) x y,as)/\∀id,id∈ZC as->(∀o,h id=some o->h' id=some o)/\∃z∈c.operands,∃d,ZU ρ z=some d/\id∈Zs d:=by
 unfold target at l⊢;split at l
 ·rename_i f hc;have k:f∈c.operands:=by simp[Call.operands,hc]
  have b:∀z∈c.args.toList,z∈c.operands:=fun z i=>by simp[Call.operands];exact .inr (by simpa using i)
  obtain⟨d,j,e⟩:=Z0 l;obtain⟨k1,k2⟩:=q f k d j;rw[k1];simp only[jm];split at e
  ·rename_i g' first caps
   obtain⟨as',p,n⟩:=Z0 e;obtain⟨k3,k4⟩:=Z1w (h:=h) (h':=h') (fun z i=>q z (b z i)) p;rw[k3];cases n;refine⟨rfl,fun id a=>?_⟩;rw[ZbM,ZbM]at a;rcases a with(a|a)|a
   ·have:id∈Zs (.fn (.func g) first caps):=by simp only[Zs,List.mem_append];exact .inl a
    exact⟨k2 id this,f,k,_,j,this⟩
   ·obtain⟨m1,z,m2,m3⟩:=k4 id a;exact⟨m1,z,b z m2,m3⟩
   ·have:id∈Zs (.fn (.func g) first caps):=by simp only[Zs,List.mem_append];exact .inr a
    exact⟨k2 id this,f,k,_,j,this⟩
  ·obtain⟨as',p,n⟩:=Z0 e;cases n
  ·cases e
 ·rename_i f m hc;have k:f∈c.operands:=by simp[Call.operands,hc]
  have b:∀z∈c.args.toList,z∈c.operands:=fun z i=>by simp[Call.operands];exact .inr (by simpa using i)
  obtain⟨d,j,e⟩:=Z0 l;obtain⟨k1,k2⟩:=q f k d j;rw[k1];simp only[jm];split at e
  ·rename_i t v;obtain⟨ti,r,e⟩:=Z0 e;obtain⟨g',s,e⟩:=Z0 e;obtain⟨as',p,n⟩:=Z0 e;obtain⟨k3,k4⟩:=Z1w (h:=h) (h':=h') (fun z i=>q z (b z i)) p;simp only[r,s,k3,jm];cases n;refine⟨rfl,fun id a=>?_⟩;simp only[ZC,List.mem_append]at a;rcases a with a|a
   ·have:id∈Zs (.iface t v):=by simpa only[Zs]using a
    exact⟨k2 id this,f,k,_,j,this⟩
   ·obtain⟨m1,z,m2,m3⟩:=k4 id a;exact⟨m1,z,b z m2,m3⟩
  ·cases e
 ·cases l
theorem ZhI {call:Nat->List DV->Option DV} {op:Op} {r:Out} (k:∀x∈op.operands,OkX ρ ρ' h h' x) (d:Z8k E call nid ρ h op=some r):Z8k E call nid ρ' h' op=some r/\Ups ρ nid op.operands r:=by
 unfold Z8k at d⊢;split at d
 ·rename_i c hc;have i:=Z3w hc;subst i;unfold Z4Z at d⊢;obtain⟨tg,n,f⟩:=Z0 d;split at f
  ·rename_i g x y as;obtain⟨fs,j,m⟩:=Z0 f;obtain⟨q,o,a⟩:=Z0 m;have e:∀z∈c.operands,OkX ρ ρ' h h' z:=k;obtain⟨k1,k2⟩:=Ze4 e n;rw[k1];simp only[jm];rw[Z9u as fs (fun id b=>(k2 id b).1) j];simp only[jm];rw[o];simp only[jm];cases hrv:as.any Zhv with
   | true =>
    rw[hrv]at a;simp only[jB]at a⊢;exact⟨a,ZK (Yt a)⟩
   | false =>
   rw[hrv]at a;simp only[jA]at a⊢;cases a;rw[Z85 (fun id b=>(k2 id b).1) (Z8p as fs j)];refine⟨rfl,fun u l=>?_⟩;obtain⟨_,z,m1,m2⟩:=k2 u.1 (Z31 as _ (Z2S _ u l));exact .inr ⟨z,m1,m2⟩
  ·cases f
 ·exact ZiU k d
end
end Go.Ab
namespace Go.Ab
open Go.RowKit
section
variable {E:Env} {call:Nat->List DV->Option DV} {callH callY:Yb} {V nt:Nat} {ops:Array Oper} {b:Nat}
structure Z49 (E:Env) (call:Nat->List DV->Option DV) (callH callY:Yb) (V nt:Nat) (ops:Array Oper) (b:Nat) (m:Mid) (k nx nx2:Nat) (o:Oper) (d:YH) (ds:List (Nat×YH)):Prop where
 op:ops[k]? = some o
 dst:d.dst=o.dst
 anc:d.anc=Z1N ops ds o k
 edges:∀e∈o.after,Region.binds .any e=true->e.on<k
 fits:∀t,o.dst=some t->t<nt
 apart:∀e∈ds,Nat.testBit d.anc e.1=true\/∀t,o.dst=some t->t∉(ops.getD e.1 o).looksAt ops/\e.2.dst≠some t
 ups:∀e∈ds,Nat.testBit d.anc e.1=true\/((d.new≠none->e.2.new=none)/\∀u∈d.out.upd,u.1∉e.2.touch/\Zq u.1 e.2.out.upd=none)
 run:(Z1u ops (seen d.anc (ZS V m.base m.loc) ds) o=some true/\Z8k E call (b+k) (seen d.anc (ZS V m.base m.loc) ds) (Z60 d.anc m.objs.get ds) o.op=some d.out/\d.touch=touch (seen d.anc (ZS V m.base m.loc) ds) o.op/\d.new=none/\nx2=nx) ∨
  (Z1u ops (seen d.anc (ZS V m.base m.loc) ds) o=some false/\d.touch=[]/\d.out=⟨some (.tup []),[]⟩/\d.new=none/\nx2=nx) ∨
  (Z1u ops (seen d.anc (ZS V m.base m.loc) ds) o=some true/\d.new=some (nx,nx2)/\∃cl tgt,Z38 o.op=some cl/\target E (seen d.anc (ZS V m.base m.loc) ds) cl=some tgt/\YU callH callY (Z60 d.anc m.objs.get ds) nx tgt=some (d.out,d.touch,nx2))
def Z34 (E:Env) (call:Nat->List DV->Option DV) (callH callY:Yb) (V nt:Nat) (ops:Array Oper) (b:Nat) (m:Mid):Nat->Nat->List (Nat×YH)->Prop
 | k,nx,[]=>k=0/\nx=m.next
 | k,nx,(j,d)::ds=>k=j+1/\∃nx0,(∃o,Z49 E call callH callY V nt ops b m j nx0 nx o d ds)/\Z34 E call callH callY V nt ops b m j nx0 ds
theorem Zgk {k:Nat} {o:Oper} {os:List Oper} (h:o::os=ops.toList.drop k):ops[k]? = some o/\os=ops.toList.drop (k+1):=by
 have a:k<ops.toList.length:=by
  rcases Nat.lt_or_ge k ops.toList.length with b|b
  ·exact b
  ·rw[jd b]at h;cases h
 rw[jb a]at h;simp only[List.cons.injEq]at h;refine⟨?_,h.2⟩;rw[h.1,<-Array.getElem?_toList];exact List.getElem?_eq_getElem a
theorem Z4g {m:Mid}:∀(os:List Oper) (k:Nat) (mf:Mid) (nx:Nat) (ds:List (Nat×YH)),Z15 E call callH callY V nt ops b k os { m with next:=nx } ds=some mf->os=ops.toList.drop k->Z34 E call callH callY V nt ops b m k nx ds->k<=ops.size →
  ∃nx2 ds2,Z34 E call callH callY V nt ops b m ops.size nx2 ds2/\mf=YR V nt ds2 { m with next:=nx2 }
 | [],k,mf,nx,ds,a,ho,hs,hk=>by
  simp only[Z15,jh]at a;have:=List.drop_eq_nil_iff.1 ho.symm;simp at this;have:k=ops.size:=by omega
  subst this;exact⟨nx,ds,hs,a.symm⟩
 | o::os,k,mf,nx,ds,a,ho,hs,hk=>by
  obtain⟨g,n⟩:=Zgk ho;have j:k<ops.size:=(ja.1 g).1;simp only[Z15]at a;obtain⟨v,a⟩:=Z3 a;simp only[jn,List.all_eq_true,Bool.or_eq_true]at v;obtain⟨⟨q1,q2⟩,q4⟩:=v;have c:∀e∈o.after,Region.binds .any e=true->e.on<k:=fun e p hb=>by
   have:=(Array.all_eq_true_iff_forall_mem.1 q1) e p;simp only[hb,Bool.not_true,Bool.false_or,Tr.blt_dec,jk]at this;exact this
  have d:∀t,o.dst=some t->t<nt:=fun t ht=>by
   rw[ht]at q2;simpa[Tr.blt_dec]using q2
  have l:∀e∈ds,Nat.testBit (Z1N ops ds o k) e.1=true\/∀t,o.dst=some t->t∉(ops.getD e.1 o).looksAt ops/\e.2.dst≠some t:=fun e p=>by
   rcases q4 e p with h|h
   ·exact .inl h
   ·refine .inr fun t ht=>?_;rw[ht]at h;simp only[jn,Bool.not_eq_true']at h;refine⟨by simpa using h.1,fun w=>?_⟩
    have x:=h.2;rw[w]at x;simp at x
  obtain⟨want,y,a⟩:=Z0 a;cases want with
  | false =>
   simp only[jA]at a;exact Z4g os (k+1) mf nx _ a n ⟨rfl,nx,⟨o,g,rfl,rfl,c,d,l,fun e _=>.inr ⟨fun h=>absurd rfl h,fun u q=>by cases q⟩,.inr (.inl ⟨y,rfl,rfl,rfl,rfl⟩)⟩,hs⟩ j
  | true =>
   simp only[jB]at a;obtain⟨so,z,a⟩:=Z0 a;cases so with
   | some r =>
    have hr:=Zbi z;obtain⟨s,a⟩:=Z3 a;have f:∀e∈ds,Nat.testBit (Z1N ops ds o k) e.1=true\/(((none:Option (Nat×Nat))≠none->e.2.new=none)/\∀u∈r.upd,u.1∉e.2.touch/\Zq u.1 e.2.out.upd=none):=fun e p=>by
     simp only[List.all_eq_true,Bool.or_eq_true,jn,Bool.not_eq_true',Option.isNone_iff_eq_none]at s
     by_cases v:Nat.testBit (Z1N ops ds o k) e.1=true
     ·exact .inl v
     ·refine .inr ⟨fun h=>absurd rfl h,fun u q=>?_⟩;rcases s u q e p with h|h
      ·exact absurd h v
      ·exact⟨by simpa using h.1,h.2⟩
    exact Z4g os (k+1) mf nx _ a n ⟨rfl,nx,⟨o,g,rfl,rfl,c,d,l,f,.inl ⟨y,hr,rfl,rfl,rfl⟩⟩,hs⟩ j
   | none =>
    obtain⟨cl,h1,a⟩:=Z0 a;obtain⟨tgt,x,a⟩:=Z0 a;obtain⟨⟨out,T,nx2⟩,h3,a⟩:=Z0 a;obtain⟨i,a⟩:=Z3 a;simp only[List.all_eq_true,Bool.or_eq_true,jn,Bool.not_eq_true',Option.isNone_iff_eq_none]at i;have f:∀e∈ds,Nat.testBit (Z1N ops ds o k) e.1=true\/((some (nx,nx2)≠none->e.2.new=none)/\∀u∈out.upd,u.1∉e.2.touch/\Zq u.1 e.2.out.upd=none):=fun e p=>by
     rcases i e p with h|⟨h,h'⟩
     ·exact .inl h
     ·exact .inr ⟨fun _=>h,fun u q=>⟨by simpa using (h' u q).1,(h' u q).2⟩⟩
    exact Z4g os (k+1) mf nx2 _ a n ⟨rfl,nx,⟨o,g,rfl,rfl,c,d,l,f,.inr (.inr ⟨y,rfl,cl,tgt,h1,x,h3⟩)⟩,hs⟩ j
theorem Zh7 {ds:List (Nat×YH)} {o:Oper} {k i:Nat} (h:Nat.testBit (Z1N ops ds o k) i=true):∃e∈o.after,Region.binds .any e=true/\e.on<k/\(i=e.on\/∃d,(e.on,d)∈ds/\Nat.testBit d.anc i=true):=by
 unfold Z1N at h;have key:∀(es:List Edge) (x:Nat),Nat.testBit (es.foldl (fun m e=>bif Region.binds .any e&&Nat.blt e.on k then m ||| (1 <<< e.on) ||| ((ds.find? (fun d=>Nat.beq d.1 e.on)).map (·.2.anc)).getD 0 else m) x) i=true →
   Nat.testBit x i=true\/∃e∈es,Region.binds .any e=true/\e.on<k/\(i=e.on\/∃d,(e.on,d)∈ds/\Nat.testBit d.anc i=true):=by
  intro es
  induction es with
  | nil=>intro x b;exact .inl b
  | cons e es ih =>
   intro x b;rw[List.foldl_cons]at b;rcases ih _ b with a|⟨e',a,c⟩
   ·cases hq:(Region.binds .any e&&Nat.blt e.on k)with
    | false=>rw[hq]at a;exact .inl a
    | true =>
     rw[hq]at a;simp only[jn,Tr.blt_dec,jk]at hq;simp only[jB,Nat.testBit_or,Bool.or_eq_true]at a;rcases a with(a|a)|a
     ·exact .inl a
     ·refine .inr ⟨e,by simp,hq.1,hq.2,.inl ?_⟩
      rw[Nat.one_shiftLeft,Nat.testBit_two_pow]at a;simpa using (of_decide_eq_true a).symm
     ·refine .inr ⟨e,by simp,hq.1,hq.2,.inr ?_⟩
      cases hf:ds.find? (fun d=>Nat.beq d.1 e.on)with
      | none=>rw[hf]at a;simp at a
      | some p =>
       rw[hf]at a;obtain⟨j,d⟩:=p;have f:=List.find?_some hf;have f:j=e.on:=je f;subst f;exact⟨d,List.mem_of_find?_eq_some hf,a⟩
   ·exact .inr ⟨e',by simp[a],c⟩
 rcases key _ _ h with a|⟨e,a,c⟩
 ·simp at a
 ·exact⟨e,by simpa using a,c⟩
def Z1H (L:Nat->Bool) (ρ:Nat->Option DV):List (Nat×YH)->Nat->Option DV
 | [],t=>ρ t
 | (j,d)::ds,t=>if L j=true/\d.dst=some t then d.out.val else Z1H L ρ ds t
def hL (L:Nat->Bool) (h:Nat->Option Zb):List (Nat×YH)->Nat->Option Zb
 | [],id=>h id
 | (j,d)::ds,id=>if L j=true then(match Zq id d.out.upd with|some x=>x|none=>hL L h ds id)else hL L h ds id
theorem Z8F {id:Nat}:∀{us:List (Nat×Option Zb)} {x:Option Zb},Zq id us=some x->∃u∈us,u.1=id
 | [],_,h=>by cases h
 | (i,y)::us,x,h=>by
  simp only[Zq]at h;cases hq:Zq id us with
  | some z =>
   obtain⟨u,a,b⟩:=Z8F hq;exact⟨u,by simp[a],b⟩
  | none =>
   rw[hq]at h;simp only[Tr.beq_dec]at h
   by_cases e:i=id
   ·exact⟨(i,y),by simp,e⟩
   ·simp[e]at h
variable {m:Mid}
theorem Zcq:∀{ds:List (Nat×YH)} {k nx:Nat},Z34 E call callH callY V nt ops b m k nx ds->∀j d,(j,d)∈ds->j<k
 | [],k,_,h=>fun _ _ h=>by cases h
 | (j,d)::ds,k,_,h=>by
  obtain⟨rfl,_,_,a⟩:=h;have k2:=Zcq a;intro i e hi;rcases jv.1 hi with hi|hi
  ·cases hi;omega
  ·have:=k2 i e hi;omega
def Zh1 (L:Nat->Bool) (ds:List (Nat×YH)):Prop:=∀j d,(j,d)∈ds->L j=true->∀i,Nat.testBit d.anc i=true->L i=true
theorem Zi5:∀{ds:List (Nat×YH)} {k nx:Nat},Z34 E call callH callY V nt ops b m k nx ds->∀j,j<k->∃d tl o nx1 nx2,(j,d)∈ds/\Z49 E call callH callY V nt ops b m j nx1 nx2 o d tl/\(∀e∈tl,e∈ds)/\Z34 E call callH callY V nt ops b m j nx1 tl
 | [],k,_,h,j,h2=>by rw[h.1]at h2;omega
 | (i,d)::ds,k,nx,h,j,h2=>by
  obtain⟨rfl,nx0,⟨o,f⟩,c⟩:=h
  by_cases e:j=i
  ·subst e;exact⟨d,ds,o,nx0,nx,by simp,f,fun e a=>by simp[a],c⟩
  ·obtain⟨d',tl,o',n1,n2,k1,k2,k3,k4⟩:=Zi5 c j (by omega)
   exact⟨d',tl,o',n1,n2,by simp[k1],k2,fun e a=>by simp[k3 e a],k4⟩
theorem Zbf {L:Nat->Bool} {anc:Nat} (a:∀i,Nat.testBit anc i=true->L i=true) {ρ:Nat->Option DV} {t:Nat} {v:DV}:∀{ds:List (Nat×YH)},seen anc ρ ds t=some v->Z1H L ρ ds t=some v
 | [],h=>h
 | (j,d)::ds,h=>by
  simp only[seen]at h;simp only[Z1H]
  by_cases e:d.dst=some t
  ·rw[e]at h;simp only[Tr.beq_dec,decide_true,jB]at h;cases hq:Nat.testBit anc j with
   | false=>rw[hq]at h;cases h
   | true=>rw[hq]at h;rw[if_pos ⟨a j hq,e⟩];exact h
  ·rw[if_neg (fun q=>e q.2)];refine Zbf a ?_;cases hd:d.dst with
   | none=>rw[hd]at h;exact h
   | some s =>
    have b:s≠t:=fun q=>e (by rw[hd,q])
    rw[hd]at h;simpa[Tr.beq_dec,b]using h
theorem Za8 {L:Nat->Bool} {anc:Nat} (a:∀i,Nat.testBit anc i=true->L i=true) {h:Nat->Option Zb} {id:Nat} {ob:Zb}:∀{ds:List (Nat×YH)},Z60 anc h ds id=some ob->hL L h ds id=some ob
 | [],h=>h
 | (j,d)::ds,h=>by
  simp only[Z60]at h;simp only[hL];cases hq:Zq id d.out.upd with
  | some x =>
   rw[hq]at h;simp only at h⊢;cases hb:Nat.testBit anc j with
   | false=>rw[hb]at h;cases h
   | true=>rw[hb]at h;rw[if_pos (a j hb)];exact h
  | none =>
   rw[hq]at h;simp only at h⊢;have:=Za8 a h
   by_cases e:L j=true
   ·rw[if_pos e];exact this
   ·rw[if_neg e];exact this
theorem Z8C {L L':Nat->Bool} {ρ:Nat->Option DV} {t:Nat}:∀{ds:List (Nat×YH)},(∀i e,(i,e)∈ds->L' i=L i)->Z1H L' ρ ds t=Z1H L ρ ds t
 | [],_=>rfl
 | (j,d)::ds,h=>by
  simp only[Z1H];rw[h j d (by simp),Z8C fun i e hi=>h i e (by simp[hi])]
theorem Zd8 {L L':Nat->Bool} {h:Nat->Option Zb} {id:Nat}:∀{ds:List (Nat×YH)},(∀i e,(i,e)∈ds->L' i=L i)->hL L' h ds id=hL L h ds id
 | [],_=>rfl
 | (j,d)::ds,h=>by
  simp only[hL];rw[h j d (by simp),Zd8 fun i e hi=>h i e (by simp[hi])]
theorem ZdU {L:Nat->Bool} {k:Nat} (s:L k=false) {L':Nat->Bool} (g:∀j,L' j=if j=k then true else L j):∀{ds:List (Nat×YH)} {n nx:Nat},Z34 E call callH callY V nt ops b m n nx ds->Zh1 L ds->k<n->∃d tl o nx1 nx2,(k,d)∈ds/\Z49 E call callH callY V nt ops b m k nx1 nx2 o d tl ∧
  ((∀i,Nat.testBit d.anc i=true->L i=true) →
   (∀t v,t∈o.looksAt ops->seen d.anc (ZS V m.base m.loc) tl t=some v->Z1H L (ZS V m.base m.loc) ds t=some v) ∧
   (∀id ob,id∈d.touch->Z60 d.anc m.objs.get tl id=some ob->hL L m.objs.get ds id=some ob)) ∧
  (∀t,Z1H L' (ZS V m.base m.loc) ds t=if d.dst=some t then d.out.val else Z1H L (ZS V m.base m.loc) ds t) ∧
  (∀id,hL L' m.objs.get ds id=match Zq id d.out.upd with|some x=>x|none=>hL L m.objs.get ds id)
 | [],n,_,h,_,h2=>by rw[h.1]at h2;omega
 | (j,dj)::ds,n,nx,h,hd,h2=>by
  obtain⟨rfl,nx0,⟨o,w⟩,h4⟩:=h;have hd':Zh1 L ds:=fun i e hi=>hd i e (by simp[hi])
  by_cases e:k=j
  ·subst e;have a1:=Zcq h4;have f:L' k=true:=by rw[g];simp
   have c:∀i e,(i,e)∈ds->L' i=L i:=fun i e hi=>by
    have:=a1 i e hi;rw[g,if_neg (by omega)]
   refine⟨dj,ds,o,nx0,nx,by simp,w,fun a=>⟨fun t v _ p=>?_,fun id ob _ p=>?_⟩,fun t=>?_,fun id=>?_⟩
   ·simp only[Z1H,s,jg,false_and,if_false];exact Zbf a p
   ·simp only[hL,s,jg,if_false];exact Za8 a p
   ·simp only[Z1H,f,s,jg,false_and,if_false,true_and];rw[Z8C c]
   ·simp only[hL,f,s,jg,if_false,if_true];rw[Zd8 c]
  ·obtain⟨d,tl,o',n1,n2,k1,k2,k3,k4,k5⟩:=ZdU s g h4 hd' (by omega)
   have y:L' j=L j:=by rw[g,if_neg (fun q=>e q.symm)]
   have r:L j=true->Nat.testBit dj.anc k=false:=fun hj=>by
    cases l:Nat.testBit dj.anc k with
    | false=>rfl
    | true=>have:=hd j dj (by simp) hj k l;rw[s]at this;cases this
   have a2:(ops.getD k o).looksAt ops=o'.looksAt ops:=by
    have:ops.getD k o=o':=by
     have:=k2.op;simp[this]
    rw[this]
   have z:L j=true->∀id x,Zq id dj.out.upd=some x->id∉d.touch/\Zq id d.out.upd=none:=fun hj id x l=>by
    obtain⟨u,hu,rfl⟩:=Z8F l;rcases w.ups (k,d) k1 with q|q
    ·rw[r hj]at q;cases q
    ·exact q.2 u hu
   refine⟨d,tl,o',n1,n2,by simp[k1],k2,fun a=>⟨fun t v ht p=>?_,fun id ob a0 p=>?_⟩,fun t=>?_,fun id=>?_⟩
   ·simp only[Z1H];rw[if_neg,(k3 a).1 t v ht p];rintro⟨e1,e2⟩;rcases w.apart (k,d) k1 with q|q
    ·rw[r e1]at q;cases q
    ·have:=(q t (by rw[<-w.dst];exact e2)).1
     rw[a2]at this;exact this ht
   ·simp only[hL];rw[(k3 a).2 id ob a0 p]
    by_cases e1:L j=true
    ·rw[if_pos e1];cases l:Zq id dj.out.upd with
     | none=>rfl
     | some x=>exact absurd a0 (z e1 id x l).1
    ·rw[if_neg e1]
   ·simp only[Z1H,y];rw[k4]
    by_cases e1:L j=true/\dj.dst=some t
    ·rw[if_pos e1,if_pos e1,if_neg];intro e2;rcases w.apart (k,d) k1 with q|q
     ·rw[r e1.1]at q;cases q
     ·exact(q t (by rw[<-w.dst];exact e1.2)).2 e2
    ·rw[if_neg e1,if_neg e1]
   ·simp only[hL,y];rw[k5]
    by_cases e1:L j=true
    ·rw[if_pos e1,if_pos e1];cases l:Zq id dj.out.upd with
     | none=>rfl
     | some x=>rw[(z e1 id x l).2]
    ·rw[if_neg e1,if_neg e1]
theorem Zho {k nx nx2:Nat} {o:Oper} {d:YH} {ds:List (Nat×YH)} (a:Z49 E call callH callY V nt ops b m k nx nx2 o d ds):nx<=nx2:=by
 rcases a.run with⟨_,_,_,_,h⟩|⟨_,_,_,_,h⟩|⟨_,_,_,_,_,_,h⟩
 ·omega
 ·omega
 ·exact Zen _ _ _ _ _ _ h
theorem Z5u {k nx nx2:Nat} {o:Oper} {d:YH} {ds:List (Nat×YH)} (c:Z49 E call callH callY V nt ops b m k nx nx2 o d ds) {lo hi:Nat} (a:d.new=some (lo,hi)):lo=nx/\hi=nx2:=by
 rcases c.run with⟨_,_,_,h,_⟩|⟨_,_,_,h,_⟩|⟨_,h,_⟩
 ·rw[a]at h;cases h
 ·rw[a]at h;cases h
 ·rw[a]at h;cases h;exact⟨rfl,rfl⟩
theorem Zeu {k nx nx2:Nat} {o:Oper} {d:YH} {ds:List (Nat×YH)} (a:Z49 E call callH callY V nt ops b m k nx nx2 o d ds) (c:d.new=none):nx2=nx:=by
 rcases a.run with⟨_,_,_,_,h⟩|⟨_,_,_,_,h⟩|⟨_,h,_⟩
 ·exact h
 ·exact h
 ·rw[c]at h;cases h
theorem Zcp:∀{ds:List (Nat×YH)} {k nx:Nat},Z34 E call callH callY V nt ops b m k nx ds->m.next<=nx/\∀j d lo hi,(j,d)∈ds->d.new=some (lo,hi)->m.next<=lo/\lo<=hi/\hi<=nx
 | [],k,nx,h=>⟨by rw[h.2];exact Nat.le_refl _,fun _ _ _ _ h=>by cases h⟩
 | (i,d)::ds,k,nx,h=>by
  obtain⟨rfl,nx0,⟨o,f⟩,n⟩:=h;obtain⟨q,l⟩:=Zcp n;have p:=Zho f;refine⟨by omega,fun j d' lo hi e g=>?_⟩
  rcases jv.1 e with e|e
  ·cases e;obtain⟨rfl,rfl⟩:=Z5u f g;exact⟨q,p,Nat.le_refl _⟩
  ·obtain⟨a,b,c⟩:=l j d' lo hi e g;exact⟨a,b,by omega⟩
theorem Zbg:∀{ds:List (Nat×YH)} {n nx:Nat},Z34 E call callH callY V nt ops b m n nx ds->∀k d lo hi,(k,d)∈ds->d.new=some (lo,hi)->∀id,lo<=id->id<nx →
  ∃j dj lo' f,(j,dj)∈ds/\dj.new=some (lo',f)/\lo'<=id/\id<f/\(j=k\/Nat.testBit dj.anc k=true)
 | [],_,_,_,_,_,_,_,h,_,_,_,_=>by cases h
 | (i,di)::ds,n,nx,h,k,d,lo,hi,g,hn,id,h1,h2=>by
  obtain⟨rfl,nx0,⟨o,l⟩,s⟩:=h;rcases jv.1 g with g|g
  ·cases g;obtain⟨rfl,rfl⟩:=Z5u l hn;exact⟨i,di,_,_,by simp,hn,h1,h2,.inl rfl⟩
  ·rcases Nat.lt_or_ge id nx0 with r|r
   ·obtain⟨j,dj,lo',f,a,b,c,d',e⟩:=Zbg s k d lo hi g hn id h1 r;exact⟨j,dj,lo',f,by simp[a],b,c,d',e⟩
   ·cases hq:di.new with
    | none=>have:=Zeu l hq;omega
    | some p =>
     obtain⟨lo',f⟩:=p;obtain⟨rfl,rfl⟩:=Z5u l hq;refine⟨i,di,lo',f,by simp,hq,r,h2,.inr ?_⟩
     rcases l.ups (k,d) g with q|q
     ·exact q
     ·have:=q.1 (by rw[hq];simp)
      rw[hn]at this;cases this
theorem Zg5:∀{ds:List (Nat×YH)} {n nx:Nat},Z34 E call callH callY V nt ops b m n nx ds->∀k d lo hi j dj lo' hi',(k,d)∈ds->d.new=some (lo,hi)->(j,dj)∈ds->dj.new=some (lo',hi')->j≠k->Nat.testBit d.anc j=true\/hi<=lo'
 | [],_,_,_,_,_,_,_,_,_,_,_,h,_,_,_,_=>by cases h
 | (i,di)::ds,n,nx,h,k,d,lo,hi,j,dj,lo',hi',c,hn,a,hnj,hne=>by
  obtain⟨rfl,nx0,⟨o,e⟩,f⟩:=h;rcases jv.1 c with c|c
  ·cases c;rcases jv.1 a with a|a
   ·cases a;exact absurd rfl hne
   ·rcases e.ups (j,dj) a with q|q
    ·exact .inl q
    ·have:=q.1 (by rw[hn];simp)
     rw[hnj]at this;cases this
  ·rcases jv.1 a with a|a
   ·cases a;obtain⟨rfl,rfl⟩:=Z5u e hnj;exact .inr ((Zcp f).2 k d lo hi c hn).2.2
   ·exact Zg5 f k d lo hi j dj lo' hi' c hn a hnj hne
end
end Go.Ab
namespace Go.Ab
open Go.RowKit
section
variable {P:Program} {E:Env} {w0:World} {G0:Gh} {outer:DD} {own:List Nat} {V nt:Nat} {a:Act} {w:World} {β:Bi} {G:Gh} {ro:Option Nat} {n:Nat} {call:Nat->List DV->Option DV} {callH callY:Yb} {ops:Array Oper} {b:Nat} {m:Mid}
structure DS (E:Env) (w0:World) (G0:Gh) (outer:DD) (V nt:Nat) (own:List Nat) (ops:Array Oper) (b nx:Nat) (m:Mid) (ds:List (Nat×YH)) (L:Nat->Bool) (β0:Bi) (Gz:Gh) (hz:Nat->Option Zb) (a:Act) (w:World) (β:Bi) (G:Gh):Prop where
 fr:FrM β G (Z1H L (ZS V m.base m.loc) ds) a.tmps
 dom:∀t d,m.base.get t=some d->Nat.testBit V t=true
 sz:a.tmps.size=nt
 hr:HR E w0 G0 (Yu own outer) w β G (hL L m.objs.get ds)
 fresh:∀id,nx<=id->ZE β (hL L m.objs.get ds) id
 df:Z6y E own a.defers/\Z8Y own outer
 un:∀j,j<ops.size->L j=false->ZE β (hL L m.objs.get ds) (b+j)
 unc:∀j d lo hi,(j,d)∈ds->d.new=some (lo,hi)->L j=false->∀id,lo<=id->id<hi->ZE β (hL L m.objs.get ds) id
 down:Zh1 L ds
 go:Go2 b β0 Gz β G hz (hL L m.objs.get ds)
theorem Zg4:∀{ds:List (Nat×YH)} {k nx:Nat},Z34 E call callH callY V nt ops b m k nx ds->∀j d,(j,d)∈ds->∃tl o nx1 nx2,Z49 E call callH callY V nt ops b m j nx1 nx2 o d tl/\∀e∈tl,e∈ds
 | [],_,_,_,_,_,h=>by cases h
 | (i,d)::ds,k,nx,h,j,d',a=>by
  obtain⟨_,nx0,⟨o,f⟩,g⟩:=h;rcases jv.1 a with a|a
  ·cases a;exact⟨ds,o,nx0,nx,f,fun e c=>by simp[c]⟩
  ·obtain⟨tl,o',n1,n2,k1,k2⟩:=Zg4 g j d' a;exact⟨tl,o',n1,n2,k1,fun e c=>by simp[k2 e c]⟩
theorem Zh8 {ds:List (Nat×YH)} {L:Nat->Bool} {o:Oper} {k:Nat} (g:Zh1 L ds) {tl:List (Nat×YH)} (a:∀e∈tl,e∈ds) (c:∀e∈o.after,Region.binds .any e=true->L e.on=true) :
  ∀i,Nat.testBit (Z1N ops tl o k) i=true->L i=true:=fun i hi=>by
 obtain⟨e,f,b,_,j⟩:=Zh7 hi;rcases j with rfl|⟨d,l,h⟩
 ·exact c e f b
 ·exact g e.on d (a _ l) (c e f b) i h
theorem ZhD {o:Oper} {t:Nat} (h:Operand.tmp t∈o.op.operands):t∈o.looksAt ops :=
 List.mem_append_left _ (List.mem_filterMap.2 ⟨.tmp t,by simpa using h,rfl⟩)
theorem ZaZ {o:Oper} {ρ ρ':Nat->Option DV} (h:∀t v,t∈o.looksAt ops->ρ t=some v->ρ' t=some v) {x:Operand} (b:x∈o.op.operands) {d:DV} (a:ZU ρ x=some d):ZU ρ' x=some d:=by
 cases x with
 | tmp t=>exact h t d (ZhD b) a
 | _=>exact a
theorem Z5q {o:Oper} {ρ ρ':Nat->Option DV} (h:∀t v,t∈o.looksAt ops->ρ t=some v->ρ' t=some v) {want:Bool} (a:Z1u ops ρ o=some want):Z1u ops ρ' o=some want:=by
 unfold Z1u at a⊢;cases hg:o.guard with
 | none=>rw[hg]at a;exact a
 | some g =>
  obtain⟨j,wt⟩:=g;rw[hg]at a;simp only at a⊢;cases hd:(ops[j]?).bind (·.dst)with
  | none=>rw[hd]at a;cases a
  | some t =>
   rw[hd]at a;simp only at a⊢;cases hr:ρ t with
   | none=>rw[hr]at a;cases a
   | some d =>
    rw[hr]at a;rw[h t d (List.mem_append_right _ (by rw[hg];simp[hd])) hr]
    exact a
theorem Z4p {ρ ρ':Nat->Option DV}:∀{xs:List Operand} {ds:List DV},(∀x∈xs,∀dd,ZU ρ x=some dd->ZU ρ' x=some dd)->Z1n ρ xs=some ds->Z1n ρ' xs=some ds
 | [],_,_,h=>h
 | x::xs,ds,hv,h=>by
  simp only[Z1n]at h⊢;obtain⟨v,b,h⟩:=Z0 h;obtain⟨vs,a,h⟩:=Z0 h;rw[hv x (by simp) v b,jm,Z4p (fun y hy=>hv y (by simp[hy])) a]
  exact h
theorem Ze5 {ρ ρ':Nat->Option DV} {c:Call} {tgt:DV×List DV} (hv:∀x∈c.operands,∀dd,ZU ρ x=some dd->ZU ρ' x=some dd) (h:target E ρ c=some tgt):target E ρ' c=some tgt:=by
 have a:∀x∈c.args.toList,x∈c.operands:=fun x b=>by
  unfold Call.operands;split<;>simp_all
 unfold target at h⊢;split at h
 ·rename_i f hc;obtain⟨v,i,h⟩:=Z0 h;have e:f∈c.operands:=by unfold Call.operands;rw[hc];simp
  rw[hv f e v i];simp only[jm];split at h
  ·obtain⟨as,d,h⟩:=Z0 h;rw[Z4p (fun x b=>hv x (a x b)) d];exact h
  ·obtain⟨as,d,h⟩:=Z0 h;rw[Z4p (fun x b=>hv x (a x b)) d];exact h
  ·cases h
 ·rename_i rv mm hc;obtain⟨v,i,h⟩:=Z0 h;have e:rv∈c.operands:=by unfold Call.operands;rw[hc];simp
  rw[hv rv e v i];simp only[jm];split at h
  ·obtain⟨ti,d,h⟩:=Z0 h;obtain⟨g,j,h⟩:=Z0 h;obtain⟨as,k,h⟩:=Z0 h;rw[d,jm,j,jm,Z4p (fun x b=>hv x (a x b)) k];exact h
  ·cases h
 ·cases h
theorem ZgU {ρ:Nat->Option DV} {op:Op} {x:Operand} (c:x∈op.operands) {d:DV} (b:ZU ρ x=some d) {id:Nat} (a:id∈Zs d):id∈touch ρ op:=by
 unfold touch;rw[List.mem_flatMap];exact⟨x,by simpa using c,by rw[b];exact a⟩
theorem ZiX (hE:∀t ti,E.ty t=some ti->ZL P t ti) (hp:Z33 P E call) (hH:YT P E callH) (hY:Z1c P E callY) {ds:List (Nat×YH)} {nx:Nat} (hs:Z34 E call callH callY V nt ops b m ops.size nx ds) {L L':Nat->Bool} {k:Nat} (hk2:k<ops.size) (hle:b+ops.size<=m.next)
  (hk:L k=false) (p:∀j,L' j=if j=k then true else L j) {o:Oper} (ho:ops[k]? = some o) (a0:∀e∈o.after,Region.binds .any e=true->L e.on=true) {β0:Bi} {Gz:Gh} {hz:Nat->Option Zb}
  (c:DS E w0 G0 outer V nt own ops b nx m ds L β0 Gz hz a w β G) {K:Act->World->Prop} {Q:Exit->Act->World->Prop} (hK:∀a' w' β' G',DS E w0 G0 outer V nt own ops b nx m ds L' β0 Gz hz a' w' β' G'->K a' w'):wpOpIn (fw ro) n P ops Q k K a w:=by
 obtain⟨d,tl,o',nx1,nx2,h1,h2,h3,h4,h5⟩:=ZdU hk p hs c.down hk2;have heo:o'=o:=by have:=h2.op;rw[ho]at this;cases this;rfl
 subst heo;obtain⟨hnx,u⟩:=Zcp hs;have l:∀d',(k,d')∈ds->∀i,Nat.testBit d'.anc i=true->L i=true:=fun d' hd' i hi=>by
  obtain⟨tl',o2,_,_,q1,q2⟩:=Zg4 hs k d' hd';have:o2=o':=by have:=q1.op;rw[ho]at this;cases this;rfl
  subst this;rw[q1.anc]at hi;exact Zh8 c.down q2 a0 i hi
 obtain⟨v1,v2⟩:=h3 (l d h1);have hdown:Zh1 L' ds:=fun j dj hj f i hi=>by
  rw[p]
  by_cases e:i=k
  ·rw[if_pos e]
  ·rw[if_neg e]
   by_cases e2:j=k
   ·subst e2;exact l dj hj i hi
   ·rw[p,if_neg e2]at f;exact c.down j dj hj f i hi
 have z:∀id,hL L' m.objs.get ds id=Zy (hL L m.objs.get ds) d.out.upd id:=fun id=>h5 id
 have y:∀(v:Value) (w':World) (β':Bi) (G':Gh),(∀dd,d.out.val=some dd->Rep β' G' dd v)->Ext β G β' G'->HR E w0 G0 (Yu own outer) w' β' G' (Zy (hL L m.objs.get ds) d.out.upd) →
   (∀id,id<b->YN β β' (hL L m.objs.get ds) (hL L' m.objs.get ds) id)->(∀id,nx<=id->ZE β' (hL L' m.objs.get ds) id)->(∀j,j<ops.size->j≠k->ZE β (hL L m.objs.get ds) (b+j)->ZE β' (hL L' m.objs.get ds) (b+j)) →
   (∀j dj lo hi,(j,dj)∈ds->dj.new=some (lo,hi)->L' j=false->∀id,lo<=id->id<hi->ZE β' (hL L' m.objs.get ds) id) →
   DS E w0 G0 outer V nt own ops b nx m ds L' β0 Gz hz (a.put o'.dst v) w' β' G':=fun v w' β' G' hv s hh hkp hf1 hf2 hf3=>by
  obtain⟨s1,s2⟩:=Zdz (a:=a) o'.dst v;refine⟨ZfB s c.sz c.fr hv fun t dd ht=>?_,c.dom,s1.trans c.sz,hh.eq z,hf1,⟨by rw[s2];exact c.df.1,c.df.2⟩,fun j a3 f=>?_,hf3,hdown,c.go.trans ⟨s,hkp⟩⟩
  ·rw[h4,h2.dst]at ht
   by_cases e:o'.dst=some t
   ·rw[if_pos e]at ht;exact .inl ⟨e,h2.fits t e,ht⟩
   ·rw[if_neg e]at ht;exact .inr ⟨fun q=>e q.1,ht⟩
  ·rw[p]at f
   by_cases e:j=k
   ·rw[if_pos e]at f;cases f
   ·rw[if_neg e]at f;exact hf2 j a3 e (c.un j a3 f)
 have r:d.new=none->∀(v:Value) (w':World) (β':Bi) (G':Gh),(∀dd,d.out.val=some dd->Rep β' G' dd v)->Ext β G β' G'->HR E w0 G0 (Yu own outer) w' β' G' (Zy (hL L m.objs.get ds) d.out.upd)->Z2l β β' (hL L m.objs.get ds) (Zy (hL L m.objs.get ds) d.out.upd) (b+k) →
   DS E w0 G0 outer V nt own ops b nx m ds L' β0 Gz hz (a.put o'.dst v) w' β' G':=fun hdn v w' β' G' hv s hh hkp=>by
  have a1:∀id,id≠b+k->YN β β' (hL L m.objs.get ds) (hL L' m.objs.get ds) id:=fun id g hf=>by
   obtain⟨q1,q2,q3⟩:=hkp id g hf;exact⟨by rw[z];exact q1,q2,q3⟩
  refine y v w' β' G' hv s hh (fun id g=>a1 id (by omega)) (fun id g=>(a1 id (by omega)).fresh (c.fresh id g)) (fun j a3 hne hf=>(a1 _ (by omega)).fresh hf) fun j dj lo hi hj hn f id hl1 hl2=>?_
  have a2:j≠k:=fun e=>by subst e;rw[p,if_pos rfl]at f;cases f
  rw[p,if_neg a2]at f;have:=(u j dj lo hi hj hn).1;exact(a1 id (by omega)).fresh (c.unc j dj lo hi hj hn f id hl1 hl2)
 unfold wpOpIn;rw[ho];simp only;rcases h2.run with⟨r1,r2,r3,r4,_⟩|⟨r1,_,r3,r4,_⟩|⟨r1,r4,cl,tgt,r5,r6,r7⟩
 ·rw[Z2V c.fr (Z5q v1 r1)];simp only[if_true];have hmono:=(ZhI (ρ':=Z1H L (ZS V m.base m.loc) ds) (h':=hL L m.objs.get ds) (fun x s dd hd=>⟨ZaZ v1 s hd,fun id g ob hob=>v2 id ob (by rw[r3];exact ZgU s hd g) hob⟩) r2).1
  exact Z8l hE hp c.fr c.hr (c.un k hk2 hk) hmono K Q fun v w' β' G' hv s hh hkp=>hK _ _ _ _ (r r4 v w' β' G' hv s hh hkp)
 ·rw[Z2V c.fr (Z5q v1 r1)];simp only[jg,if_false];refine⟨fun _ _=>trivial,hK _ _ β G (r r4 undef w β G (fun dd hdd=>?_) (Ext.refl _ _) ?_ ?_)⟩
  ·rw[r3]at hdd;cases hdd;exact Z40
  ·rw[r3];exact c.hr
  ·rw[r3];exact Z2l.refl _ _ _
 ·rw[Z2V c.fr (Z5q v1 r1)];simp only[if_true];obtain⟨c1,c2,c3⟩:=u k d nx1 nx2 h1 r4;have hop:=Z3w r5;have htgt:target E (Z1H L (ZS V m.base m.loc) ds) cl=some tgt:=Ze5 (fun x s dd hd=>ZaZ v1 (by rw[hop];exact s) hd) r6
  have hlow:∀id,nx1<=id->ZE β (hL L m.objs.get ds) id:=fun id g=>by
   rcases Nat.lt_or_ge id nx with q|q
   ·obtain⟨j,dj,lo',hi',g1,g2,g3,g4,g5⟩:=Zbg hs k d nx1 nx2 h1 r4 id g q;refine c.unc j dj lo' hi' g1 g2 ?_ id g3 g4;rcases g5 with rfl|g5
    ·exact hk
    ·cases hq:L j with
     | false=>rfl
     | true=>have:=c.down j dj g1 hq k g5;rw[hk]at this;cases this
   ·exact c.fresh id q
  refine Z5O hE hH hY c.fr r5 htgt c.hr r7 (fun i hi x s=>v2 i x hi s) hlow fun v w' β' G' hv hle2 s hkp hh hff=>hK _ _ β' G' ?_;have a5:∀id,id<nx1->YN β β' (hL L m.objs.get ds) (hL L' m.objs.get ds) id:=fun id g hf=>by
   obtain⟨q1,q2,q3⟩:=hkp id g hf;exact⟨by rw[z];exact q1,q2,q3⟩
  have a4:∀id,nx2<=id->ZE β' (hL L' m.objs.get ds) id:=fun id g=>by
   have:=hff id g;exact⟨this.blk,this.hdr,by rw[z];exact this.h⟩
  refine y v w' β' G' hv s hh (fun id g=>a5 id (by omega)) (fun id g=>a4 id (by omega)) (fun j a3 hne hf=>(a5 _ (by omega)).fresh hf) fun j dj lo hi hj hn f id hl1 hl2=>?_
  have a2:j≠k:=fun e=>by subst e;rw[p,if_pos rfl]at f;cases f
  rw[p,if_neg a2]at f;rcases Zg5 hs k d nx1 nx2 j dj lo hi h1 r4 hj hn a2 with q|q
  ·rw[l d h1 j q]at f;cases f
  ·exact a4 id (by omega)
theorem Z5h {L:Nat->Bool} {nx0:Nat}:∀{ds:List (Nat×YH)} {k nx:Nat},Z34 E call callH callY V nt ops b m k nx ds->(∀j d,(j,d)∈ds->L j=true) →
  (∀t,Z1H L (ZS V m.base m.loc) ds t=ZS V (YR V nt ds { m with next:=nx0 }).base (YR V nt ds { m with next:=nx0 }).loc t)/\(∀id,hL L m.objs.get ds id=(YR V nt ds { m with next:=nx0 }).objs.get id)/\(YR V nt ds { m with next:=nx0 }).next=nx0 ∧
   ((∀t d,m.base.get t=some d->Nat.testBit V t=true)->∀t d,(YR V nt ds { m with next:=nx0 }).base.get t=some d->Nat.testBit V t=true)
 | [],k,_,_,_=>⟨fun _=>rfl,fun _=>rfl,rfl,fun h=>h⟩
 | (j,d)::ds,k,nx,hs,hl=>by
  obtain⟨_,_,⟨o,c⟩,g⟩:=hs;obtain⟨k1,k2,k3,k4⟩:=Z5h (nx0:=nx0) g (fun i e hi=>hl i e (by simp[hi]))
  have a:=hl j d (by simp)
  simp only[YR];obtain⟨p1,p2⟩:=Z3V V nt ({ YR V nt ds { m with next:=nx0 }with objs:=Y3 (YR V nt ds { m with next:=nx0 }).objs d.out.upd }:Mid) d.dst d.out.val
  refine⟨fun t=>?_,fun id=>?_,by rw[p2];exact k3,fun f=>ZfT V nt _ d.dst d.out.val (k4 f)⟩
  ·rw[ZdW];simp only[Z1H,a,true_and]
   by_cases e:d.dst=some t
   ·rw[if_pos e,if_pos ⟨e,c.fits t (by rw[<-c.dst];exact e)⟩]
   ·rw[if_neg e,if_neg (fun q=>e q.1)];exact k1 t
  ·rw[p1,Z2y];simp only[hL,a,if_true];unfold Zy;cases Zq id d.out.upd with
   | some x=>rfl
   | none=>exact k2 id
theorem DS.full {ds:List (Nat×YH)} {k nx:Nat} (l:Z34 E call callH callY V nt ops b m k nx ds) {L:Nat->Bool} (g:∀j d,(j,d)∈ds->L j=true) {β0:Bi} {Gz:Gh} {hz:Nat->Option Zb} (c:DS E w0 G0 outer V nt own ops b nx m ds L β0 Gz hz a w β G) :
  MM E w0 G0 outer V nt own (YR V nt ds { m with next:=nx }) a w β G/\Go2 b β0 Gz β G hz (YR V nt ds { m with next:=nx }).objs.get/\(YR V nt ds { m with next:=nx }).next=nx:=by
 obtain⟨k1,k2,k3,k4⟩:=Z5h (nx0:=nx) l g;have f:∀id,ZE β (hL L m.objs.get ds) id->ZE β (YR V nt ds { m with next:=nx }).objs.get id:=fun id h=>⟨h.blk,h.hdr,by rw[<-k2];exact h.h⟩
 refine⟨⟨fun t d ht=>c.fr t d (by rw[k1];exact ht),k4 c.dom,c.sz,c.hr.eq fun i=>(k2 i).symm,fun id e=>f id (c.fresh id (by rw[<-k3];exact e)),c.df⟩,⟨c.go.ext,fun id e n=>?_⟩,k3⟩
 obtain⟨q1,q2,q3⟩:=c.go.keep id e n;exact⟨by rw[<-k2];exact q1,q2,q3⟩
end
end Go.Ab
namespace Go.Ab
open Go.RowKit
section
variable {P:Program} {E:Env} {w0:World} {G0:Gh} {outer:DD} {own:List Nat} {V nt:Nat} {a:Act} {w:World} {β:Bi} {G:Gh} {ro:Option Nat} {n:Nat} {call:Nat->List DV->Option DV} {callH callY:Yb} {ops:Array Oper} {b:Nat} {m:Mid} {c:Nat}
theorem ZaI {p p':Nat->Bool}:∀{l:List Nat} {x:Nat},x∈l->p x=true->p' x=false->(∀y,p' y=true->p y=true)->l.countP p'+1<=l.countP p
 | [],_,h,_,_,_=>by cases h
 | y::l,x,h,h1,h2,h3=>by
  have a:l.countP p'<=l.countP p:=List.countP_mono_left fun z _ hz=>h3 z hz;rw[List.countP_cons,List.countP_cons];rcases jv.1 h with rfl|h
  ·rw[if_pos h1,if_neg (by rw[h2];simp)];omega
  ·have:=ZaI h h1 h2 h3
   by_cases e:p' y=true
   ·rw[if_pos e,if_pos (h3 y e)];omega
   ·rw[if_neg e];split<;>omega
def lst (listed:Array Bool) (j:Nat):Bool:=listed.getD j false
def cnt (N:Nat) (listed:Array Bool):Nat:=(List.range N).countP fun j => !lst listed j
theorem ZbT {listed:Array Bool} {i:Nat} (hi:i<listed.size) (j:Nat):lst (listed.setIfInBounds i true) j=if j=i then true else lst listed j:=by
 unfold lst
 by_cases e:j=i
 ·subst e;simp[hi]
 ·have:i≠j:=fun h=>e h.symm;simp[e,Array.getElem?_setIfInBounds_ne this]
theorem Ziv {listed:Array Bool} {i:Nat} (hi:i<listed.size) (a:lst listed i=false):cnt listed.size (listed.setIfInBounds i true)+1<=cnt listed.size listed:=by
 unfold cnt;refine ZaI (x:=i) (List.mem_range.2 hi) (by simp[a]) (by simp[ZbT hi]) fun y hy=>?_
 rw[ZbT hi]at hy
 by_cases e:y=i
 ·rw[if_pos e]at hy;simp at hy
 ·rw[if_neg e]at hy;exact hy
theorem Zhe {N:Nat} {listed:Array Bool} (h:cnt N listed=0):∀j,j<N->lst listed j=true:=fun j a=>by
 have:=List.countP_eq_zero.1 h j (List.mem_range.2 a);simpa using this
theorem Z7W {listed:Array Bool} (d:listed.size=ops.size) {j:Nat}:j∈Region.ready .any ops listed↔lst listed j=false/\∃o,ops[j]? = some o/\∀e∈o.after,Region.binds .any e=true->lst listed e.on=true:=by
 rw[mem_ready];constructor
 ·rintro⟨b,o,c,f⟩;have a:j<listed.size:=by rw[d];exact(ja.1 c).1
  refine⟨?_,o,c,f⟩;unfold lst;simp[a]at b⊢;exact b
 ·rintro⟨b,o,c,f⟩;have a:j<listed.size:=by rw[d];exact(ja.1 c).1
  refine⟨?_,o,c,f⟩;unfold lst at b;simp[a]at b⊢;exact b
theorem Zgj (hE:∀t ti,E.ty t=some ti->ZL P t ti) (hp:Z33 P E call) (hH:YT P E callH) (hY:Z1c P E callY) {Q:Exit->Act->World->Prop} {β0:Bi} {Gz:Gh} {hz:Nat->Option Zb} {m:Mid} {ds:List (Nat×YH)} {nx:Nat} (g:Z34 E call callH callY V nt ops b m ops.size nx ds) (u:b+ops.size<=m.next)
  (y:∀a' w' β' G',MM E w0 G0 outer V nt own (YR V nt ds { m with next:=nx }) a' w' β' G'->Go2 b β0 Gz β' G' hz (YR V nt ds { m with next:=nx }).objs.get->Q .normal a' w') :
  ∀(fuel:Nat) (listed:Array Bool) (a:Act) (w:World) (β:Bi) (G:Gh),listed.size=ops.size->cnt ops.size listed<=fuel->DS E w0 G0 outer V nt own ops b nx m ds (lst listed) β0 Gz hz a w β G->wpAnyIn (fw ro) n P .any ops Q fuel listed a w:=by
 intro fuel
 induction fuel with
 | zero =>
  intro listed a w β G hsz hcnt hst;have c:=Zhe (Nat.le_zero.1 hcnt);have hr:Region.ready .any ops listed=[]:=by
   cases hrr:Region.ready .any ops listed with
   | nil=>rfl
   | cons j l =>
    obtain⟨z,o,h,_⟩:=(Z7W (j:=j) hsz).1 (by rw[hrr];simp)
    rw[c j (ja.1 h).1]at z;cases z
  obtain⟨f1,f2,_⟩:=hst.full g fun j d q=>c j (Zcq g j d q);exact⟨hr,y a w β G f1 f2⟩
 | succ fuel ihf =>
  intro listed a w β G hsz hcnt hst;refine⟨fun hr=>?_,fun i hi=>?_⟩
  ·
   have c:∀j,j<ops.size->lst listed j=true:=fun j=>by
    induction j using Nat.strongRecOn with
    | _ j ihj =>
     intro q;obtain⟨d,tl,o,_,_,_,h,_⟩:=Zi5 g j q;cases hlj:lst listed j with
     | true=>rfl
     | false =>
      have:j∈Region.ready .any ops listed:=(Z7W hsz).2 ⟨hlj,o,h.op,fun e he x=>ihj e.on (h.edges e he x) (by have:=h.edges e he x;omega)⟩
      rw[hr]at this;cases this
   obtain⟨f1,f2,_⟩:=hst.full g fun j d q=>c j (Zcq g j d q);exact y a w β G f1 f2
  ·obtain⟨r,o,s,v⟩:=(Z7W hsz).1 hi;have k:=(ja.1 s).1;have p:=ZbT (listed:=listed) (i:=i) (by omega)
   have f:cnt ops.size (listed.setIfInBounds i true)<=fuel:=by
    have:=Ziv (listed:=listed) (i:=i) (by omega) r
    rw[hsz]at this;omega
   exact ZiX hE hp hH hY g k u r p s v hst fun a' w' β' G' hst'=>ihf _ a' w' β' G' (by simpa using hsz) f hst'
theorem Zes (hE:∀t ti,E.ty t=some ti->ZL P t ti) (hp:Z33 P E call) (hH:YT P E callH) (hY:Z1c P E callY) {Q:Exit->Act->World->Prop} {m mf:Mid}
  (hd:Z15 E call callH callY V nt ops b 0 ops.toList m []=some mf) (y:b+ops.size<=m.next) (r:∀j,j<ops.size->ZE β m.objs.get (b+j)) (k:MM E w0 G0 outer V nt own m a w β G)
  (hq:∀a' w' β' G',m.next<=mf.next->MM E w0 G0 outer V nt own mf a' w' β' G'->Go2 b β G β' G' m.objs.get mf.objs.get->Q .normal a' w') :
  wpAnyIn (fw ro) n P .any ops Q ops.size (Array.replicate ops.size false) a w:=by
 obtain⟨nx,ds,v,rfl⟩:=Z4g (m:=m) ops.toList 0 mf m.next [] hd rfl ⟨rfl,rfl⟩ (Nat.zero_le _);have f:∀j,lst (Array.replicate ops.size false) j=false:=fun j=>by
  unfold lst
  by_cases e:j<ops.size
  ·simp[e]
  ·simp[e]
 obtain⟨u,c⟩:=Zcp v;have e1:∀(l:List (Nat×YH)) t,Z1H (lst (Array.replicate ops.size false)) (ZS V m.base m.loc) l t=ZS V m.base m.loc t:=fun l t=>by
  induction l with
  | nil=>rfl
  | cons p l ihl =>
   obtain⟨i,e⟩:=p;simp only[Z1H,f i,jg,false_and,if_false];exact ihl
 have e2:∀(l:List (Nat×YH)) id,hL (lst (Array.replicate ops.size false)) m.objs.get l id=m.objs.get id:=fun l id=>by
  induction l with
  | nil=>rfl
  | cons p l ihl =>
   obtain⟨i,e⟩:=p;simp only[hL,f i,jg,if_false];exact ihl
 have s:∀id,ZE β m.objs.get id->ZE β (hL (lst (Array.replicate ops.size false)) m.objs.get ds) id:=fun id h=>⟨h.blk,h.hdr,by rw[e2];exact h.h⟩
 have g:(YR V nt ds { m with next:=nx }).next=nx:=(Z5h (L:=fun _=>true) (nx0:=nx) v fun _ _ _=>rfl).2.2.1
 refine Zgj hE hp hH hY v y (fun a' w' β' G' h1 h2=>hq a' w' β' G' (by rw[g];exact u) h1 h2) ops.size _ a w β G (by simp) (by unfold cnt;exact Nat.le_trans (List.countP_le_length) (by simp))
  ⟨fun t d ht=>k.fr t d (by rw[<-e1];exact ht),k.dom,k.sz,k.hr.eq (e2 ds),fun id z=>s id (k.fresh id (by omega)),k.df,fun j q _=>s _ (r j q),(fun j d lo hi q x _ id h1 _=>s id (k.fresh id (by have:=(c j d lo hi q x).1;omega))),
   (fun j d q o=>by rw[f j]at o;cases o),⟨Ext.refl _ _,fun id z x=>⟨by rw[e2];exact x,rfl,fun _=>rfl⟩⟩⟩
end
end Go.Ab
