/- What the code of the program comes to on plain values. -/
import Derived.Test.YthkpjcjiolelnaaGreatDoorA1
import Derived.Lib.UnsafeStr
import Derived.TacticsIn
import Derived.LoopNIn
import Derived.RangeFuncLeaves
import Derived.OrdersIn
set_option linter.unusedSectionVars false
set_option linter.unusedVariables false
set_option linter.unusedSimpArgs false
namespace Go.Ab
open Go.RowKit
section
variable {P:Program} {E:Env} {w0:World} {G0:Aj} {D:CW} {o:Oper} {a:Act} {w:World} {β:BB} {G:Aj} {h:Nat->Option A8} {nid:Nat} {ρ:Nat->Option AB}
theorem HJ {α:Type} {x:Array α} {l:List α} (h:x.toList=l):x=l.toArray:=by subst h;simp
theorem Br.AAH {t:TypeId} {ti:By} (ht:Br P t ti):∃d,P.underlying t=some d:=by
 have e:=ht.desc;cases i:ti.k<;>rw[i]at e<;>simp only at e
 all_goals first
  | exact⟨_,e⟩
  | (obtain⟨f,e,_⟩:=e;exact⟨_,e⟩)
  | (obtain⟨a,b,c,e⟩:=e;exact⟨_,e⟩)
  | (obtain⟨a,e⟩:=e;exact⟨_,e⟩)
theorem AcU {s:Sem Unit} {w':World} (b:execOp a.eval o=(do s;Pure.pure Next.skip)) (hs:s.run P w=.ok () w'):(execOp a.eval o).run P w=.ok .skip w':=by
 rw[b];simp[hs]
theorem ET {s:Sem Value} {v:Value} {w':World} (b:execOp a.eval o=(do Pure.pure (Next.value (<-s)))) (hs:s.run P w=.ok v w'):(execOp a.eval o).run P w=.ok (.value v) w':=by
 rw[b];simp[hs]
theorem UO:AO β G (.Ap []) undef:=HU.2 ⟨[],rfl,CU.2 rfl⟩
theorem AmX (hh:Ax E w0 G0 D w β G h) (hf:C3 β h nid) (s:ByteArray) :
  ∃β',Ext β G β' G/\β'.BE nid=some w.heap.size/\Ax E w0 G0 D (w.alloc (.stringIter s 0)) β' G (BY h [(nid,some (.Ez s 0))])/\Fs β β' h (BY h [(nid,some (.Ez s 0))]) nid :=
 hh.lay hf _ _ rfl fun β' _ hb=>⟨_,hb,heap_alloc_new w (.stringIter s 0)⟩
theorem Aoi (hh:Ax E w0 G0 D w β G h) (hf:C3 β h nid) (m d n:Nat) (a:β.BE m=some d) :
  ∃β',Ext β G β' G/\β'.BE nid=some w.heap.size/\Ax E w0 G0 D (w.alloc (.mapIter (some d) n #[] n)) β' G (BY h [(nid,some (.Dg m n []))])/\Fs β β' h (BY h [(nid,some (.Dg m n []))]) nid :=
 hh.lay hf _ _ rfl fun β' e hb=>⟨_,d,n,hb,e.BE _ _ a,heap_alloc_new w (.mapIter (some d) n #[] n),Nat.le_refl _⟩
theorem Aof (hh:Ax E w0 G0 D w β G h) (hf:C3 β h nid) :
  ∃β',Ext β G β' G/\β'.BE nid=some w.heap.size/\Ax E w0 G0 D (w.alloc (.map #[] 0)) β' G (BY h [(nid,some (.map []))])/\Fs β β' h (BY h [(nid,some (.map []))]) nid :=
 hh.lay hf _ _ rfl fun β' _ hb=>⟨_,_,_,hb,heap_alloc_new w (.map #[] 0),rfl,rfl,rfl⟩
theorem xS {l pos:Nat} {s:ByteArray} (h:w.heap[l]? = some (.stringIter s pos)):(getObj l).run P w=.ok (.stringIter s pos) w:=by simp[getObj,Sem.run,h]
theorem Al1 {l:Nat} {r:Obj} {d:Obj} (h:w.heap[l]? = some d) (hc:∀c t f,d≠.cells c t f):(setObj l r).run P w=.ok () (w.putObj l r):=by
 cases d<;>first|(exact absurd rfl (hc _ _ _))|simp[setObj,Sem.run,World.putObj,h]
theorem AlW (hh:Ax E w0 G0 D w β G h) {t:TypeId} {ti Q:By} (ht:Br P t ti) {e:Nat} (y:ti.k=.slice e) (he:Br P e Q) {es:List (List AB)} {J:AB} {u:Value} (a:FK h J=some es) (AH:AO β G J u)
  {A1 AA:Option AB} {I C:Option Value} (hl:Jm β G A1 I) (o:Jm β G AA C) {d:AB} (i:ZC es Q.size J A1 AA=some d) :
  ∃r,(Instr.sliceAt t u I C none).run P w=.ok r w/\AO β G d r:=by
 have f:=ht.desc;rw[y]at f;unfold ZC at i;obtain⟨m,z,i⟩:=AD i;obtain⟨l,x,i⟩:=AD i;cases J with
 | rs id M =>
  simp only[FK]at a;obtain⟨ob,n,a⟩:=AD a;split at a
  ·rename_i t' a2 p u';obtain⟨q,a⟩:=Ad a;cases a;have q:u'=M:=Al q;subst q;obtain⟨Am,W,k1,k2,_⟩:=hh.obj _ _ n;obtain⟨Z,_⟩:=IK.1 AH;rw[k1]at Z;cases Z;have j:∃A c,u=.slice A es.length c/\es.length<=c/\(es.length=0\/∃b,A=some ⟨b,0,none⟩):=by
    rcases k2.2 with⟨rfl,k⟩|⟨g,K,a3,rfl,_,_,k,_⟩
    ·exact⟨none,0,by rw[k],by omega,.inl k⟩
    ·exact⟨_,K,rfl,k,.inr ⟨g,rfl⟩⟩
   obtain⟨A,c,rfl,s,v⟩:=j;obtain⟨U,a1,a0⟩:=Tz (P:=P) (w:=w) (isSlice:=true) hl o z x s;refine⟨.slice (if c=l then A else A.map (·.add (l*Q.size))) (m-l) (c-l),by simp[Instr.sliceAt,Instr.slice,C7 f,U,he.run_sizeOf],?_⟩
   cases i;refine Yf.2 ⟨A,es.length,c,_,c-l,k1,rfl,by omega,by omega,?_⟩
   by_cases O:m-l=0
   ·exact .inl O
   ·rcases v with v|⟨b,rfl⟩
    ·omega
    ·refine .inr ⟨b,rfl,?_⟩;rw[if_neg (by omega)]
     simp[HI]
  ·cases a
 | _=>cases i
theorem Aa7:∀{es:List (List AB)} {l:List UInt8},YI es=some l->es=l.map fun b=>[AB.int .u8 b.toNat]
 | [],l,h=>by cases h;rfl
 | e::es,l,h=>by
  unfold YI at h;split at h
  ·rename_i a;cases a
  ·rename_i n i a;cases a;obtain⟨c,h⟩:=Ad h;simp only[Ar,Ew]at c;obtain⟨j,d,h⟩:=AD h;cases h;rw[DU,<-Aa7 d];have:((UInt8.ofNat n.toNat).toNat:Int)=n:=by
    rw[UInt8.toNat_ofNat_of_lt' (by simp[UInt8.size];omega)];omega
   rw[this]
  ·cases h
theorem Aal:∀(l:List UInt8) (d:List Value),Ae β G (l.map fun b=>[AB.int .u8 b.toNat]).flatten d->d=l.map fun x=>Value.int .u8 x.toNat
 | [],d,h=>CU.1 h
 | b::l,d,h=>by
  obtain⟨v,vs,rfl,c,a⟩:=CE.1 h;rw[DX.1 c,Aal l vs a];rfl
theorem hZ (w:World) (p:Addr) (n:Nat) {b:Nat} (hb:b≠p.block):(w.freeze p n).heap[b]? = w.heap[b]? := by
 unfold World.freeze;split
 ·rfl
 ·simp only[Array.getElem?_modify];rw[if_neg (fun e=>hb e.symm)]
theorem Alo (w:World) (p:Addr) (n:Nat) (x:Addr):(w.freeze p n).cell? x=w.cell? x:=by
 by_cases hb:x.block=p.block
 ·unfold World.freeze;split
  ·rfl
  ·unfold World.cell?;simp only[Array.getElem?_modify,hb,if_true];cases e:w.heap[p.block]? with
   | none=>rfl
   | some d=>cases d<;>rfl
 ·exact World.cell?_of_block (hZ w p n hb)
theorem Alp (w:World) (p:Addr) (n:Nat):(w.freeze p n).heap.size=w.heap.size:=by
 unfold World.freeze;split
 ·rfl
 ·simp
theorem Ax.Apz (hh:Ax E w0 G0 D w β G h) {id e:Nat} {es:List (List AB)} {p u:Nat} (t:h id=some (.row e es p u)) {g:Nat} (k:Cc β id (.row e es p u) g) (n:Nat):Ax E w0 G0 D (w.freeze ⟨g,0,none⟩ n) β G (BY h [(id,none)]):=by
 obtain⟨k1,_,M⟩:=hh.own id _ g t k;have a:∀i x,BY h [(id,none)] i=some x->i≠id/\h i=some x:=fun i x AA=>by
  rw[EV]at AA
  by_cases e:i=id
  ·rw[if_pos e]at AA;cases AA
  ·rw[if_neg e]at AA;exact⟨e,AA⟩
 have f:∀i x c,i≠id->h i=some x->Cc β i x c->c≠g:=fun i x c AA l hc q=>AA (hh.inj i id x _ g l t (q▸hc) k);refine⟨Lib.below_freeze hh.below k1 n,hh.g0,fun b o v z=>by rw[Alo];exact hh.agree b o v z,fun i x AA=>?_,fun i x c AA hc=>?_,fun i j x y c AA K hc s=>hh.inj i j x y c (a i x AA).2 (a j y K).2 hc s,fun d x r=>?_,hh.H0⟩
 ·obtain⟨m,l⟩:=a i x AA;exact FL.Cs (Ext.refl _ _) (fun _=>rfl) (fun c hc=>⟨hZ w _ n (f i x c m l hc),fun _=>rfl⟩) (hh.obj i x l)
 ·obtain⟨m,l⟩:=a i x AA;obtain⟨C,I,J⟩:=hh.own i x c l hc;exact⟨C,by rw[Alp];exact I,J⟩
 ·obtain⟨C,I,J⟩:=hh.marks d x r;exact⟨C,(hZ w _ n (fun q=>by rw[q,M]at r;cases r)).trans I,J⟩
theorem Ami {id:Nat} {x:A8} (b:h id=some x):Fs β β h (BY h [(id,none)]) nid:=fun i _ hf=>by
 have a:i≠id:=fun q=>by rw[q,b]at hf;cases hf
 exact⟨by rw[EV,if_neg a];exact hf,rfl,fun _=>rfl⟩
theorem AkK (d:Array TypeId) (ty:TypeId):(Builtin.unsafeSliceData_ d ty #[.slice none 0 0]).run P w=.ok (.pointer none) w:=rfl
theorem Al2 (d:Array TypeId) (ty:TypeId) (a:Addr) (n c:Nat) (hc:c≠0):(Builtin.unsafeSliceData_ d ty #[.slice (some a) n c]).run P w=.ok (.pointer (some a)) w:=by
 have h:Builtin.unsafeSliceData_ d ty #[.slice (some a) n c]=(if c≠0 then(pure (.pointer (some a)):Sem Value)else(do
   if(<-viewAt a.block).isSome then pure (.pointer (some a))else pure (.pointer (some ⟨<- newObj (.view a (<-elemOf ty)),0,none⟩)))):=rfl
 rw[h,if_pos hc];rfl
theorem Amk (hE:∀t ti,E.ty t=some ti->Br P t ti) (hf:Dq β G ρ a.tmps) (hh:Ax E w0 G0 D w β G h) (b5:C3 β h nid) {c:Call} (A5:o.op=.call c) {r:Out}
  (f:BX E nid ρ h (.call c)=some r):De P E w0 G0 D o a w β G h nid r:=by
 have q:∀b,c.callee=.builtin b->∃cs,execOp a.eval o=Go.builtin b c.argTypes o.type cs (c.args.map a.eval):=fun b hb=>by
  refine⟨c.args.map fun | .const _=>true|_=>false,?_⟩;unfold execOp;rw[A5];simp[resolve,hb,invoke];rfl
 simp only[BX]at f;split at f
 ·rename_i hb;split at f
  ·rename_i x t ts O ht;obtain⟨ti,a6,f⟩:=AD f;obtain⟨d,y,f⟩:=AD f;obtain⟨u,hu,f⟩:=AD f;cases f;have b6:c.argTypes[0]? = some t:=by rw[HJ ht];simp
   obtain⟨v,I,M⟩:=Ams (ty:=o.type) hh (hE t ti a6) b6 hu (DP hf y);refine De.pure hh (v:=v) ?_ M;obtain⟨cs,hcs⟩:=q _ hb;rw[hcs,HJ O];simp[Go.builtin,I]
  ·cases f
 ·rename_i hb;split at f
  ·rename_i s x t t' O ht;obtain⟨ds,b8,f⟩:=AD f;obtain⟨dx,y,f⟩:=AD f;obtain⟨v,w',β',I,M,h3,h4,h5⟩:=yH (ty:=o.type) hE hh b5 (DP hf b8) (DP hf y) f;refine⟨.value v,v,w',β',G,?_,.inl rfl,M,h3,h4,h5⟩;obtain⟨cs,hcs⟩:=q _ hb;rw[hcs,HJ O,HJ ht];simp[Go.builtin,I]
  ·cases f
 ·rename_i hb;obtain⟨cs,hcs⟩:=q _ hb;split at f
  ·rename_i x O;obtain⟨d,y,f⟩:=AD f;have AH:=DP hf y;split at f
   ·obtain rfl:=L2 f;rw[L1]at AH;refine De.pure hh (v:=.pointer none) ?_ (YG.2 rfl);rw[hcs,HJ O];simp only[List.map_toArray,DU,List.map_nil,AH,Go.builtin,Cz,AkK];rfl
   ·rename_i id v;obtain⟨ob,J,f⟩:=AD f;split at f
    ·rename_i e c es p u;obtain⟨hq,f⟩:=Ad f;obtain rfl:=Al hq;obtain rfl:=L2 f;obtain⟨Am,C,I,M,_⟩:=hh.obj id _ J;obtain⟨hv,_⟩:=IK.1 AH;rw[hv]at I;cases I;rcases M.2 with⟨_,hz⟩|⟨g,a5,U,hg,_,_,hn,_⟩
     ·simp at hz
     ·have b9:a5≠0:=by simp only[List.length_cons]at hn;omega
      rw[hg]at hv;refine De.pure hh (v:=.pointer (some ⟨g,0,none⟩)) ?_ (MX.2 ⟨g,_,a5,hv,by simp⟩)
      rw[hcs,HJ O];simp only[List.map_toArray,DU,List.map_nil,hg,Go.builtin,Cz,Al2 _ _ _ _ _ b9];rfl
    ·cases f
   ·cases f
  ·cases f
 ·rename_i hb;obtain⟨cs,hcs⟩:=q _ hb;split at f
  ·rename_i x n t t' O ht;obtain⟨dx,y,f⟩:=AD f;obtain⟨Ms,b7,f⟩:=AD f;obtain⟨ti,a6,f⟩:=AD f;have AH:=DP hf y;have K:=DP hf b7;have hu:=(hE t ti a6).desc;split at f
   ·obtain rfl:=L2 f;rw[YG]at AH;rw[DX]at K;refine De.pure hh (v:=.string .empty) ?_ (GO.2 rfl);rw[hcs,HJ O,HJ ht];simp[Go.builtin,AH,K,Lib.run_unsafeString_none]
   ·rename_i id v k e _ _ _;have hk:ti.k=NE.ptr e:=by assumption
    rw[hk]at hu;obtain⟨ob,J,f⟩:=AD f;split at f
    ·rename_i e' es p u;obtain⟨hq,Q⟩:=Ad f;clear f;simp only[Ar]at hq;obtain⟨⟨⟨⟨BI,BD⟩,B9⟩,DM⟩,Em⟩:=hq;obtain rfl:=Al BI;obtain rfl:=Al BD;have B9:k=(es.length:Nat):=by simpa using B9
     subst B9;have DM:0<es.length:=DF DM;have Em:=DF Em;obtain⟨l,hl,Q⟩:=AD Q;cases Q;have a8:=Aa7 hl;obtain⟨Am,C,I,M,h3,h4,h5,h6,h7⟩:=hh.obj id _ J;obtain⟨b,m,c,hv,he⟩:=MX.1 AH;rw[hv]at I;cases I;have W:es.length=l.length:=by rw[a8];simp
     have a0:E0 E e=1:=by
      rw[<-(h4 _ (Fx DM)).1];simp only[a8,List.getElem_map];rfl
     have a7:P.cellsOf e=1:=by
      unfold E0 at a0;cases a4:E.ty e with
      | none=>rw[a4]at a0;cases a0
      | some ei =>
       rw[a4]at a0;obtain⟨i,z,k1,k2,_⟩:=(hE e ei a4).IB;simp[Program.cellsOf,k1,k2];exact a0
     rcases M.2 with⟨hg,_⟩|⟨g,a5,U,hg,_,b2,hn,_,b4,b1⟩
     ·cases hg
     ·cases hg;rw[a0,Nat.mul_one]at b1;rw[a0,Nat.mul_one]at b4;have a9:C=l.map fun x=>Value.int .u8 x.toNat:=by
       rw[a8]at h3;exact Aal l C h3
      have b3:∀(j:Nat) (x:UInt8),l[j]? = some x->U[j]? = some (Value.int .u8 x.toNat):=fun j x hj=>by
       have:C[j]? = some (Value.int .u8 x.toNat):=by rw[a9,List.getElem?_map,hj];rfl
       rw[<-b1,List.getElem?_take]at this;split at this
       ·simpa using this
       ·cases this
      have b0:=Lib.run_unsafeString_row (P:=P) w t t' o.type e hu a7 b U.size (by simp[World.shape?,b2]) l (fun hn=>by rw[hn]at W;rw[W]at DM;exact absurd DM (by simp)) (by omega) (by omega) (fun j x hj=>by
       rw[HI];simp[World.cell?,b2,b3 j x hj])
      refine⟨.value (.string ⟨l.toArray⟩),_,w.freeze ⟨b,0,none⟩ l.length,β,G,?_,.inl rfl,fun d f=>by cases f;exact GO.2 rfl,Ext.refl β G,hh.Apz J ⟨_,_,hv⟩ _,Ami J⟩
      rw[hcs,HJ O,HJ ht];rw[DX]at K;rw[W]at K;have he:a.eval x=.pointer (some ⟨b,0,none⟩):=by simpa using he
      simp[Go.builtin,he,K,b0]
    ·cases f
   ·cases f
  ·cases f
 ·rename_i hb;obtain⟨vs,a2,f⟩:=AD f;split at f
  ·rename_i x xs;obtain⟨d,Z,f⟩:=AD f;cases f;have AH:=NY hf a2;obtain⟨v,c0,he,a1,a3⟩:=CE.1 AH;obtain⟨u,I,M⟩:=iO (P:=P) (w:=w) (β:=β) (G:=G) (g:=Builtin.min2) Am0 Z a1 a3;refine De.pure hh (v:=u) ?_ M;obtain⟨cs,hcs⟩:=q _ hb;rw[hcs];simp[Go.builtin,Builtin.min_,he,I]
  ·cases f
 ·rename_i hb;obtain⟨vs,a2,f⟩:=AD f;split at f
  ·rename_i x xs;obtain⟨d,Z,f⟩:=AD f;cases f;have AH:=NY hf a2;obtain⟨v,c0,he,a1,a3⟩:=CE.1 AH;obtain⟨u,I,M⟩:=iO (P:=P) (w:=w) (β:=β) (G:=G) (g:=Builtin.max2) AlZ Z a1 a3;refine De.pure hh (v:=u) ?_ M;obtain⟨cs,hcs⟩:=q _ hb;rw[hcs];simp[Go.builtin,Builtin.max_,he,I]
  ·cases f
 ·cases f
theorem AlI (hE:∀t ti,E.ty t=some ti->Br P t ti) (hf:Dq β G ρ a.tmps) (hh:Ax E w0 G0 D w β G h) (a4:C3 β h nid) {r:Out}
    (C:BX E nid ρ h o.op=some r):De P E w0 G0 D o a w β G h nid r:=by
  cases A5:o.op with
  | call c=>rw[A5]at C;exact Amk hE hf hh a4 A5 C
  | move x =>
    rw[A5]at C;simp only[BX]at C;obtain⟨d,I,C⟩:=AD C;cases C;exact De.pure hh (by unfold execOp;rw[A5];rfl) (DP hf I)
  | assign x =>
    rw[A5]at C;simp only[BX]at C;obtain⟨d,I,C⟩:=AD C;cases C;exact De.pure hh (by unfold execOp;rw[A5];rfl) (DP hf I)
  | pick c x y =>
    rw[A5]at C;simp only[BX]at C;obtain⟨dc,hc,C⟩:=AD C;split at C
    · rename_i b
      have d9:=Es.1 (DP hf hc);have AH:(execOp a.eval o).run P w=.ok (.value (if b then a.eval x else a.eval y)) w:=by
        unfold execOp;rw[A5];simp[d9,asBool]
      cases b
      · obtain⟨d,I,C⟩:=AD C
        cases C;exact De.pure hh AH (DP hf I)
      · obtain⟨d,I,C⟩:=AD C
        cases C;exact De.pure hh AH (DP hf I)
    · cases C
  | alloc t =>
    rw[A5]at C;simp only[BX]at C;obtain⟨ti,J,C⟩:=AD C;cases C;exact Ale hh a4 (hE t ti J) A5
  | box t x =>
    rw[A5]at C;simp only[BX]at C;obtain⟨d,I,C⟩:=AD C;obtain⟨Z,C⟩:=Ad C;cases C;exact Amc hh a4 A5 (DP hf I) Z
  | build t AP =>
    rw[A5]at C;simp only[BX]at C;have d7:∃d,r=⟨some d,[]⟩:=by
      obtain⟨ti,J,C⟩:=AD C;obtain⟨vs,f6,C⟩:=AD C;split at C
      · obtain⟨cs,hcs,C⟩:=AD C
        cases C;exact⟨_,rfl⟩
      · obtain⟨ei,W,C⟩:=AD C
        obtain⟨cs,hcs,C⟩:=AD C;cases C;exact⟨_,rfl⟩
      · cases C
    obtain⟨d,rfl⟩:=d7;obtain⟨v,I,K⟩:=Ali (P:=P) (w:=w) (β:=β) (G:=G) hE hf C;exact De.pure hh (ET (by unfold execOp;rw[A5]) I) K
  | buildSlice t n AP =>
    rw[A5]at C;obtain⟨v,w',β',G',I,K,Q,h4,h5⟩:=AkL (P:=P) (a:=a) hE hf hh a4 C;exact⟨.value v,v,w',β',G',ET (by unfold execOp;rw[A5]) I,.inl rfl,K,Q,h4,h5⟩
  | load t x =>
    rw[A5]at C;simp only[BX]at C;obtain⟨ti,J,C⟩:=AD C;obtain⟨dx,hx,C⟩:=AD C;obtain⟨d,I,C⟩:=AD C;cases C;obtain⟨v,K,Q⟩:=Aa4 hE hh (hE t ti J) (hE t ti J).Ze (DP hf hx) I;exact De.pure hh (ET (by unfold execOp;rw[A5]) K) Q
  | store t x y =>
    rw[A5]at C;simp only[BX]at C;obtain⟨ti,J,C⟩:=AD C;obtain⟨dx,hx,C⟩:=AD C;obtain⟨dy,hy,C⟩:=AD C;obtain⟨us,I,C⟩:=AD C;cases C;obtain⟨w',K,Q,h4⟩:=AlF (nid:=nid) hh (hE t ti J) (DP hf hx) (DP hf hy) I;exact⟨.skip,undef,w',β,G,AcU (by unfold execOp;rw[A5]) K,.inr ⟨rfl,rfl⟩,fun d C=>by cases C;exact UO,Ext.refl β G,Q,h4⟩
  | nilCheck x =>
    rw[A5]at C;simp only[BX]at C;obtain⟨d,I,C⟩:=AD C;have AH:=DP hf I;have key:∀A,a.eval x=.pointer (some A)->(execOp a.eval o).run P w=.ok (.value (a.eval x)) w:=fun A hA=>by
      unfold execOp;rw[A5];simp[hA]
    split at C
    · cases C
      obtain⟨b,_,K⟩:=Ja.1 AH;exact De.pure hh (key _ K) AH
    · cases C
      obtain⟨b,_,_,_,K⟩:=MX.1 AH;exact De.pure hh (key _ K) AH
    · cases C
      obtain⟨_,b,_,K,_⟩:=N9.1 AH;exact De.pure hh (key _ K) AH
    · cases C
  | binOp op t x y z =>
    rw[A5]at C;simp only[BX]at C;obtain⟨dx,hx,C⟩:=AD C;obtain⟨dy,hy,C⟩:=AD C;obtain⟨d,I,C⟩:=AD C;cases C;split at I
    · have AS:=Xz.1 (DP hf hx)
      have BG:=Xz.1 (DP hf hy);obtain⟨hc,I⟩:=Ad I;obtain⟨v,K,Q⟩:=Am1 (P:=P) (w:=w) (β:=β) (G:=G) (x:=x) (y:=y) hE hc I;exact De.pure hh (ET (by unfold execOp;rw[A5]) (by rw[AS,BG];exact K)) Q
    · obtain⟨v,K,Q⟩:=Alz (P:=P) (w:=w) (x:=x) (y:=y) hE I (DP hf hx) (DP hf hy)
      exact De.pure hh (ET (by unfold execOp;rw[A5]) K) Q
  | unOp op t x =>
    rw[A5]at C;simp only[BX]at C;obtain⟨dx,hx,C⟩:=AD C;obtain⟨d,I,C⟩:=AD C;cases C;obtain⟨v,K,Q⟩:=An2 (P:=P) (w:=w) I (DP hf hx);exact De.pure hh (ET (by unfold execOp;rw[A5]) K) Q
  | convert s t x =>
    rw[A5]at C;simp only[BX]at C;obtain⟨si,e8,C⟩:=AD C;obtain⟨ti,J,C⟩:=AD C;obtain⟨dx,hx,C⟩:=AD C;obtain⟨us,d4⟩:=(hE s si e8).AAH;have M:=(hE t ti J).desc;have AH:=DP hf hx;cases U:ti.k with
    | int k =>
      rw[U]at C M;cases dx with
      | int k' n =>
      cases C;rw[DX]at AH;refine De.pure hh (ET (v:=.int k (k.wrap n)) (by unfold execOp;rw[A5]) ?_) (DX.2 rfl)
      simp[convert,C7 d4,C7 M,AH,Conv.intToInt]
      | _=>cases C
    | string =>
      rw[U]at C M;cases dx with
      | str s' =>
      cases C;rw[GO]at AH;refine De.pure hh (ET (v:=.string s') (by unfold execOp;rw[A5]) ?_) (GO.2 rfl)
      simp[convert,C7 d4,C7 M,AH]
      | _=>cases C
    | _=>rw[U]at C;cases C
  | makeInterface t x =>
    rw[A5]at C;simp only[BX]at C;obtain⟨ti,J,C⟩:=AD C;obtain⟨dx,hx,C⟩:=AD C;have U:ti.k≠.iface:=fun e=>by rw[e]at C;cases C
    have a3:ret (.iface t dx)=some r:=by
      cases a1:ti.k<;>rw[a1]at C<;>first|exact C|exact absurd a1 U
    rw[L2 a3];obtain⟨I,K⟩:=AkQ (P:=P) (w:=w) (hE t ti J) U (DP hf hx);exact De.pure hh (ET (by unfold execOp;rw[A5]) I) K
  | typeAssert x xt t ok =>
    rw[A5]at C;simp only[BX]at C;obtain⟨ti,J,C⟩:=AD C;obtain⟨dx,hx,C⟩:=AD C;have U:ti.k≠.iface:=fun e=>by rw[e]at C;cases dx<;>cases C
    have:∃d,(match dx with
      | .Bl=>bif ok then(Ht ti).bind fun z=>some (.Ap [z,.bool false])else none
      | .iface t' v=>bif Nat.beq t' t then some (bif ok then .Ap [v,.bool true]else v)else bif ok then(Ht ti).bind fun z=>some (.Ap [z,.bool false])else none
      | _=>none:Option AB)=some d/\r=⟨some d,[]⟩:=by
      cases dx with
      | Bl =>
        have a3:(bif ok then(Ht ti).bind fun z=>ret (.Ap [z,.bool false])else none)=some r:=by
          cases a1:ti.k<;>rw[a1]at C<;>first|exact C|exact absurd a1 U
        cases ok with
        | false=>cases a3
        | true =>
          obtain⟨z,hz,a3⟩:=AD a3;exact⟨_,by simp[hz],L2 a3⟩
      | iface t' v =>
        have a3:(bif Nat.beq t' t then ret (bif ok then .Ap [v,.bool true]else v)else bif ok then(Ht ti).bind fun z=>ret (.Ap [z,.bool false])else none)=some r:=by
          cases a1:ti.k<;>rw[a1]at C<;>first|exact C|exact absurd a1 U
        simp only;cases Z:Nat.beq t' t with
        | true=>rw[Z]at a3;exact⟨_,rfl,L2 a3⟩
        | false =>
          rw[Z]at a3;cases ok with
          | false=>cases a3
          | true =>
            obtain⟨z,hz,a3⟩:=AD a3;exact⟨_,by simp[hz],L2 a3⟩
      | _=>cases a1:ti.k<;>rw[a1]at C<;>cases C
    obtain⟨d,I,rfl⟩:=this;obtain⟨v,K,Q⟩:=AkP (P:=P) (w:=w) (xt:=xt) (hE t ti J) U I (DP hf hx);exact De.pure hh (ET (by unfold execOp;rw[A5]) K) Q
  | makeSlice t l c =>
    rw[A5]at C;simp only[BX]at C;obtain⟨ti,J,C⟩:=AD C;obtain⟨dl,hl,C⟩:=AD C;obtain⟨dc,hc,C⟩:=AD C;cases U:ti.k with
    | slice e =>
     rw[U]at C;obtain⟨k1,n,rfl⟩:∃k n,dl=.int k n:=by cases dl<;>first|exact⟨_,_,rfl⟩|cases C
     obtain⟨k2,n',rfl⟩:∃k n,dc=.int k n:=by cases dc<;>first|exact⟨_,_,rfl⟩|cases C
     simp only at C;obtain⟨ei,W,C⟩:=AD C;obtain⟨Z,C⟩:=Ad C;cases C;simp only[Ar,Ew,beq_iff_eq]at Z;obtain⟨⟨⟨⟨BI,BD⟩,B9⟩,DM⟩,Em⟩:=Z;subst BI;have AS:=DP hf hl;have BG:=DP hf hc;rw[DX]at AS BG;obtain⟨v,w',β',I,K,Q,h4,h5⟩:=AkR (P:=P) (k1:=k1) (k2:=k2) hE hh a4 (hE t ti J) U W BD (DF B9) (DF DM) Em;rw[<-AS,<-BG]at I;exact⟨_,v,w',β',G,ET (by unfold execOp;rw[A5]) I,.inl rfl,fun d C=>by cases C;exact K,Q,h4,h5⟩
    | _=>rw[U]at C;cases C
  | makeFunc f x y =>
    rw[A5]at C;simp only[BX]at C;obtain⟨dx,hx,C⟩:=AD C;obtain⟨dy,hy,C⟩:=AD C;cases C;refine De.pure hh (ET (v:=.func f (x.map a.eval) (y.map a.eval)) (by unfold execOp;rw[A5]) rfl) (Ye.2 ⟨_,_,?_,NY hf hx,NY hf hy⟩)
    congr 1<;>(apply Array.ext';simp)
  | makeMap t x =>
    cases x with
    | some x=>rw[A5]at C;simp[BX]at C
    | none =>
      rw[A5]at C;simp only[BX]at C;cases C;obtain⟨β',I,K,Q,h4⟩:=Aof hh a4;refine⟨_,.map (some w.heap.size),_,β',G,ET (by unfold execOp;rw[A5]) ?_,.inl rfl,fun d C=>by cases C;exact Ud.2 ⟨_,K,rfl⟩,I,Q,h4⟩
      simp[Instr.makeMap]
  | slice t x A1 AA mx =>
    cases mx with
    | some m=>rw[A5]at C;simp[BX]at C
    | none =>
      rw[A5]at C;simp only[BX]at C;obtain⟨ti,J,C⟩:=AD C;obtain⟨dx,hx,C⟩:=AD C;obtain⟨dl,hl,C⟩:=AD C;obtain⟨dh,e9,C⟩:=AD C;have M:=(hE t ti J).desc;have AH:=DP hf hx;have a9:=Aco hf hl;have a6:=Aco hf e9;cases U:ti.k with
      | string =>
        rw[U]at M C;cases dx with
        | str s =>
          obtain⟨d,I,C⟩:=AD C;cases C;rw[GO]at AH;unfold mZ at I;obtain⟨m,k1,I⟩:=AD I;obtain⟨l,k2,I⟩:=AD I;cases I;obtain⟨k3,_,_⟩:=Tz (P:=P) (w:=w) (isSlice:=false) a9 a6 k1 k2 (Nat.le_refl _);refine De.pure hh (ET (v:=.string (s.extract l m)) (by unfold execOp;rw[A5]) ?_) (GO.2 rfl)
          simp[Instr.sliceAt,Instr.slice,C7 M,AH,k3]
        | _=>cases C
      | array n e =>
        rw[U]at C;cases dx with
        | ptr id off =>
          simp only at C;obtain⟨ei,W,C⟩:=AD C;obtain⟨ob,a2,C⟩:=AD C;cases ob with
          | cells ct cs =>
            obtain⟨Z,C⟩:=Ad C;obtain⟨d,I,C⟩:=AD C;cases C;simp only[Ar]at Z;obtain⟨v,G1,K,Q,h4,h5⟩:=AkV (P:=P) hE hh (hE t ti J) U W AH a2 (DF Z.1.1) (DF Z.1.2) Z.2 a9 a6 I;exact⟨_,v,w,β,G1,ET (by unfold execOp;rw[A5]<;>rfl) K,.inl rfl,fun d C=>by cases C;exact Q,h4,h5,fun i _ Z=>⟨by rw[EV];split;exact rfl;exact Z,rfl,fun _=>rfl⟩⟩
          | _=>cases C
        | CN cs =>
          simp only at C;obtain⟨ei,W,C⟩:=AD C;obtain⟨Z,C⟩:=Ad C;obtain⟨d,I,C⟩:=AD C;cases C;simp only[Ar]at Z;obtain⟨v,K,Q⟩:=AkW (P:=P) (w:=w) hE (hE t ti J) U W AH (DF Z.1) Z.2 a9 a6 I;exact De.pure hh (ET (by unfold execOp;rw[A5]<;>rfl) K) Q
        | _=>cases C
      | slice e =>
        rw[U]at C;simp only at C;obtain⟨ei,W,C⟩:=AD C;obtain⟨es,O,C⟩:=AD C;obtain⟨Z,C⟩:=Ad C;simp only[Ar,List.all_eq_true]at Z;have b8:∀c∈es,c.length=ei.size:=fun c hc=>Al (Z.1 c hc);cases d2:ti.view&&Kr h dx with
        | true =>
          rw[d2]at C;simp only[AY]at C;obtain⟨d,I,C⟩:=AD C;cases C;obtain⟨v,K,Q⟩:=AlW (P:=P) (w:=w) hh (hE t ti J) U (hE e ei W) O AH a9 a6 I;exact De.pure hh (ET (by unfold execOp;rw[A5]<;>rfl) K) Q
        | false =>
        rw[d2]at C;simp only[Ac]at C;obtain⟨d,I,C⟩:=AD C;cases C;obtain⟨G1,b0,f0,c8⟩:=N2 hh (B3 dx);have e4:∃A c,a.eval x=.slice A es.length c/\es.length<=c/\(es=[]\/∃b off,A=some ⟨b,off,none⟩/\DD β G1 b ei.size off es):=by
          cases dx with
          | Aq=>cases O;exact⟨none,0,L1.1 AH,Nat.le_refl _,.inl rfl⟩
          | AR b2 =>
            cases O;obtain⟨A,c,⟨k1,k2⟩,k3⟩:=Km.1 AH;refine⟨A,c,k1,k2,?_⟩;rcases k3 with k3|⟨b,off,e',k3,k4⟩
            · exact .inl k3
            · exact Xb (DD.mono b0 _ _ _ _ k4) b8 |>.imp (fun z=>z) fun k=>⟨b,off,k3,k⟩
          | rs id a5 =>
            simp only[FK]at O;obtain⟨ob,a2,O⟩:=AD O;split at O
            · rename_i t' b2 p u
              obtain⟨hu,O⟩:=Ad O;cases O;have hu:u=a5:=Al hu;subst hu;obtain⟨p',b7⟩:=On h (B3 (.rs id u)) _ _ _ _ _ a2;obtain⟨Am,k1,A,c,⟨k2,k3⟩,k4⟩:=c8 id (by simp[B3]) _ _ _ _ b7
              obtain⟨k5,_⟩:=IK.1 AH;rw[k1]at k5;cases k5;refine⟨A,c,k2,k3,?_⟩;rcases k4 with k4|⟨b,k4,k6⟩
              · exact .inl k4
              · exact Xb k6 b8 |>.imp (fun z=>z) fun k=>⟨b,0,k4,k⟩
            · cases O
          | CV id a5 i n e' =>
            simp only[FK]at O;obtain⟨ob,a2,O⟩:=AD O;split at O
            · rename_i t' b2 p u
              obtain⟨hu,O⟩:=Ad O;cases O;simp only[Ar,List.all_eq_true]at hu;obtain⟨hu,d5⟩:=hu;have hu:u=a5:=Al hu;subst hu;obtain⟨p',b7⟩:=On h (B3 (.CV id u i n e')) _ _ _ _ _ a2;obtain⟨Am,k1,A,c,⟨k2,k3⟩,k4⟩:=c8 id (by simp[B3]) _ _ _ _ b7
              obtain⟨a0,m,c0,a',c',k5,k7,k8,f5,hz⟩:=Yf.1 AH;rw[k1,k2]at k5;cases k5;have d0:((b2.drop i).take n).length=n:=by simp;omega
              refine⟨_,c',by rw[d0];exact k7,by rw[d0];exact k8,?_⟩
              rcases hz with hz|⟨b,b5,e3⟩
              · exact .inl (by rw[hz];simp)
              rcases k4 with k4|⟨b',k4,k6⟩
              · exact .inl (by rw[k4];simp)
              · rw[b5]at k4
                cases k4;rcases Xb (e':=e') k6 (fun c hc=>Al (d5 c hc))with k|k
                · exact .inl (by rw[k];simp)
                · have:=RP n (RO i k)
                  rw[Nat.zero_add]at this;exact Xb this b8 |>.imp (fun z=>z) fun k=>⟨_,i*e',e3,k⟩
            · cases O
          | _=>cases O
        obtain⟨v,K,Q⟩:=AlC (P:=P) (w:=w) (hE t ti J) U (hE e ei W) e4 (YP b0 a9) (YP b0 a6) I;exact⟨_,v,w,β,G1,ET (by unfold execOp;rw[A5]<;>rfl) K,.inl rfl,fun d C=>by cases C;exact Q,b0,f0,kN _⟩
      | _=>rw[U]at C;cases C
  | fieldAddr s x f =>
    rw[A5]at C;simp only[BX]at C;obtain⟨ti,J,C⟩:=AD C;obtain⟨dx,hx,C⟩:=AD C;split at C
    · rename_i fs U
      obtain⟨⟨ft,off⟩,b9,C⟩:=AD C;obtain⟨fi,b4,C⟩:=AD C;obtain⟨Z,C⟩:=Ad C;obtain⟨d,I,C⟩:=AD C;cases C;obtain⟨v,K,Q⟩:=AkX (P:=P) (w:=w) hE (hE s ti J) U b9 b4 (DF Z) (DP hf hx) I;exact De.pure hh (ET (by unfold execOp;rw[A5]) K) Q
    · cases C
  | field s x f =>
    rw[A5]at C;simp only[BX]at C;obtain⟨ti,J,C⟩:=AD C;obtain⟨dx,hx,C⟩:=AD C;have:∃d,(match ti.k,dx with
      | .struct fs,.agg cs=>(fs[f]?).bind fun(ft,off)=>(E.ty ft).bind fun fi=>Gk fi cs off
      | _,_=>none)=some d/\r=⟨some d,[]⟩:=by
      split at C
      · rename_i a7
        obtain⟨⟨ft,off⟩,b9,C⟩:=AD C;obtain⟨fi,b4,C⟩:=AD C;obtain⟨d,I,C⟩:=AD C;cases C;exact⟨d,by(try rw[a7]);simp only at b4 I;simp[b9,b4,I],rfl⟩
      · cases C
    obtain⟨d,I,rfl⟩:=this;obtain⟨v,K,Q⟩:=Aln (P:=P) (w:=w) hE (hE s ti J) I (DP hf hx);exact De.pure hh (ET (by unfold execOp;rw[A5]) K) Q
  | indexAddr t x i =>
    rw[A5]at C;simp only[BX]at C;obtain⟨ti,J,C⟩:=AD C;obtain⟨dx,hx,C⟩:=AD C;obtain⟨di,AA,C⟩:=AD C;have c7:=DP hf hx;have b3:=DP hf AA;cases U:ti.k with
    | array len e =>
      rw[U]at C;obtain⟨ei,W,C⟩:=AD C;obtain⟨j,hj,C⟩:=AD C;obtain⟨d,I,C⟩:=AD C;cases C;obtain⟨v,K,Q⟩:=AkY (P:=P) (w:=w) (hE t ti J) U (hE e ei W) c7 b3 hj I;exact De.pure hh (ET (by unfold execOp;rw[A5]) K) Q
    | slice e =>
      rw[U]at C;simp only at C;obtain⟨ei,W,C⟩:=AD C;cases dx with
      | AR es =>
        obtain⟨j,hj,C⟩:=AD C;obtain⟨c,hc,C⟩:=AD C;obtain⟨Z,C⟩:=Ad C;cases C;simp only[Ar]at Z;have f2:c.length=ei.size:=Al Z.1;obtain⟨A,b1,⟨k1,k2⟩,k3⟩:=Km.1 c7;rcases k3 with k3|⟨b,off,e',rfl,k4⟩
        · subst k3;simp at hc
        · obtain⟨m1,m2,m3⟩:=Abq k4 hc
          have he:e'=ei.size:=by omega
          subst he;have K:=yM (P:=P) (w:=w) (c:=b1) (A:=⟨b,off,none⟩) (hE t ti J) U (hE e ei W) b3 hj;refine De.pure hh (ET (v:=.pointer (some ((⟨b,off,none⟩:Addr).add (j*ei.size)))) (by unfold execOp;rw[A5]) ?_) (N9.2 ⟨m1,b,off+j*ei.size,by rw[HI],?_⟩)
          · rw[k1];exact K
          · exact m2
      | rs id a5 =>
        obtain⟨ob,a2,C⟩:=AD C;split at C
        · rename_i t' es p u
          obtain⟨j,hj,C⟩:=AD C;obtain⟨Z,C⟩:=Ad C;cases C;simp only[Ar]at Z;have hu:u=a5:=Al Z.1;subst hu;obtain⟨k5,_⟩:=IK.1 c7;obtain⟨Am,f1,n1,n2,_⟩:=hh.obj id _ a2;rw[n1]at k5;cases k5;obtain⟨kk,a1,f4⟩:=UT hj b3;rcases n2.2 with⟨n3,n4⟩|⟨g,b1,f3,n3,_⟩
          · omega
          · have K:=yM (P:=P) (w:=w) (c:=b1) (A:=⟨g,0,none⟩) (hE t ti J) U (hE e ei W) b3 hj
            refine De.pure hh (ET (v:=.pointer (some ((⟨g,0,none⟩:Addr).add (j*ei.size)))) (by unfold execOp;rw[A5]) ?_) (MX.2 ⟨g,es.length,b1,by rw[n1,n3],by rw[HI];simp⟩)
            rw[n3];exact K
        · cases C
      | _=>cases C
    | _=>rw[U]at C;cases C
  | index t x i =>
    rw[A5]at C;simp only[BX]at C;obtain⟨ti,J,C⟩:=AD C;obtain⟨dx,hx,C⟩:=AD C;obtain⟨di,AA,C⟩:=AD C;have:∃d,(match ti.k,dx with
      | .array len e,.agg cs=>(E.ty e).bind fun ei=>(I7 len di).bind fun i=>Gk ei cs (i*ei.size)
      | .string,.str s=>(I7 s.size di).bind fun i=>(s[i]?).bind fun b=>some (.int .u8 b.toNat)
      | _,_=>none)=some d/\r=⟨some d,[]⟩:=by
      cases a7:ti.k with
      | array len e =>
        rw[a7]at C;cases dx with
        | agg cs =>
          obtain⟨ei,W,C⟩:=AD C;obtain⟨j,hj,C⟩:=AD C;obtain⟨d,I,C⟩:=AD C;cases C;exact⟨d,by simp[W,hj,I],rfl⟩
        | _=>cases C
      | string =>
        rw[a7]at C;cases dx with
        | str s =>
          obtain⟨j,hj,C⟩:=AD C;obtain⟨d,I,C⟩:=AD C;cases C;exact⟨_,by simp[hj,I],rfl⟩
        | _=>cases C
      | _=>rw[a7]at C;cases C
    obtain⟨d,I,rfl⟩:=this;obtain⟨v,K,Q⟩:=Ald (P:=P) (w:=w) hE (hE t ti J) I (DP hf hx) (DP hf AA);exact De.pure hh (ET (by unfold execOp;rw[A5]) K) Q
  | lookup t m k ok =>
    rw[A5]at C;simp only[BX]at C;obtain⟨ti,J,C⟩:=AD C;obtain⟨dm,hm,C⟩:=AD C;obtain⟨dk,U,C⟩:=AD C;split at C
    · rename_i kt e a1
      obtain⟨ei,W,C⟩:=AD C;obtain⟨ki,c6,C⟩:=AD C;obtain⟨Z,C⟩:=Ad C;simp only[Ar,Bool.not_eq_true']at Z;obtain⟨⟨e6,d6⟩,e7⟩:=Z;obtain⟨es,O,C⟩:=AD C;obtain⟨q,b6,C⟩:=AD C;have b5:∃z,ei.zero=[z]:=by
        obtain⟨i,zv,_,_,_,_,f7,e5⟩:=(hE e ei W).IB;have:=FR (e5 β G);have d3:ei.size=1:=Al d6;have I:ei.zero.length=1:=by simp at this;omega
        exact List.length_eq_one_iff.1 I
      obtain⟨z,hz⟩:=b5;obtain⟨v,K,Q⟩:=Al7 (P:=P) (w:=w) hE hh (hE t ti J) a1 (hE e ei W) (hE kt ki c6) (DP hf U) e6 O b6 hz (Al d6) e7 ok (DP hf hm);rw[hz]at C;cases q with
      | some d=>cases C;exact De.pure hh (ET (by unfold execOp;rw[A5]) K) Q
      | none=>cases C;exact De.pure hh (ET (by unfold execOp;rw[A5]) K) Q
    · cases C
  | mapUpdate t m k x =>
    rw[A5]at C;simp only[BX]at C;obtain⟨ti,J,C⟩:=AD C;obtain⟨dm,hm,C⟩:=AD C;obtain⟨dk,U,C⟩:=AD C;obtain⟨dx,hx,C⟩:=AD C;cases a1:ti.k with
    | map kt e =>
      rw[a1]at C;cases dm with
      | map id =>
        obtain⟨ki,c6,C⟩:=AD C;obtain⟨ob,a2,C⟩:=AD C;split at C
        · rename_i es
          obtain⟨Z,C⟩:=Ad C;simp only[Ar]at Z;obtain⟨b2,O,C⟩:=AD C;cases C;obtain⟨w',K,Q,h4⟩:=AkT (P:=P) (nid:=nid) hh (hE t ti J) a1 (hE kt ki c6) (DP hf hm) (DP hf U) (DP hf hx) Z.2 Z.1.1 a2 O;exact⟨.skip,undef,w',β,G,AcU (by unfold execOp;rw[A5]) K,.inr ⟨rfl,rfl⟩,fun d C=>by cases C;exact UO,Ext.refl β G,Q,h4⟩
        · cases C
      | _=>cases C
    | _=>rw[a1]at C;cases C
  | range t x =>
    rw[A5]at C;simp only[BX]at C;obtain⟨ti,J,C⟩:=AD C;obtain⟨dx,hx,C⟩:=AD C;have M:=(hE t ti J).desc;have AH:=DP hf hx;cases U:ti.k with
    | string =>
      rw[U]at C M;cases dx with
      | str s =>
        rw[GO]at AH;cases C;obtain⟨β',I,K,Q,h4⟩:=AmX hh a4 s;refine⟨_,.pointer (some ⟨w.heap.size,0,none⟩),_,β',G,ET (by unfold execOp;rw[A5]) ?_,.inl rfl,fun d C=>by cases C;exact UR.2 ⟨_,K,rfl⟩,I,Q,h4⟩
        simp[Instr.range,C7 M,AH]
      | _=>cases C
    | map kt et =>
      rw[U]at C M;cases dx with
      | map id =>
        simp only at C;obtain⟨ob,a2,C⟩:=AD C;cases ob with
        | map es =>
          cases C;obtain⟨b,hb,hv⟩:=Ud.1 AH;obtain⟨b',ms,a8,k1,k2,k3,k4,k5⟩:=hh.obj id _ a2;rw[hb]at k1;cases k1;have d3:es.length=a8:=by have:=UU k3;rw[k5,<-this];simp
          obtain⟨β',I,K,Q,h4⟩:=Aoi hh a4 id b es.length hb;refine⟨_,.pointer (some ⟨w.heap.size,0,none⟩),_,β',G,ET (by unfold execOp;rw[A5]) ?_,.inl rfl,fun d C=>by cases C;exact UR.2 ⟨_,K,rfl⟩,I,Q,h4⟩
          have c9:(getObj b).run P w=.ok (.map ms a8) w:=by simp[getObj,Sem.run,k2]
          simp[Instr.range,C7 M,hv,c9,d3]
        | _=>cases C
      | _=>cases C
    | _=>rw[U]at C;cases C
  | next it s =>
    cases s with
    | false=>rw[A5]at C;simp[BX]at C
    | true =>
      rw[A5]at C;simp only[BX]at C;obtain⟨d,I,C⟩:=AD C;split at C
      · rename_i id
        obtain⟨ob,a2,C⟩:=AD C;split at C
        · rename_i s pos
          obtain⟨b,hb,hv⟩:=UR.1 (DP hf I);obtain⟨b',d1,hw⟩:=hh.obj id _ a2;rw[hb]at d1;cases d1
          by_cases hp:pos<s.size
          · simp only[hp,decide_true,AY]at C
            cases C;have d8:=RX (o':=.Ez s (pos+(Utf8.decode s pos).2)) (ob':=.stringIter s (pos+(Utf8.decode s pos).2)) hh a2 hb hw (by simp) (fun x hx=>by simp[Cc]at hx;rw[hb]at hx;cases hx;rfl)
              ⟨b,hb,by simp[World.putObj_heap_same (Gv.1 hw).1]⟩
            refine⟨_,.tuple #[.bool true,.int .i64 (pos:Nat),.int .i32 (Utf8.decode s pos).1],_,β,G,ET (by unfold execOp;rw[A5]) ?_,.inl rfl,fun d C=>?_,Ext.refl β G,d8,jY a2⟩
            · simp[Instr.next,hv,xS hw,hp,goInt,Al1 (P:=P) hw (by simp),Result.andThen]
            · cases C
              exact HU.2 ⟨[.bool true,.int .i64 (pos:Nat),.int .i32 (Utf8.decode s pos).1],rfl,CE.2 ⟨_,_,rfl,Es.2 rfl,CE.2 ⟨_,_,rfl,DX.2 rfl,CE.2 ⟨_,_,rfl,DX.2 rfl,CU.2 rfl⟩⟩⟩⟩
          · simp only[hp,decide_false,Ac]at C
            cases C;refine De.pure hh (ET (v:=.tuple #[.bool false]) (by unfold execOp;rw[A5]) ?_) (HU.2 ⟨[.bool false],rfl,CE.2 ⟨_,_,rfl,Es.2 rfl,CU.2 rfl⟩⟩)
            simp[Instr.next,hv,xS hw,hp,Result.andThen]
        · cases C
      · cases C
  | extract t i =>
    rw[A5]at C;simp only[BX]at C;obtain⟨dx,hx,C⟩:=AD C;split at C
    · rename_i vs
      obtain⟨d,I,C⟩:=AD C;cases C;obtain⟨us,he,AH⟩:=HU.1 (DP hf hx);obtain⟨v,K,Q⟩:=RV AH I;refine De.pure hh (ET (v:=v) (by unfold execOp;rw[A5]) ?_) Q
      simp[Instr.extract,he,K]
    · cases C
  | _=>rw[A5]at C;simp[BX]at C
end
end Go.Ab
namespace Go.Ab
namespace Tr
variable {α:Type}
theorem FH (a b:Nat):Nat.beq a b=decide (a=b):=by
 by_cases h:a=b
 ·subst h;simp
 ·have:Nat.beq a b=false:=by
   cases d:Nat.beq a b with
   | false=>rfl
   | true=>exact absurd (Al d) h
  simp[this,h]
theorem FT (a b:Nat):Nat.blt a b=decide (a<b):=by
 by_cases h:a<b
 ·have c:Nat.blt a b=true:=Nat.ble_eq_true_of_le h;rw[c];simp[h]
 ·have:Nat.blt a b=false:=by
   cases d:Nat.blt a b with
   | false=>rfl
   | true=>exact absurd (DF d) h
  simp[this,h]
theorem VR (k:Nat):(leaf:Tr α).get k=none:=rfl
theorem Hj (l r:Tr α) (v:Option α) (k:Nat):(node l v r).get k=if k=0 then v else if k % 2=1 then l.get (k / 2)else r.get (k / 2-1):=by
 rw[get,FH,FH]
 by_cases h:k=0
 ·simp[h]
 ·by_cases d:k % 2=1<;>simp[h,d]
theorem VS:∀(n:Nat) (t:Tr α) (k:Nat) (v:Option α) (k':Nat),k<n->(setAux n t k v).get k'=if k'=k then v else t.get k'
 | 0,_,_,_,_,h=>by omega
 | n+1,.leaf,k,v,k',h=>by
  rw[setAux,FH,FH]
  by_cases d:k=0
  ·subst d;simp only[decide_true,AY,Hj,VR]
   by_cases e:k'=0<;>simp[e]
  ·by_cases i:k % 2=1
   ·simp only[d,i,decide_true,decide_false,AY,Ac,Hj,VR]
    by_cases Cu:k'=0
    ·have:k'≠k:=by omega
     simp[Cu];omega
    ·by_cases AS:k' % 2=1
     ·rw[if_neg Cu,if_pos AS,VS n .leaf (k / 2) v (k' / 2) (by omega),VR]
      by_cases e:k'=k
      ·subst e;simp
      ·rw[if_neg e,if_neg (by omega)]
     ·rw[if_neg Cu,if_neg AS];have:k'≠k:=by omega
      simp[this]
   ·simp only[d,i,decide_false,Ac,Hj,VR]
    by_cases Cu:k'=0
    ·have:k'≠k:=by omega
     simp[Cu];omega
    ·by_cases AS:k' % 2=1
     ·rw[if_neg Cu,if_pos AS];have:k'≠k:=by omega
      simp[this]
     ·rw[if_neg Cu,if_neg AS,VS n .leaf (k / 2-1) v (k' / 2-1) (by omega),VR]
      by_cases e:k'=k
      ·subst e;simp
      ·rw[if_neg e,if_neg (by omega)]
 | n+1,.node l x r,k,v,k',h=>by
  rw[setAux,FH,FH]
  by_cases d:k=0
  ·subst d;simp only[decide_true,AY,Hj]
   by_cases e:k'=0<;>simp[e]
  ·by_cases i:k % 2=1
   ·simp only[d,i,decide_true,decide_false,AY,Ac,Hj]
    by_cases Cu:k'=0
    ·have:¬(0=k):=by omega
     simp[Cu,this]
    ·by_cases AS:k' % 2=1
     ·simp only[if_neg Cu,if_pos AS,VS n l (k / 2) v (k' / 2) (by omega)]
      by_cases e:k'=k
      ·subst e;simp
      ·rw[if_neg e,if_neg (by omega)]
     ·have:k'≠k:=by omega
      simp[Cu,AS,this]
   ·simp only[d,i,decide_false,Ac,Hj]
    by_cases Cu:k'=0
    ·have:¬(0=k):=by omega
     simp[Cu,this]
    ·by_cases AS:k' % 2=1
     ·have:k'≠k:=by omega
      simp[Cu,AS,this]
     ·simp only[if_neg Cu,if_neg AS,VS n r (k / 2-1) v (k' / 2-1) (by omega)]
      by_cases e:k'=k
      ·subst e;simp
      ·rw[if_neg e,if_neg (by omega)]
theorem Cj (t:Tr α) (k:Nat) (v:Option α) (k':Nat):(t.set k v).get k'=if k'=k then v else t.get k':=VS _ t k v k' (by omega)
theorem Adx (l:Tr α) (v:Option α) (r:Tr α) (k:Nat):(Pk l v r).get k=(Tr.node l v r).get k:=by
 unfold Pk;split
 ·simp[get]
 ·rfl
theorem rJ (f:Nat->α->Option (Option α)):∀(t t':Tr α) (a b:Nat),CP f t a b=some t' →
  ∀k,(t.get k=none/\t'.get k=none)\/∃x y,t.get k=some x/\f (a*k+b) x=some y/\t'.get k=y
 | .leaf,t',a,b,h,k=>by
  simp only[CP,Bc]at h;subst h;exact .inl ⟨rfl,rfl⟩
 | .node l v r,t',a,b,h,k=>by
  simp only[CP]at h;obtain⟨d,hl,h⟩:=AD h;obtain⟨e,hv,h⟩:=AD h;obtain⟨r',AH,h⟩:=AD h;cases h;rw[Adx,Hj,Hj]
  by_cases Cu:k=0
  ·subst Cu;simp only[if_true,Nat.mul_zero,Nat.zero_add];cases v with
   | none=>cases hv;exact .inl ⟨rfl,rfl⟩
   | some x=>exact .inr ⟨x,e,rfl,hv,rfl⟩
  ·by_cases AS:k % 2=1
   ·simp only[if_neg Cu,if_pos AS];have:=rJ f l d _ _ hl (k / 2)
    rwa [show 2*a*(k / 2)+(a+b)=a*k+b by
     have:k=2*(k / 2)+1:=by omega
     generalize k / 2=m at this;subst this;rw[Nat.mul_add,<-Nat.mul_assoc,Nat.mul_comm a 2];omega]at this
   ·simp only[if_neg Cu,if_neg AS];have:=rJ f r r' _ _ AH (k / 2-1)
    rwa [show 2*a*(k / 2-1)+(2*a+b)=a*k+b by
     have:k=2*(k / 2-1)+2:=by omega
     generalize k / 2-1=m at this;subst this;rw[Nat.mul_add,<-Nat.mul_assoc,Nat.mul_comm a 2];omega]at this
theorem oU (m:Nat):∀(t:Tr α) (a b k:Nat),(t.Ly m a b).get k=bif Nat.testBit m (a*k+b)then t.get k else none
 | .leaf,a,b,k=>by cases Nat.testBit m (a*k+b)<;>rfl
 | .node l v r,a,b,k=>by
  simp only[Ly];rw[Adx,Hj,Hj]
  by_cases Cu:k=0
  ·subst Cu;simp only[if_true,Nat.mul_zero,Nat.zero_add]
  ·by_cases AS:k % 2=1
   ·simp only[if_neg Cu,if_pos AS];rw[oU m l,show 2*a*(k / 2)+(a+b)=a*k+b by
     have:k=2*(k / 2)+1:=by omega
     generalize k / 2=m at this;subst this;rw[Nat.mul_add,<-Nat.mul_assoc,Nat.mul_comm a 2];omega]
   ·simp only[if_neg Cu,if_neg AS];rw[oU m r,show 2*a*(k / 2-1)+(2*a+b)=a*k+b by
     have:k=2*(k / 2-1)+2:=by omega
     generalize k / 2-1=m at this;subst this;rw[Nat.mul_add,<-Nat.mul_assoc,Nat.mul_comm a 2];omega]
theorem Adi {m:Nat} {t:Tr α} {k:Nat} {x:α} (h:(t.Ly m 1 0).get k=some x):t.get k=some x:=by
 rw[oU]at h;cases d:Nat.testBit m (1*k+0)with
 | true=>rw[d]at h;exact h
 | false=>rw[d]at h;cases h
theorem S1 {f:Nat->α->Option (Option α)} {t t':Tr α} (h:CP f t 1 0=some t') (k:Nat):(t.get k=none/\t'.get k=none)\/∃x y,t.get k=some x/\f k x=some y/\t'.get k=y:=by
 have:=rJ f t t' 1 0 h k;simpa using this
end Tr
theorem UG (o:Tr A8):∀(d:List (Nat×Option A8)) (i:Nat),(E9 o d).get i=BY o.get d i:=by
 intro d
 induction d generalizing o with
 | nil=>intro i;rfl
 | cons u d ih =>
  intro i;obtain⟨j,x⟩:=u;rw[E9,ih,];unfold BY;simp only[DB];cases l:DB i d with
  | some y=>rfl
  | none =>
   rw[Tr.Cj,Tr.FH]
   by_cases e:i=j
   ·subst e;simp
   ·have:¬j=i:=fun h=>e h.symm;simp[e,this]
end Go.Ab
namespace Go.Ab
open Go.RowKit
def Fg (ro:Option Nat):Fence:={ Fence.wide with round:=ro }
def AcI (d:Nat):Deferred:={ target:=.collected d,args := #[] }
def nI (P:Program) (g:FuncId):Prop:=∀(n:Nat) (d:Array Value) (w:World),(invoke (.fn (.func g) d) #[]).run P w=.ok (.enter g d) w ∧
 CallsDIn Fence.wide n P g d .returning w fun e i w'=>(∃v,e=.returned v)/\i=.returning/\w'=w
inductive JG (E:Env):List Nat->List Deferred->Prop where
 | nil:JG E [] []
 | mark {own:List Nat} {ds:List Deferred} (d:Nat):JG E own ds->JG E (d::own) (AcI d::ds)
 | fn {own:List Nat} {ds:List Deferred} {g:Nat} (cap:Array Value):E.OB g=true->JG E own ds->JG E own ({ target:=.fn (.func g) cap,args := #[] }::ds)
structure D6 (nx:Nat) (β:BB) (G:Aj) (β':BB) (G':Aj) (h h':Nat->Option A8):Prop where
 ext:Ext β G β' G'
 Cs:∀id,id<nx->F0 β β' h h' id
theorem D6.refl (nx:Nat) (β:BB) (G:Aj) (h:Nat->Option A8):D6 nx β G β G h h:=⟨Ext.refl β G,fun id _=>F0.refl β h id⟩
theorem D6.trans {nx:Nat} {β β' d:BB} {G G' e:Aj} {h h' a:Nat->Option A8} (x:D6 nx β G β' G' h h') (y:D6 nx β' G' d e h' a):D6 nx β G d e h a :=
 ⟨x.ext.trans y.ext,fun id AA=>(x.Cs id AA).trans (y.Cs id AA)⟩
theorem D6.less {nx d:Nat} {β β':BB} {G G':Aj} {h h':Nat->Option A8} (x:D6 nx β G β' G' h h') (hl:d<=nx):D6 d β G β' G' h h':=⟨x.ext,fun id AA=>x.Cs id (Nat.lt_of_lt_of_le AA hl)⟩
structure r8 (E:Env) (w0:World) (G0:Aj) (outer:CW) (V AU:Nat) (own:List Nat) (ρ:Nat->Option AB) (base:Tr AB) (h:Nat->Option A8) (nx:Nat) (a:Act) (w:World) (β:BB) (G:Aj):Prop where
 B0:Dq β G ρ a.tmps
 GS:∀t d,base.get t=some d->Nat.testBit V t=true
 EI:a.tmps.size=AU
 AH:Ax E w0 G0 (FD own outer) w β G h
 fresh:∀id,nx<=id->C3 β h id
 df:JG E own a.defers/\Uj own outer
def GY (P:Program) (g:FuncId):Prop:=∀args w,(callFunc g args).run P w=.ok (.enter g args) w
def Kp (P:Program) (E:Env) (call:Nat->List AB->Option AB):Prop:=∀g as d,call g as=some d->GY P g ∧
 ∀(w:World) (β:BB) (G:Aj) (vs:Array Value),E.inv w->(∀b o v,G b o=some v->w.cell? ⟨b,o,none⟩=some v)->Ae β G as vs.toList->B4 as=true →
  Calls P g vs w fun e w'=>∃v G',e=.returned v/\Below w.heap.size w w'/\(∀b,b<w.heap.size->G' b=G b)/\(∀b o v,G' b o=some v->w'.cell? ⟨b,o,none⟩=some v)/\BW d=true/\AO β G' d v
def Iz (E:Env) (w0:World) (G0:Aj) (D:CW) (β:BB) (G:Aj) (AM:Tr A8) (nx:Nat) (r:AB) (d:Tr A8) (i:Nat) (e:Ending) (w':World):Prop :=
 ∃v β' G',e=.returned v/\nx<=i/\D6 nx β G β' G' AM.get d.get/\Ax E w0 G0 D w' β' G' d.get/\(∀id,i<=id->C3 β' d.get id)/\AO β' G' r v
def HW (P:Program) (E:Env) (callH:D5):Prop:=∀g as AM nx r d e,callH g as AM nx=some (r,d,e)->GY P g ∧
 ∀(w0:World) (G0:Aj) (D:CW) (w:World) (β:BB) (G:Aj) (vs:Array Value),Ax E w0 G0 D w β G AM.get->(∀id,nx<=id->C3 β AM.get id)->Ae β G as vs.toList →
  Calls P g vs w (Iz E w0 G0 D β G AM nx r d e)
def J7 (P:Program) (E:Env) (callY:D5):Prop:=∀l as AM nx r d i,callY l as AM nx=some (r,d,i) →
 ∀(w0:World) (G0:Aj) (D:CW) (w:World) (β:BB) (G:Aj) (vs:Array Value) (b:Nat),β.BE l=some b->Ax E w0 G0 D w β G AM.get->(∀id,nx<=id->C3 β AM.get id)->Ae β G as vs.toList →
  ∃q CP e j,(Instr.yield b vs).run P w=.ok (.round b q CP e j) w/\∀n,RoundIn Fence.wide n P b q CP e j w (Iz E w0 G0 D β G AM nx r d i)
section
variable {P:Program} {E:Env} {w0:World} {G0:Aj} {D:CW} {o:Oper} {a:Act} {w:World} {β:BB} {G:Aj} {h:Nat->Option A8} {nid:Nat} {ρ:Nat->Option AB} {ro:Option Nat} {n:Nat}
theorem YC {g:FuncId} {args:Array Value} {R:Ending->World->Prop} (h:Calls P g args w R):CallsIn (Fg ro) n P g args w R:=by
 have:=(callsIn_wide (n:=n)).2 h;exact this
theorem Ane {l:Nat} {f:FuncId} {CP:Array Value} {as d:Code} {R:Ending->World->Prop} (h:RoundIn Fence.wide n P l f CP as d w R):RoundIn (Fg ro) n P l f CP as d w R:=h
theorem Ax.grow {w':World} {G':Aj} (hh:Ax E w0 G0 D w β G h) (hb:Below w.heap.size w w') (f:∀b,b<w.heap.size->G' b=G b) (g:∀b o v,G' b o=some v->w'.cell? ⟨b,o,none⟩=some v) :
  Ax E w0 G0 D w' β G' h/\Ext β G β G':=by
 have l:Ext β G β G':=⟨fun b o v i=>by
  have a:b<w.heap.size:=by
   rcases Nat.lt_or_ge b w.heap.size with j|j
   ·exact j
   ·rw[Mv hh j o]at i;cases i
  rw[f b a];exact i,fun _ _ h=>h,fun _ _ _ h=>h⟩
 refine⟨⟨?_,?_,g,?_,?_,hh.inj,?_,hh.H0⟩,l⟩
 ·exact hh.below.trans ⟨hb.os,hb.tape,hb.output,hb.size,fun k n=>hb.block k (by have:=hh.below.size;omega)⟩
 ·intro b a;rw[<-hh.g0 b a];exact f b (by have:=hh.below.size;omega)
 ·intro id q e;refine FL.Cs l (fun _=>rfl) (fun b c=>?_) (hh.obj id q e);have a:=(hh.own id q b e c).2.1;exact⟨hb.block b a,fun off=>by rw[f b a]⟩
 ·intro id q b e c;obtain⟨k1,k2,u⟩:=hh.own id q b e c;exact⟨k1,Nat.lt_of_lt_of_le k2 hb.size,u⟩
 ·intro d x m;obtain⟨k1,k2,u⟩:=hh.marks d x m;have a:=(Gv.1 k2).1;exact⟨k1,(hb.block d a).trans k2,fun o=>by rw[f d a];exact u o⟩
theorem AkS {nid:Nat} {op:Op} {r:Out} (a:BX E nid ρ h op=some r):∀c,op≠.defer c:=fun c hc=>by
 subst hc;simp[BX]at a
def mR (P:Program) (E:Env) (w0:World) (G0:Aj) (D:CW) (ro:Option Nat) (n:Nat) (o:Oper) (a:Act) (w:World) (β:BB) (G:Aj) (h:Nat->Option A8) (nid:Nat) (r:Out):Prop :=
 ∀(K:Act->World->Prop) (Q:Exit->Act->World->Prop),(∀v w' β' G',(∀d,r.val=some d->AO β' G' d v)->Ext β G β' G'->Ax E w0 G0 D w' β' G' (BY h r.Ba)->Fs β β' h (BY h r.Ba) nid->K (a.put o.dst v) w')->o.wpIn (Fg ro) n P a w K Q
theorem De.step {r:Out} (b:∀c,o.op≠.defer c) (AH:De P E w0 G0 D o a w β G h nid r):mR P E w0 G0 D ro n o a w β G h nid r:=fun K Q g=>by
 obtain⟨nx,v,w',β',G',l,k,d,i,j,e⟩:=AH;refine⟨fun f _=>trivial,?_⟩;rw[Oper.semAt_eq _ _ _ b,l];rcases k with rfl|⟨rfl,rfl⟩
 ·rw[Oper.uponIn_value];exact g v w' β' G' d i j e
 ·rw[Oper.uponIn_skip];exact g undef w' β' G' d i j e
theorem Xc {ds es:List AB} {as bs:List Value} (a:Ae β G ds as) (b:Ae β G es bs):Ae β G (ds++es) (as++bs):=JA.2 ⟨as,bs,rfl,a,b⟩
theorem kR (hE:∀t ti,E.ty t=some ti->Br P t ti) (hf:Dq β G ρ a.tmps) {c:Call} {g:FuncId} {x y:List AB} {as:List AB} (p:o.op=.call c) (ht:target E ρ c=some (.fn (.func g) x y,as)) (r:GY P g) :
  ∃vs:Array Value,(execOp a.eval o).run P w=.ok (.enter g vs) w/\Ae β G as vs.toList:=by
 unfold target at ht;split at ht
 ·rename_i f hc;obtain⟨df,i,ht⟩:=AD ht;split at ht
  ·rename_i M first I
   obtain⟨C,b,ht⟩:=AD ht;cases ht;obtain⟨J,K,hv,l,e⟩:=Ye.1 (DP hf i);refine⟨J.toArray++c.args.map a.eval++K.toArray,?_,?_⟩
   ·unfold execOp;rw[p];have n:=r (J.toArray++c.args.map a.eval++K.toArray) w;simpa[resolve,hc,hv,Deferred.ofValue,invoke]using n
   ·have:=Xc (Xc l (NY hf b)) e;simpa using this
  ·obtain⟨C,b,ht⟩:=AD ht;cases ht
  ·cases ht
 ·rename_i CV m hc;obtain⟨df,i,ht⟩:=AD ht;split at ht
  ·rename_i t v;obtain⟨ti,k,ht⟩:=AD ht;obtain⟨M,s,ht⟩:=AD ht;obtain⟨C,b,ht⟩:=AD ht;cases ht;obtain⟨u,z,AH⟩:=kM.1 (DP hf i);refine⟨#[u]++c.args.map a.eval,?_,?_⟩
   ·unfold execOp;rw[p];have q:=(hE t ti k).AsF m g s u (c.args.map a.eval) w;have n:=r (#[u]++c.args.map a.eval) w;rw[n]at q;have h:(#[Value.iface t u]++c.args.map a.eval).extract 1 (#[Value.iface t u]++c.args.map a.eval).size=c.args.map a.eval:=by
     rw[Array.extract_append];simp
    have j:(#[Value.iface t u]++c.args.map a.eval)[0]? = some (.iface t u):=by
     rw[Array.getElem?_append_left (by simp)];rfl
    simp only[resolve,hc,z];show((Pure.pure ({ target:=.fn (.method m) #[],args := #[Value.iface t u]++c.args.map a.eval }:Deferred):Sem Deferred) >>= fun d=>invoke d.target d.args).run P w=_;simp only[pure_bind];unfold invoke;simp only[j,h];exact q
   ·have:=CE.2 ⟨u,_,rfl,AH,NY hf b⟩;simpa using this
  ·cases ht
 ·cases ht
theorem AlV (hf:Dq β G ρ a.tmps) {c:Call} {l:Nat} {as:List AB} (g:o.op=.call c) (ht:target E ρ c=some (.B2 l,as)) :
  ∃(vs:Array Value) (b:Nat),β.BE l=some b/\execOp a.eval o=Instr.yield b vs/\Ae β G as vs.toList:=by
 unfold target at ht;split at ht
 ·rename_i f hc;obtain⟨df,e,ht⟩:=AD ht;split at ht
  ·obtain⟨j,d,ht⟩:=AD ht;cases ht
  ·rename_i id;obtain⟨j,d,ht⟩:=AD ht;cases ht;obtain⟨b,hb,hv⟩:=Aca.1 (DP hf e);refine⟨c.args.map a.eval,b,hb,?_,by simpa using NY hf d⟩
   unfold execOp;rw[g];simp[resolve,hc,hv,Deferred.ofValue,invoke]
  ·cases ht
 ·obtain⟨df,e,ht⟩:=AD ht;split at ht
  ·obtain⟨ti,h,ht⟩:=AD ht;obtain⟨q,i,ht⟩:=AD ht;obtain⟨j,d,ht⟩:=AD ht;cases ht
  ·cases ht
 ·cases ht
theorem X8 {op:Op} {c:Call} (h:Ks op=some c):op=.call c:=by
 unfold Ks at h;split at h
 ·split at h
  ·cases h;rfl
  ·cases h;rfl
  ·cases h
 ·cases h
mutual
theorem AaD {β β':BB} {G G':Aj}:∀{d i:AB} {v:Value},Ei d=some i->AO β' G' d v->AO β G i v
 | .bool _,_,_,h,AH=>by simp only[Ei,Bc]at h;subst h;unfold AO at AH⊢;exact AH
 | .int _ _,_,_,h,AH=>by simp only[Ei,Bc]at h;subst h;unfold AO at AH⊢;exact AH
 | .str _,_,_,h,AH=>by simp only[Ei,Bc]at h;subst h;unfold AO at AH⊢;exact AH
 | .AR _,_,_,h,AH=>by
  simp only[Ei,Bc]at h;subst h;obtain⟨a,c,⟨e,b⟩,_⟩:=Km.1 AH;exact AbG.2 ⟨a,c,e,b⟩
 | .Ap vs,_,_,h,AH=>by
  simp only[Ei]at h;obtain⟨j,e,h⟩:=AD h;cases h;obtain⟨l,rfl,b⟩:=HU.1 AH;exact HU.2 ⟨l,rfl,Aa9 e b⟩
 | .Bu,_,_,h,_=>by simp[Ei]at h
 | .ptr _ _,_,_,h,_=>by simp[Ei]at h
 | .CO _ _ _ _ _,_,_,h,_=>by simp[Ei]at h
 | .CN _,_,_,h,_=>by simp[Ei]at h
 | .Aq,_,_,h,_=>by simp[Ei]at h
 | .rs _ _,_,_,h,_=>by simp[Ei]at h
 | .CV _ _ _ _ _,_,_,h,_=>by simp[Ei]at h
 | .EG _,_,_,h,_=>by simp[Ei]at h
 | .agg _,_,_,h,_=>by simp[Ei]at h
 | .fn _ _ _,_,_,h,_=>by simp[Ei]at h
 | .A2,_,_,h,_=>by simp[Ei]at h
 | .map _,_,_,h,_=>by simp[Ei]at h
 | .Cv,_,_,h,_=>by simp[Ei]at h
 | .iface _ _,_,_,h,_=>by simp[Ei]at h
 | .Bl,_,_,h,_=>by simp[Ei]at h
 | .iter _,_,_,h,_=>by simp[Ei]at h
 | .B2 _,_,_,h,_=>by simp[Ei]at h
theorem Aa9 {β β':BB} {G G':Aj}:∀{ds e:List AB} {vs:List Value},Nc ds=some e->Ae β' G' ds vs->Ae β G e vs
 | [],_,_,h,AH=>by simp only[Nc,Bc]at h;subst h;rw[CU]at AH⊢;exact AH
 | d::ds,_,_,h,AH=>by
  simp only[Nc]at h;obtain⟨i,b,h⟩:=AD h;obtain⟨e,a,h⟩:=AD h;cases h;obtain⟨v,vs,rfl,k1,k2⟩:=CE.1 AH;exact CE.2 ⟨v,vs,rfl,AaD b k1,Aa9 a k2⟩
end
theorem Al3 (hE:∀t ti,E.ty t=some ti->Br P t ti) {call:Nat->List AB->Option AB} (hp:Kp P E call) (hf:Dq β G ρ a.tmps) (hh:Ax E w0 G0 D w β G h) {c:Call} (A5:o.op=.call c) {r:Out} (j:Ng E call ρ h c=some r) :
  mR P E w0 G0 D ro n o a w β G h nid r:=fun K Q hk=>by
 unfold Ng at j;obtain⟨tg,ht,j⟩:=AD j;split at j
 ·rename_i g x y as;obtain⟨fs,W,j⟩:=AD j;obtain⟨d,M,j⟩:=AD j;obtain⟨a0,hcs⟩:=hp g fs d M;cases l:as.any VI with
  | true =>
   rw[l]at j;simp only[AY]at j;obtain⟨d',a4,j⟩:=AD j;cases j;obtain⟨vs,q,s⟩:=kR (w:=w) hE hf A5 ht a0;obtain⟨G1,m,z,C⟩:=N2 hh (Bm as);obtain⟨J,hid⟩:=jV m (On h _) (fun i t es p u AA c hc=>by obtain⟨_,_,_,_,_,k,_⟩:=hh.obj _ _ AA;exact(k c hc).1) W C s
   have hC:=hcs w β G1 vs hh.inv z.agree J hid;refine⟨fun f _=>trivial,?_⟩;rw[Oper.semAt_eq _ _ _ (by rw[A5];simp),q,Oper.uponIn_enter]
   refine⟨fun U=>by simp[Fg,Fence.wide]at U,YC (Calls.mono hC fun e w' he=>?_)⟩
   obtain⟨v,G',rfl,hb,hg,a2,_,l⟩:=he;have Z:∀b o v,G b o=some v->w'.cell? ⟨b,o,none⟩=some v:=fun b o v U=>by
    have a3:b<w.heap.size:=by
     rcases Nat.lt_or_ge b w.heap.size with h1|h1
     ·exact h1
     ·rw[Mv hh h1 o]at U;cases U
    exact a2 b o v (by rw[hg b a3];exact m.g b o v U)
   obtain⟨I,a1⟩:=hh.grow hb (fun _ _=>rfl) Z;exact hk v w' β G (fun a5 O=>by cases O;exact AaD a4 l) a1 I (Fs.refl _ _ _)
  | false =>
  rw[l]at j;simp only[Ac]at j;cases j;obtain⟨vs,q,s⟩:=kR (w:=w) hE hf A5 ht a0;obtain⟨G1,m,z,C⟩:=N2 hh (Bm as);obtain⟨J,hid⟩:=jV m (On h _) (fun i t es p u AA c hc=>by obtain⟨_,_,_,_,_,k,_⟩:=hh.obj _ _ AA;exact(k c hc).1) W C s
  have hC:=hcs w β G1 vs hh.inv z.agree J hid;refine⟨fun f _=>trivial,?_⟩;rw[Oper.semAt_eq _ _ _ (by rw[A5];simp),q,Oper.uponIn_enter]
  refine⟨fun U=>by simp[Fg,Fence.wide]at U,YC (Calls.mono hC fun e w' he=>?_)⟩
  obtain⟨v,G',rfl,hb,hg,a2,_,l⟩:=he;obtain⟨I,a1⟩:=z.grow hb hg a2;refine hk v w' β G' (fun d' O=>by cases O;exact l) (m.trans a1) I (kN _)
 ·cases j
theorem zF (hE:∀t ti,E.ty t=some ti->Br P t ti) {call:Nat->List AB->Option AB} (e:Kp P E call) (hf:Dq β G ρ a.tmps) (hh:Ax E w0 G0 D w β G h) (d:C3 β h nid) {r:Out}
  (b:M8 E call nid ρ h o.op=some r):mR P E w0 G0 D ro n o a w β G h nid r:=by
 unfold M8 at b;split at b
 ·rename_i c hc;exact Al3 hE e hf hh (X8 hc) b
 ·exact(AlI hE hf hh d b).step (AkS b)
end
end Go.Ab
namespace Go.Ab
open Go.RowKit
section
variable {P:Program} {E:Env} {w0:World} {G0:Aj} {D:CW} {w:World} {β:BB} {G:Aj} {h:Nat->Option A8}
def M0 (h:Nat->Option A8) (i:Nat):Bool:=match h i with|some (.row _ _ p _)=>Nat.beq p 1|_=>false
theorem AmW (h:Nat->Option A8) (is:List Nat):DE h (is.filter (M0 h))=[]:=by
 induction is with
 | nil=>rfl
 | cons i is ih =>
  rw[List.filter_cons];cases d:M0 h i with
  | false=>simpa using ih
  | true =>
   simp only[if_true,DE,ih,jp];unfold M0 at d;split at d
   ·rename_i p _ AA;rw[AA];simp only[d,AY]
   ·cases d
theorem AaZ {G':Aj} (a:Ext β G β G') {is:List Nat} (hs:∀i∈is.filter (M0 h),IL E β G' h i) {hv:Nat->Option A8} (c:∀i∈is,∀x,hv i=some x->h i=some x) {d:AB} {v:Value} (f:∀i∈B3 d,i∈is) (AH:AO β G d v):AO β G' (Ia hv d) v:=by
 unfold Ia;split
 ·rename_i id j;split
  ·rename_i es p u b;have e:=c id (f id (by simp[B3])) _ b
   cases l:Nat.beq p 1&&Nat.beq u j with
   | false=>exact AO.mono a _ _ AH
   | true =>
    simp only[Ar]at l;have hf:BP h (.rs id j)=some (.AR es):=by simp[BP,e,l.2]
    refine(R3 a (fun i t es p u AA=>⟨p,AA⟩) hf (fun i AA=>hs i (List.mem_filter.2 ⟨f i AA,?_⟩)) AH).1;have:i=id:=by simpa[B3]using AA
    subst this;unfold M0;rw[e];exact l.1
  ·exact AO.mono a _ _ AH
 ·exact AO.mono a _ _ AH
theorem AaH {G':Aj} (b:Ext β G β G') {is:List Nat} (hs:∀i∈is.filter (M0 h),IL E β G' h i) {hv:Nat->Option A8} (a:∀i∈is,∀x,hv i=some x->h i=some x):∀{ds:List AB} {vs:List Value},(∀i∈Bm ds,i∈is)->Ae β G ds vs->Ae β G' (ds.map (Ia hv)) vs
 | [],vs,_,AH=>by
  rw[CU]at AH;exact CU.2 AH
 | d::ds,vs,l,AH=>by
  obtain⟨v,j,rfl,e,c⟩:=CE.1 AH;exact CE.2 ⟨v,j,rfl,AaZ b hs a (fun i AA=>l i (by simp[Bm,AA])) e,AaH b hs a (fun i AA=>l i (by simp[Bm,AA])) c⟩
theorem An7 {G':Aj} (e:Ext β G β G') {is:List Nat} (hs:∀i∈is.filter (M0 h),IL E β G' h i) {hv:Nat->Option A8} (a:∀i∈is,∀x,hv i=some x->h i=some x) {d:AB} {v:Value} (c:∀i∈B3 d,i∈is) (AH:AO β G d v):AO β G' (G5 hv d) v:=by
 unfold G5;split
 ·rename_i cs;obtain⟨vs,rfl,b⟩:=Hp.1 AH;exact Hp.2 ⟨vs,rfl,AaH e hs a (by simpa[B3]using c) b⟩
 ·exact AaZ e hs a c AH
theorem AaI {G':Aj} (b:Ext β G β G') {is:List Nat} (hs:∀i∈is.filter (M0 h),IL E β G' h i) {hv:Nat->Option A8} (a:∀i∈is,∀x,hv i=some x->h i=some x):∀{ds:List AB} {vs:List Value},(∀i∈Bm ds,i∈is)->Ae β G ds vs->Ae β G' (ds.map (G5 hv)) vs
 | [],vs,_,AH=>by
  rw[CU]at AH;exact CU.2 AH
 | d::ds,vs,l,AH=>by
  obtain⟨v,j,rfl,e,c⟩:=CE.1 AH;exact CE.2 ⟨v,j,rfl,An7 b hs a (fun i AA=>l i (by simp[Bm,AA])) e,AaI b hs a (fun i AA=>l i (by simp[Bm,AA])) c⟩
theorem Ab1 (hh:Ax E w0 G0 D w β G h) {as:List AB} {vs:List Value} (AH:Ae β G as vs) {hv:Nat->Option A8} (a:∀i∈Bm as,∀x,hv i=some x->h i=some x) :
  ∃G',Ext β G β G'/\Ax E w0 G0 D w β G' h/\Ae β G' (as.map (G5 hv)) vs:=by
 obtain⟨G',c,b,d⟩:=N2 hh ((Bm as).filter (M0 h));rw[AmW]at b d;exact⟨G',c,b,AaI c d a (fun i AA=>AA) AH⟩
open Classical in
noncomputable def Jn (D:CW) (w:World) (β:BB) (G:Aj) (h s:Nat->Option A8):CW:=fun b=>match D b with
 | some x=>some x
 | none=>if ∃i x,h i=some x/\s i=none/\Cc β i x b then(w.heap[b]?).map fun d=>(d,G b)else none
theorem Aap {s:Nat->Option A8} (hh:Ax E w0 G0 D w β G h) {i b:Nat} {x:A8} (AA:h i=some x) (hs:s i=none) (a:Cc β i x b) :
  ∃d,w.heap[b]? = some d/\Jn D w β G h s b=some (d,G b):=by
 obtain⟨_,hb,c⟩:=hh.own i x b AA a;refine⟨w.heap[b],by simp[hb],?_⟩
 unfold Jn;rw[c];simp only;rw[if_pos ⟨i,x,AA,hs,a⟩];simp[hb]
theorem AmF {s:Nat->Option A8} {b:Nat} (hn:Jn D w β G h s b=none):D b=none:=by
 unfold Jn at hn;cases d:D b with
 | none=>rfl
 | some x=>rw[d]at hn;cases hn
theorem AnX {s:Nat->Option A8} {b:Nat} {x:Obj×(Nat->Option Value)} (a:D b=some x):Jn D w β G h s b=some x:=by
 unfold Jn;rw[a]
theorem mV {s:Nat->Option A8} (hh:Ax E w0 G0 D w β G h) (hs:∀i x,s i=some x->h i=some x):Ax E w0 G0 (Jn D w β G h s) w β G s:=by
 refine⟨hh.below,hh.g0,hh.agree,fun i o AA=>hh.obj i o (hs i o AA),fun i o b AA g=>?_,fun i j o p b AA l=>hh.inj i j o p b (hs i o AA) (hs j p l),fun d x a=>?_,hh.H0⟩
 ·obtain⟨k1,k2,u⟩:=hh.own i o b (hs i o AA) g;refine⟨k1,k2,?_⟩;unfold Jn;rw[u];simp only;rw[if_neg];rintro⟨j,y,f,c,e⟩;have:=hh.inj i j o y b (hs i o AA) f g e;subst this;rw[AA]at c;cases c
 ·unfold Jn at a;cases q:D d with
  | some y =>
   rw[q]at a;simp only[Bc]at a;subst a;exact hh.marks d y q
  | none =>
   rw[q]at a;simp only at a;split at a
   ·rename_i k;obtain⟨i,y,f,c,e⟩:=k;obtain⟨k1,k2,u⟩:=hh.own i y d f e;simp only[k2,getElem?_pos,As,Bc]at a;subst a;exact⟨k1,by simp[k2],fun _=>rfl⟩
   ·cases a
theorem zV (f:Nat->Option A8):∀(L:List Nat) (id:Nat),DB id (L.map fun i=>(i,f i))=if id∈L then some (f id)else none
 | [],_=>rfl
 | i::L,id=>by
  simp only[DU,DB,zV f L id]
  by_cases e:id∈L
  ·simp[e]
  ·simp only[e,if_false,DK,or_false,Tr.FH]
   by_cases BG:i=id
   ·subst BG;simp
   ·have:¬id=i:=fun q=>BG q.symm;simp[BG,this]
def Rx (o:Tr A8) (R:List Nat) (nx:Nat):List Nat:=R++((o.Hi 1 0).map (·.1)).filter (Nat.ble nx)
theorem AmE {o:Tr A8} {R:List Nat} {nx i:Nat} (AA:i∈Rx o R nx):i∈R\/nx<=i:=by
 unfold Rx at AA;rcases List.mem_append.1 AA with h|h
 ·exact .inl h
 ·exact .inr (DF (List.mem_filter.1 h).2)
theorem YJ (h:Nat->Option A8) (o:Tr A8) (R:List Nat) (nx id:Nat):BY h (Nf o R nx) id=if id∈Rx o R nx then o.get id else h id:=by
 unfold BY Nf;rw[zV o.get];unfold Rx;split<;>rename_i q
 ·split at q
  ·rename_i e;cases q;rw[if_pos e]
  ·cases q
 ·split at q
  ·cases q
  ·rename_i e;rw[if_neg e]
def Ano (E:Env) (w0:World) (G0:Aj) (D:CW) (β:BB) (G:Aj) (h:Nat->Option A8) (nx:Nat) (r:AB) (Ba:List (Nat×Option A8)) (d:Nat) (e:Ending) (w':World):Prop :=
 ∃v β' G',e=.returned v/\nx<=d/\Ext β G β' G'/\(∀id,id<nx->F0 β β' h (BY h Ba) id)/\Ax E w0 G0 D w' β' G' (BY h Ba)/\(∀id,d<=id->C3 β' (BY h Ba) id)/\AO β' G' r v
theorem lV {s:Tr A8} {R:List Nat} {nx:Nat} (hh:Ax E w0 G0 D w β G h) (hs:∀i x,s.get i=some x->h i=some x) (a1:∀i x,s.get i=some x->i∈R) (t:∀id,nx<=id->C3 β h id) {r:AB} {o':Tr A8} {K:Nat} {e:Ending} {w':World}
  (hp:Iz E w0 G0 (Jn D w β G h s.get) β G s nx r o' K e w'):Ano E w0 G0 D β G h nx r (Nf o' R nx) K e w':=by
 obtain⟨v,β',G',rfl,a2,n,c,a0,hv⟩:=hp;have g:∀i x,BY h (Nf o' R nx) i=some x->(i∈Rx o' R nx/\o'.get i=some x)\/(h i=some x/\s.get i=none/\i<nx):=fun i x AA=>by
  rw[YJ]at AA
  by_cases e:i∈Rx o' R nx
  ·rw[if_pos e]at AA;exact .inl ⟨e,AA⟩
  ·rw[if_neg e]at AA;refine .inr ⟨AA,?_,?_⟩
   ·cases U:s.get i with
    | none=>rfl
    | some y=>exact absurd (List.mem_append_left _ (a1 i y U)) e
   ·rcases Nat.lt_or_ge i nx with q|q
    ·exact q
    ·rw[(t i q).h]at AA;cases AA
 have a:∀i,s.get i=none->i<nx->o'.get i=none/\β'.BE i=β.BE i/\∀u,β'.Am i u=β.Am i u:=fun i AA m=>n.Cs i m AA;have k:∀i x b,h i=some x->s.get i=none->i<nx->Cc β' i x b->∃J,w.heap[b]? = some J/\Jn D w β G h s.get b=some (J,G b):=fun i x b AA hn m hb=>by
  obtain⟨_,k2,C⟩:=a i hn m;exact Aap hh AA hn ((J9 k2 C x b).1 hb)
 refine⟨v,β',G',rfl,a2,n.ext,fun id p hn=>?_,⟨c.below,c.g0,c.agree,fun i x AA=>?_,fun i x b AA hb=>?_,fun i j x y b AA hj hb hc=>?_,fun d x hd=>c.marks d x (AnX hd),hh.H0⟩,fun id p=>?_,hv⟩
 ·have z:s.get id=none:=by
   cases U:s.get id with
   | none=>rfl
   | some y=>rw[hs id y U]at hn;cases hn
  obtain⟨k1,k2,C⟩:=a id z p;refine⟨?_,k2,C⟩;rw[YJ];split
  ·exact k1
  ·exact hn
 ·rcases g i x AA with⟨_,f⟩|⟨f,l,o⟩
  ·exact c.obj i x f
  ·obtain⟨_,k2,C⟩:=a i l o;refine FL.Cs n.ext C (fun b hb=>?_) (hh.obj i x f);obtain⟨J,O,I⟩:=Aap (D:=D) hh f l hb;obtain⟨_,Q,m4⟩:=c.marks b _ I;exact⟨Q.trans O.symm,m4⟩
 ·rcases g i x AA with⟨_,f⟩|⟨f,l,o⟩
  ·obtain⟨k1,k2,C⟩:=c.own i x b f hb;exact⟨k1,k2,AmF C⟩
  ·obtain⟨_,k2,C⟩:=a i l o;obtain⟨O,_,Q⟩:=hh.own i x b f ((J9 k2 C x b).1 hb);obtain⟨J,_,Z⟩:=k i x b f l o hb;exact⟨O,(Gv.1 (c.marks b _ Z).2.1).1,Q⟩
 ·rcases g i x AA with⟨_,f⟩|⟨f,l,o⟩<;>rcases g j y hj with⟨_,M⟩|⟨M,W,g3⟩
  ·exact c.inj i j x y b f M hb hc
  ·obtain⟨J,_,I⟩:=k j y b M W g3 hc;rw[(c.own i x b f hb).2.2]at I;cases I
  ·obtain⟨J,_,I⟩:=k i x b f l o hb;rw[(c.own j y b M hc).2.2]at I;cases I
  ·obtain⟨_,k2,C⟩:=a i l o;obtain⟨_,k4,k5⟩:=a j W g3;exact hh.inj i j x y b f M ((J9 k2 C x b).1 hb) ((J9 k4 k5 y b).1 hc)
 ·have hf:=a0 id p;refine⟨hf.BE,hf.Am,?_⟩;rw[YJ];split
  ·exact hf.h
  ·exact(t id (by omega)).h
theorem Oo (h:Nat->Option A8):∀(R:List Nat) (i:Nat),(Hv h R).get i=if i∈R then h i else none
 | [],_=>rfl
 | j::R,i=>by
  simp only[Hv,Tr.Cj,Oo h R]
  by_cases e:i=j
  ·subst e;simp
  ·simp[e]
theorem AlA {callH callY:D5} (hv:Nat->Option A8) (nx:Nat) (e:AB×List AB) (out:Out) (T:List Nat) (d:Nat) (a:I1 callH callY hv nx e=some (out,T,d)):nx<=d:=by
 unfold I1 at a;split at a
 ·unfold Ld at a;obtain⟨x,_,a⟩:=AD a;obtain⟨b,a⟩:=Ad a;cases a;exact DF b
 ·unfold Ld at a;obtain⟨x,_,a⟩:=AD a;obtain⟨b,a⟩:=Ad a;cases a;exact DF b
 ·cases a
theorem yI (hE:∀t ti,E.ty t=some ti->Br P t ti) {callH callY:D5} (hH:HW P E callH) (hY:J7 P E callY) {o:Oper} {a:Act} {ro:Option Nat} {n:Nat} {ρ:Nat->Option AB} (hf:Dq β G ρ a.tmps) {c:Call} (A5:Ks o.op=some c) {a6:AB×List AB}
  (ht:target E ρ c=some a6) (hh:Ax E w0 G0 D w β G h) {hv:Nat->Option A8} {nx C:Nat} {out:Out} {T:List Nat} (j:I1 callH callY hv nx a6=some (out,T,C)) (W:∀i∈T,∀x,hv i=some x->h i=some x) (k:∀id,nx<=id->C3 β h id)
  {K:Act->World->Prop} {Q:Exit->Act->World->Prop}
  (hk:∀v w' β' G',(∀d,out.val=some d->AO β' G' d v)->nx<=C->Ext β G β' G'->(∀id,id<nx->F0 β β' h (BY h out.Ba) id)->Ax E w0 G0 D w' β' G' (BY h out.Ba)->(∀id,C<=id->C3 β' (BY h out.Ba) id)->K (a.put o.dst v) w'):o.wpIn (Fg ro) n P a w K Q:=by
 have a1:=X8 A5;have a2:∀{R:List Nat},(∀i∈R,i∈T)->(∀i x,(Hv hv R).get i=some x->h i=some x)/\(∀i x,(Hv hv R).get i=some x->i∈R):=fun {R} a7=>by
  refine⟨fun i x AA=>?_,fun i x AA=>?_⟩
  ·rw[Oo]at AA;split at AA
   ·rename_i hm;exact W i (a7 i hm) x AA
   ·cases AA
  ·rw[Oo]at AA;split at AA
   ·rename_i hm;exact hm
   ·cases AA
 unfold I1 at j;split at j
 ·rename_i g x y as;unfold Ld at j;obtain⟨⟨r,o',a8⟩,hc,j⟩:=AD j;obtain⟨_,j⟩:=Ad j;cases j;obtain⟨a5,hcs⟩:=hH _ _ _ _ _ _ _ hc;obtain⟨vs,u,z⟩:=kR (w:=w) hE hf a1 ht a5;obtain⟨G1,J,s,p⟩:=Ab1 hh z (hv:=hv) (fun i AA x I=>W i (List.mem_append_left _ AA) x I);obtain⟨hs,M⟩:=a2 (R:=reach hv 4096 (EP (as.map (G5 hv))) []) (fun i AA=>List.mem_append_right _ AA);refine⟨fun f _=>trivial,?_⟩;rw[Oper.semAt_eq _ _ _ (by rw[a1];simp),u,Oper.uponIn_enter]
  have q:∀id,nx<=id->C3 β (Hv hv (reach hv 4096 (EP (as.map (G5 hv))) [])).get id:=fun id m=>⟨(k id m).BE,(k id m).Am,by
   cases hq:(Hv hv (reach hv 4096 (EP (as.map (G5 hv))) [])).get id with
   | none=>rfl
   | some y=>have:=hs id y hq;rw[(k id m).h]at this;cases this⟩
  refine⟨fun hq=>by simp[Fg,Fence.wide]at hq,YC (Calls.mono (hcs w0 G0 _ w β G1 vs (mV s hs) q p) fun e w' he=>?_)⟩
  obtain⟨v,β',G',rfl,O,I,Z,a4,U,a3⟩:=lV s hs M k he;exact hk v w' β' G' (fun d j=>by cases j;exact a3) O (J.trans I) Z a4 U
 ·rename_i l as;unfold Ld at j;obtain⟨⟨r,o',a8⟩,hc,j⟩:=AD j;obtain⟨_,j⟩:=Ad j;cases j;obtain⟨vs,b,hb,u,z⟩:=AlV hf a1 ht;obtain⟨G1,J,s,p⟩:=Ab1 hh z (hv:=hv) (fun i AA x I=>W i (List.mem_append_left _ AA) x I);obtain⟨hs,M⟩:=a2 (R:=reach hv 4096 (l::EP (as.map (G5 hv))) []) (fun i AA=>List.mem_append_right _ AA);have q:∀id,nx<=id->C3 β (Hv hv (reach hv 4096 (l::EP (as.map (G5 hv))) [])).get id:=fun id m=>⟨(k id m).BE,(k id m).Am,by
   cases hq:(Hv hv (reach hv 4096 (l::EP (as.map (G5 hv))) [])).get id with
   | none=>rfl
   | some y=>have:=hs id y hq;rw[(k id m).h]at this;cases this⟩
  obtain⟨lf,CP,a9,bo,hy,a0⟩:=hY _ _ _ _ _ _ _ hc w0 G0 _ w β G1 vs b hb (mV s hs) q p;refine⟨fun f _=>trivial,?_⟩;rw[Oper.semAt_eq _ _ _ (by rw[a1];simp),u,hy,Oper.uponIn_round]
  refine⟨fun hq=>by simp[Fg,Fence.wide]at hq,Ane (RoundIn.mono (a0 _) fun e w' he=>?_)⟩
  obtain⟨v,β',G',rfl,O,I,Z,a4,U,a3⟩:=lV s hs M k he;exact hk v w' β' G' (fun d j=>by cases j;exact a3) O (J.trans I) Z a4 U
 ·cases j
end
end Go.Ab
namespace Go.Ab
open Go.RowKit
section
variable {P:Program} {E:Env} {w0:World} {G0:Aj} {outer:CW} {own:List Nat} {V AU:Nat} {o:Oper} {a:Act} {w:World} {β:BB} {G:Aj} {ro:Option Nat} {n:Nat}
theorem RU (V AU:Nat) (m:Dr) (dst:Option Tmp) (v:Option AB):(m.put V AU dst v).AM=m.AM/\(m.put V AU dst v).next=m.next:=by
 unfold Dr.put;cases dst with
 | none=>exact⟨rfl,rfl⟩
 | some d =>
  simp only;cases(!Nat.blt d AU)with
  | true=>exact⟨rfl,rfl⟩
  | false=>cases Nat.testBit V d<;>exact⟨rfl,rfl⟩
theorem AbU (V AU:Nat) (m:Dr) (dst:Option Tmp) (v:Option AB) (t:Nat) :
  EN V (m.put V AU dst v).base (m.put V AU dst v).loc t=if dst=some t/\t<AU then v else EN V m.base m.loc t:=by
 unfold Dr.put;cases dst with
 | none=>simp
 | some d =>
  simp only[Tr.FT]
  by_cases hl:d<AU
  ·simp only[hl,decide_true,Bool.not_true,Ac];cases hv:Nat.testBit V d with
   | true =>
    simp only[AY];unfold EN
    by_cases e:d=t
    ·subst e;simp[hv,hl,Tr.Cj]
    ·have:¬t=d:=fun h=>e h.symm;simp[e,Tr.Cj,this]
   | false =>
    simp only[Ac];unfold EN
    by_cases e:d=t
    ·subst e;simp[hv,hl,Loc.find]
    ·simp[e,Loc.find,Tr.FH]
  ·simp only[hl,decide_false,Bool.not_false,AY]
   by_cases e:d=t
   ·subst e;simp[hl]
   ·simp[e]
theorem Acq (V AU:Nat) (m:Dr) (dst:Option Tmp) (v:Option AB) (h:∀t d,m.base.get t=some d->Nat.testBit V t=true) :
  ∀t d,(m.put V AU dst v).base.get t=some d->Nat.testBit V t=true:=by
 unfold Dr.put;cases dst with
 | none=>exact h
 | some d =>
  simp only;cases(!Nat.blt d AU)with
  | true=>exact h
  | false =>
   cases hv:Nat.testBit V d with
   | true =>
    intro t i ht;simp only[Ac,AY,Tr.Cj]at ht
    by_cases e:t=d
    ·rw[e];exact hv
    ·rw[if_neg e]at ht;exact h t i ht
   | false=>exact h
abbrev Ge (E:Env) (w0:World) (G0:Aj) (outer:CW) (V AU:Nat) (own:List Nat) (m:Dr) (a:Act) (w:World) (β:BB) (G:Aj):Prop :=
 r8 E w0 G0 outer V AU own (EN V m.base m.loc) m.base m.AM.get m.next a w β G
theorem Ac8 {ρ ρ':Nat->Option AB} {β':BB} {G':Aj} (j:Ext β G β' G') (b:a.tmps.size=AU) (hf:Dq β G ρ a.tmps) {dst:Option Tmp} {val:Option AB} {v:Value} (hv:∀d,val=some d->AO β' G' d v)
  (hs:∀t d,ρ' t=some d->(dst=some t/\t<AU/\val=some d)\/(¬(dst=some t/\t<AU)/\ρ t=some d)):Dq β' G' ρ' (a.put dst v).tmps:=fun t d ht=>by
 rcases hs t d ht with⟨rfl,hl,c⟩|⟨hn,c⟩
 ·refine⟨v,?_,hv d c⟩;simp[Act.put,b,hl]
 ·obtain⟨u,i,AH⟩:=hf t d c;refine⟨u,?_,AO.mono j d u AH⟩;cases dst with
  | none=>exact i
  | some e =>
   have f:t<AU:=by rw[<-b];exact(Gv.1 i).1
   have g:e≠t:=fun h=>hn ⟨by rw[h],f⟩
   simp only[Act.put];rw[Array.getElem?_setIfInBounds_ne g];exact i
theorem Abt (dst:Option Tmp) (v:Value):(a.put dst v).tmps.size=a.tmps.size/\(a.put dst v).defers=a.defers:=by
 cases dst<;>simp[Act.put]
theorem Ge.put {m:Dr} (b:Ge E w0 G0 outer V AU own m a w β G) {AM:Tr A8} {nx:Nat} {dst:Option Tmp} {val:Option AB} {v:Value} {w':World} {β':BB} {G':Aj} (i:Ext β G β' G')
  (hv:∀d,val=some d->AO β' G' d v) (hh:Ax E w0 G0 (FD own outer) w' β' G' AM.get) (hf:∀id,nx<=id->C3 β' AM.get id) :
  Ge E w0 G0 outer V AU own (({ m with AM:=AM,next:=nx }:Dr).put V AU dst val) (a.put dst v) w' β' G':=by
 obtain⟨f,g⟩:=RU V AU ({ m with AM:=AM,next:=nx }:Dr) dst val
 obtain⟨h,j⟩:=Abt (a:=a) dst v;refine⟨Ac8 i b.EI b.B0 hv fun t d ht=>?_,Acq V AU _ dst val b.GS,h.trans b.EI,by rw[f];exact hh,fun id c=>?_,⟨by rw[j];exact b.df.1,b.df.2⟩⟩
 ·rw[AbU]at ht
  by_cases e:dst=some t/\t<AU
  ·rw[if_pos e]at ht;exact .inl ⟨e.1,e.2,ht⟩
  ·rw[if_neg e]at ht;exact .inr ⟨e,ht⟩
 ·rw[f];rw[g]at c;exact hf id c
theorem Xe {ops:Array Oper} {ρ:Nat->Option AB} (hf:Dq β G ρ a.tmps) {l:Bool} (h:KF ops ρ o=some l):Region.wanted o (yielded ops a.tmps)=l:=by
 unfold KF at h;unfold Region.wanted;cases q:o.guard with
 | none=>rw[q]at h;simp only[Bc]at h;exact h
 | some g =>
  obtain⟨j,z⟩:=g;rw[q]at h;simp only at h⊢;unfold yielded;cases u:(ops[j]?).bind (·.dst)with
  | none=>rw[u]at h;cases h
  | some t =>
   rw[u]at h;simp only at h;cases AH:ρ t with
   | none=>rw[AH]at h;cases h
   | some d =>
    rw[AH]at h;obtain⟨v,i,e⟩:=hf t d AH;simp only[AX,i];cases d with
    | bool b =>
     rw[Es]at e;subst e;simp only[Bc]at h;rw[<-h];cases b<;>cases z<;>rfl
    | _ =>
     have f:l=false:=by simpa using h.symm
     subst f;unfold AO at e
     first
     | (subst e;rfl)
     | (obtain⟨b,_,rfl⟩:=e;rfl)
     | (obtain⟨b,n,c,_,rfl⟩:=e;rfl)
     | (obtain⟨_,b,o,rfl,_⟩:=e;rfl)
     | (obtain⟨a,c,⟨rfl,_⟩,_⟩:=e;rfl)
     | (obtain⟨_,a,n,c,rfl⟩:=e;rfl)
     | (obtain⟨_,_,rfl,_,_⟩:=e;rfl)
     | (obtain⟨_,_,_,_,_,_,rfl,_⟩:=e;rfl)
     | (obtain⟨_,_,rfl,_⟩:=e;rfl)
     | (obtain⟨_,rfl,_⟩:=e;rfl)
theorem Aaw {call:Nat->List AB->Option AB} {nid:Nat} {ρ:Nat->Option AB} {h:Nat->Option A8} {op:Op} {r:Out} (b:Jk E call nid ρ h op=some (some r)):M8 E call nid ρ h op=some r:=by
 unfold Jk at b;unfold M8;split at b
 ·rename_i hc;obtain⟨r',d,a⟩:=AD b;cases a;rw[hc];exact d
 ·rename_i c hc;obtain⟨i,d,a⟩:=AD b;rw[hc];cases j:P8 E i with
  | true =>
   rw[j]at a;obtain⟨r',f,e⟩:=AD a;cases e;exact f
  | false=>rw[j]at a;cases a
theorem Al5 {df:Bool} {ρ:Nat->Option AB} {op:Op} (a:R6 E df ρ op=true):∃c f g i,op=.defer c/\df=true/\c.args = #[]/\c.callee=.value f/\CA ρ f=some (.fn (.func g) [] i)/\E.OB g=true:=by
 unfold R6 at a;split at a
 ·rename_i c;simp only[Ar]at a;obtain⟨⟨e,d⟩,b⟩:=a;split at b
  ·rename_i f hf;split at b
   ·rename_i g i h;exact⟨c,f,g,i,rfl,e,by simpa using d,hf,h,b⟩
   ·cases b
  ·cases b
 ·cases a
theorem UQ (hE:∀t ti,E.ty t=some ti->Br P t ti) {df:Bool} (s:df=true->ro=none) {call:Nat->List AB->Option AB} (hp:Kp P E call) {callH callY:D5} (hH:HW P E callH) (hY:J7 P E callY) {ops:Array Oper} {b:Nat} {Q:Exit->Act->World->Prop} :
  ∀(os:List Oper) (k:Nat) (m M:Dr) (a:Act) (w:World) (β:BB) (G:Aj),IM E df call callH callY V AU ops b k os m=some M->b+k+os.length<=m.next →
   (∀j,k<=j->j<k+os.length->C3 β m.AM.get (b+j))->Ge E w0 G0 outer V AU own m a w β G →
   (∀U w' β' G',m.next<=M.next->Ge E w0 G0 outer V AU own M U w' β' G'->D6 b β G β' G' m.AM.get M.AM.get->Q .normal U w')->wpListIn (Fg ro) n P ops Q os a w
 | [],k,m,M,a,w,β,G,e,_,_,C,hq=>by
  simp only[IM,Bc]at e;subst e;exact hq a w β G (Nat.le_refl _) C (D6.refl _ _ _ _)
 | o::os,k,m,M,a,w,β,G,e,b8,K,C,hq=>by
  simp only[IM]at e;obtain⟨a6,hw,e⟩:=AD e;have b9:=Xe C.B0 hw;simp only[List.length_cons]at b8 K;simp only[wpListIn];rw[b9];cases a6 with
  | false =>
   simp only[Ac]at e;simp only[CI,if_false];obtain⟨u,q⟩:=RU V AU m o.dst (some (.Ap []));have l:Ge E w0 G0 outer V AU own (m.put V AU o.dst (some (.Ap []))) (a.put o.dst undef) w β G :=
    Ge.put (AM:=m.AM) (nx:=m.next) C (Ext.refl β G) (fun d e=>by cases e;exact UO) C.AH C.fresh
   refine⟨fun f _=>trivial,UQ hE s hp hH hY os (k+1) _ M _ w β G e (by rw[q];omega) (fun j hj hl=>by rw[u];exact K j (by omega) (by omega)) l fun U w' β' G' hn I J=>?_⟩
   exact hq U w' β' G' (by rw[q]at hn;exact hn) I (by rw[u]at J;exact J)
  | true =>
   simp only[AY]at e;simp only[if_true];cases Z:R6 E df (EN V m.base m.loc) o.op with
   | true =>
    rw[Z]at e;simp only[AY]at e;obtain⟨c,f,g,c7,A5,b7,z,a3,c0,hg⟩:=Al5 Z;have a9:(Fg ro).round=none:=s b7;obtain⟨as,cs,b5,a7,_⟩:=Ye.1 (DP C.B0 c0);rw[CU]at a7;subst a7;have a4:(o.semAt (Fg ro).round a.eval).run P w=.ok (.defer { target:=.fn (.func g) cs.toArray,args := #[] }) w:=by
     rw[a9,Oper.semAt_none];unfold execOp;rw[A5];simp[resolve,a3,z,b5,Deferred.ofValue]
    refine⟨fun f _=>trivial,?_⟩;rw[a4,Oper.uponIn_defer];obtain⟨u,q⟩:=RU V AU m o.dst (some (.Ap []));have c6:Ge E w0 G0 outer V AU own m { a with defers:={ target:=.fn (.func g) cs.toArray,args := #[] }::a.defers } w β G:=⟨C.B0,C.GS,C.EI,C.AH,C.fresh,⟨.fn _ hg C.df.1,C.df.2⟩⟩
    have l:Ge E w0 G0 outer V AU own (m.put V AU o.dst (some (.Ap []))) (({ a with defers:={ target:=.fn (.func g) cs.toArray,args := #[] }::a.defers }:Act).put o.dst undef) w β G :=
     Ge.put (AM:=m.AM) (nx:=m.next) c6 (Ext.refl β G) (fun d e=>by cases e;exact UO) C.AH C.fresh
    refine UQ hE s hp hH hY os (k+1) _ M _ w β G e (by rw[q];omega) (fun j hj hl=>by rw[u];exact K j (by omega) (by omega)) l fun U w' β' G' hn I J=>?_
    exact hq U w' β' G' (by rw[q]at hn;exact hn) I (by rw[u]at J;exact J)
   | false =>
   rw[Z]at e;simp only[Ac]at e;obtain⟨so,b2,e⟩:=AD e;cases so with
   | some r =>
    have AH:=Aaw b2;refine zF hE hp C.B0 C.AH (K k (Nat.le_refl _) (by omega)) AH _ _ fun v w' β' G' hv hx hh a2=>?_
    obtain⟨u,q⟩:=RU V AU ({ m with AM:=E9 m.AM r.Ba }:Dr) o.dst r.val
    have i:∀id,(E9 m.AM r.Ba).get id=BY m.AM.get r.Ba id:=UG _ _;have x:∀id,id≠b+k->F0 β β' m.AM.get (E9 m.AM r.Ba).get id:=fun id p hf=>by
     obtain⟨BI,BD,B9⟩:=a2 id p hf;exact⟨by rw[i];exact BI,BD,B9⟩
    have l:Ge E w0 G0 outer V AU own (({ m with AM:=E9 m.AM r.Ba }:Dr).put V AU o.dst r.val) (a.put o.dst v) w' β' G' :=
     Ge.put (AM:=E9 m.AM r.Ba) (nx:=m.next) C hx hv (hh.eq i) (fun id p=>(x id (by omega)).fresh (C.fresh id p))
    refine UQ hE s hp hH hY os (k+1) _ M _ w' β' G' e (by rw[q];show b+(k+1)+os.length<=m.next;omega) (fun j hj hl=>by rw[u];exact(x _ (by omega)).fresh (K j (by omega) (by omega))) l fun U W a0 a1 hn I J=>?_
    refine hq U W a0 a1 (by rw[q]at hn;exact hn) I (D6.trans ⟨hx,fun id AA=>?_⟩ J)
    rw[u];exact x id (by omega)
   | none =>
    obtain⟨BU,b1,e⟩:=AD e;obtain⟨c8,b3,e⟩:=AD e;obtain⟨⟨out,T,O⟩,b6,e⟩:=AD e;refine yI hE hH hY C.B0 b1 b3 C.AH b6 (fun _ _ _ h=>h) C.fresh fun v w' β' G' hv a5 hx a2 hh b4=>?_;obtain⟨u,q⟩:=RU V AU ({ m with AM:=E9 m.AM out.Ba,next:=O }:Dr) o.dst out.val
    have i:∀id,(E9 m.AM out.Ba).get id=BY m.AM.get out.Ba id:=UG _ _;have y:∀id,id<m.next->F0 β β' m.AM.get (E9 m.AM out.Ba).get id:=fun id p hf=>by
     obtain⟨BI,BD,B9⟩:=a2 id p hf;exact⟨by rw[i];exact BI,BD,B9⟩
    have l:Ge E w0 G0 outer V AU own (({ m with AM:=E9 m.AM out.Ba,next:=O }:Dr).put V AU o.dst out.val) (a.put o.dst v) w' β' G' :=
     Ge.put (AM:=E9 m.AM out.Ba) (nx:=O) C hx hv (hh.eq i) (fun id p=>by
      have:=b4 id p;exact⟨this.BE,this.Am,by rw[i];exact this.h⟩)
    refine UQ hE s hp hH hY os (k+1) _ M _ w' β' G' e (by rw[q];show b+(k+1)+os.length<=O;omega) (fun j hj hl=>by rw[u];exact(y _ (by omega)).fresh (K j (by omega) (by omega))) l fun b0 W a0 a1 hn I a8=>?_
    refine hq b0 W a0 a1 (by rw[q]at hn;exact Nat.le_trans a5 hn) I (D6.trans ⟨hx,fun id AA=>?_⟩ a8)
    rw[u];exact y id (by omega)
end
end Go.Ab
namespace Go.Ab
open Go.RowKit
structure Ku (n0:Nat) (β β':BB):Prop where
 BE:∀id,id<n0->β'.BE id=β.BE id
 Am:∀id,id<n0->∀u,β'.Am id u=β.Am id u
section bddm
variable {n0:Nat} {β β':BB} {G:Aj}
mutual
theorem AO.JN (e:Ku n0 β β'):∀(d:AB) (v:Value),DC n0 d=true->AO β G d v->AO β' G d v
 | .bool _,_,_,h=>by unfold AO at h⊢;exact h
 | .int _ _,_,_,h=>by unfold AO at h⊢;exact h
 | .str _,_,_,h=>by unfold AO at h⊢;exact h
 | .Bu,_,_,h=>by unfold AO at h⊢;exact h
 | .ptr i _,_,hb,h=>by
  simp only[DC,Tr.FT,Ew]at hb;unfold AO at h⊢;rw[e.BE i hb];exact h
 | .CO i _ _ _ _,_,hb,h=>by
  simp only[DC,Tr.FT,Ew]at hb;unfold AO at h⊢;rw[e.Am i hb];exact h
 | .CN cs,_,_,h=>by
  unfold AO at h⊢;obtain⟨k,b,o,g,f⟩:=h;exact⟨k,b,o,g,D7.free cs b o k f⟩
 | .Aq,_,_,h=>by unfold AO at h⊢;exact h
 | .AR es,v,_,h=>AO.free _ v rfl h
 | .rs i _,_,hb,h=>by
  simp only[DC,Tr.FT,Ew]at hb;unfold AO at h⊢;rw[e.Am i hb];exact h
 | .CV i _ _ _ _,_,hb,h=>by
  simp only[DC,Tr.FT,Ew]at hb;unfold AO at h⊢;rw[e.Am i hb];exact h
 | .EG _,_,_,h=>by unfold AO at h⊢;exact h
 | .agg cs,_,hb,h=>by unfold AO at h⊢;obtain⟨vs,g,f⟩:=h;exact⟨vs,g,Ae.JN e cs vs (by simpa[DC]using hb) f⟩
 | .Ap cs,_,hb,h=>by unfold AO at h⊢;obtain⟨vs,g,f⟩:=h;exact⟨vs,g,Ae.JN e cs vs (by simpa[DC]using hb) f⟩
 | .fn _ a c,_,hb,h=>by
  unfold AO at h⊢;obtain⟨as,cs,g,f,l⟩:=h;have j:FM n0 a=true/\FM n0 c=true:=by simpa[DC]using hb
  exact⟨as,cs,g,Ae.JN e a as j.1 f,Ae.JN e c cs j.2 l⟩
 | .A2,_,_,h=>by unfold AO at h⊢;exact h
 | .map i,_,hb,h=>by
  simp only[DC,Tr.FT,Ew]at hb;unfold AO at h⊢;rw[e.BE i hb];exact h
 | .Cv,_,_,h=>by unfold AO at h⊢;exact h
 | .iface _ d,_,hb,h=>by unfold AO at h⊢;obtain⟨u,g,f⟩:=h;exact⟨u,g,AO.JN e d u (by simpa[DC]using hb) f⟩
 | .Bl,_,_,h=>by unfold AO at h⊢;exact h
 | .iter i,_,hb,h=>by
  simp only[DC,Tr.FT,Ew]at hb;unfold AO at h⊢;rw[e.BE i hb];exact h
 | .B2 i,_,hb,h=>by
  simp only[DC,Tr.FT,Ew]at hb;unfold AO at h⊢;rw[e.BE i hb];exact h
theorem Ae.JN (b:Ku n0 β β'):∀(ds:List AB) (vs:List Value),FM n0 ds=true->Ae β G ds vs->Ae β' G ds vs
 | [],_,_,h=>by unfold Ae at h⊢;exact h
 | d::ds,_,hb,h=>by
  unfold Ae at h⊢;have a:DC n0 d=true/\FM n0 ds=true:=by simpa[FM]using hb
  obtain⟨v,i,e,c,f⟩:=h;exact⟨v,i,e,AO.JN b d v a.1 c,Ae.JN b ds i a.2 f⟩
end
end bddm
theorem iU {id v:Nat}:∀{L:List (Option (Nat×Nat))} {d j:Nat},Lh id v d L=some j->d<=j/\L[j-d]? = some (some (id,v))
 | [],_,_,h=>by cases h
 | none::L,d,j,h=>by
  simp only[Lh]at h;obtain⟨b,a⟩:=iU h;refine⟨by omega,?_⟩
  rw[show j-d=(j-(d+1))+1 by omega];simpa using a
 | some (i,u)::L,d,j,h=>by
  simp only[Lh]at h
  by_cases e:(Nat.beq i id&&Nat.beq u v)=true
  ·rw[e]at h;cases h;simp only[Ar]at e;have AS:i=id:=Al e.1;have BG:u=v:=Al e.2;subst AS BG;exact⟨Nat.le_refl _,by simp⟩
  ·have e':(Nat.beq i id&&Nat.beq u v)=false:=Bool.eq_false_iff.2 e;rw[e']at h;obtain⟨b,a⟩:=iU h;refine⟨by omega,?_⟩
   rw[show j-d=(j-(d+1))+1 by omega];simpa using a
def GP (n0:Nat) (L:List (Option (Nat×Nat))) (β:BB):BB where
 BE i:=if i<n0 then β.BE i else none
 Am i u:=if i<n0 then β.Am i u else if u=0 then(match L[i-n0]? with|some (some (id,v))=>β.Am id v|_=>none)else none
theorem iI (n0:Nat) (L:List (Option (Nat×Nat))) (β:BB):Ku n0 β (GP n0 L β):=⟨fun id h=>by simp[GP,h],fun id h u=>by simp[GP,h]⟩
section
variable {n0:Nat} {L:List (Option (Nat×Nat))} {β:BB} {G:Aj}
theorem AaX {j id v:Nat} (h:L[j]? = some (some (id,v))):(GP n0 L β).Am (n0+j) 0=β.Am id v:=by
 have:¬n0+j<n0:=by omega
 simp[GP,h,this]
theorem HZ {d e:AB} {v:Value} (h:(bif DC n0 d then some d else none)=some e) (AH:AO β G d v):AO (GP n0 L β) G e v/\Ct e=Ct d:=by
 obtain⟨hb,h⟩:=Ad h;cases h;exact⟨AO.JN (iI n0 L β) _ v hb AH,rfl⟩
mutual
theorem l2:∀{d e:AB} {v:Value},Di n0 L d=some e->AO β G d v->AO (GP n0 L β) G e v/\Ct e=Ct d
 | .rs id i,e,v,h,AH=>by
  simp only[Di]at h;cases q:Lh id i 0 L with
  | none =>
   rw[q]at h;obtain⟨hl,h⟩:=Ad h;cases h;simp only[Ar,Tr.FT]at hl;exact⟨AO.JN (iI n0 L β) _ v (by simp only[DC,Tr.FT];exact hl.1) AH,rfl⟩
  | some j =>
   rw[q]at h;cases h;obtain⟨_,a⟩:=iU q;rw[IK]at AH⊢;exact⟨⟨(AaX (by simpa using a)).trans AH.1,AH.2⟩,rfl⟩
 | .agg cs,e,v,h,AH=>by
  simp only[Di]at h;obtain⟨l,b,h⟩:=AD h;cases h;obtain⟨vs,rfl,a⟩:=Hp.1 AH;exact⟨Hp.2 ⟨vs,rfl,(YT b a).1⟩,rfl⟩
 | .Ap cs,e,v,h,AH=>by
  simp only[Di]at h;obtain⟨l,b,h⟩:=AD h;cases h;obtain⟨vs,rfl,a⟩:=HU.1 AH;exact⟨HU.2 ⟨vs,rfl,(YT b a).1⟩,rfl⟩
 | .bool _,e,v,h,AH=>HZ (d:=.bool _) h AH
 | .int _ _,e,v,h,AH=>HZ (d:=.int _ _) h AH
 | .str _,e,v,h,AH=>HZ (d:=.str _) h AH
 | .Bu,e,v,h,AH=>HZ (d:=.Bu) h AH
 | .ptr _ _,e,v,h,AH=>HZ (d:=.ptr _ _) h AH
 | .CO _ _ _ _ _,e,v,h,AH=>HZ (d:=.CO _ _ _ _ _) h AH
 | .CN _,e,v,h,AH=>HZ (d:=.CN _) h AH
 | .Aq,e,v,h,AH=>HZ (d:=.Aq) h AH
 | .AR _,e,v,h,AH=>HZ (d:=.AR _) h AH
 | .CV _ _ _ _ _,e,v,h,AH=>HZ (d:=.CV _ _ _ _ _) h AH
 | .EG _,e,v,h,AH=>HZ (d:=.EG _) h AH
 | .fn _ _ _,e,v,h,AH=>HZ (d:=.fn _ _ _) h AH
 | .A2,e,v,h,AH=>HZ (d:=.A2) h AH
 | .map _,e,v,h,AH=>HZ (d:=.map _) h AH
 | .Cv,e,v,h,AH=>HZ (d:=.Cv) h AH
 | .iface _ _,e,v,h,AH=>HZ (d:=.iface _ _) h AH
 | .Bl,e,v,h,AH=>HZ (d:=.Bl) h AH
 | .iter _,e,v,h,AH=>HZ (d:=.iter _) h AH
 | .B2 _,e,v,h,AH=>HZ (d:=.B2 _) h AH
theorem YT:∀{ds i:List AB} {vs:List Value},Fu n0 L ds=some i->Ae β G ds vs->Ae (GP n0 L β) G i vs/\i.all Ct=ds.all Ct
 | [],i,vs,h,AH=>by simp only[Fu,Bc]at h;subst h;rw[CU]at AH;subst AH;exact⟨CU.2 rfl,rfl⟩
 | d::ds,i,vs,h,AH=>by
  simp only[Fu]at h;obtain⟨c,f,h⟩:=AD h;obtain⟨cs,e,h⟩:=AD h;cases h;obtain⟨v,j,rfl,b,a⟩:=CE.1 AH;obtain⟨k1,k2⟩:=l2 f b;obtain⟨q,l⟩:=YT e a;exact⟨CE.2 ⟨v,j,rfl,k1,q⟩,by simp[k2,l]⟩
end
theorem X5 {o:Tr A8}:∀{L:List (Option (Nat×Nat))} {z:Nat} {no l:Tr A8},L7 o n0 z L no=some l->∀i,
  (l.get i=no.get i/\∀j id v,i=n0+z+j->L[j]? ≠ some (some (id,v)))\/∃j id v e es p,i=n0+z+j/\L[j]? = some (some (id,v))/\o.get id=some (.row e es p v)/\l.get i=some (.row e es p 0)
 | [],z,no,l,h,i=>by simp only[L7,Bc]at h;subst h;exact .inl ⟨rfl,fun j id v _=>by simp⟩
 | none::L,z,no,l,h,i=>by
  simp only[L7]at h;rcases X5 h i with⟨a,b⟩|⟨j,id,v,e,es,p,a,b,d,f⟩
  ·refine .inl ⟨a,fun j id v AA=>?_⟩;cases j with
   | zero=>simp
   | succ j=>simpa using b j id v (by omega)
  ·exact .inr ⟨j+1,id,v,e,es,p,by omega,by simpa using b,d,f⟩
 | some (id,v)::L,z,no,l,h,i=>by
  simp only[L7]at h;split at h
  ·rename_i e es p u g;have c:=(Ad h).1;replace h:=(Ad h).2;have c:u=v:=Al c;subst c;rcases X5 h i with⟨a,b⟩|⟨j,q,C,e',I,J,a,b,d,f⟩
   ·rw[Tr.Cj]at a
    by_cases AA:i=n0+z
    ·rw[if_pos AA]at a;exact .inr ⟨0,id,u,e,es,p,by omega,by simp,g,a⟩
    ·rw[if_neg AA]at a;refine .inl ⟨a,fun j q C k=>?_⟩;cases j with
     | zero=>omega
     | succ j=>simpa using b j q C (by omega)
   ·exact .inr ⟨j+1,q,C,e',I,J,by omega,by simpa using b,d,f⟩
  ·cases h
theorem kC:∀{L:List (Option (Nat×Nat))} {j k id v w:Nat},OA L=true->L[j]? = some (some (id,v))->L[k]? = some (some (id,w))->j=k
 | [],_,_,_,_,_,_,h,_=>by simp at h
 | none::L,j,k,id,v,w,l,d,e=>by
  cases j with
  | zero=>simp at d
  | succ j=>cases k with
   | zero=>simp at e
   | succ k=>exact congrArg (· + 1) (kC (L:=L) (j:=j) (k:=k) (id:=id) (v:=v) (w:=w) (by simpa[OA]using l) (by simpa using d) (by simpa using e))
 | some (i,u)::L,j,k,id,v,w,l,d,e=>by
  simp only[OA,Ar,List.all_eq_true]at l;have a:∀{k x:Nat},L[k]? = some (some (i,x))->False:=fun {k x} q=>by
   have:=l.1 _ (List.mem_of_getElem? q);simp at this
  cases j with
  | zero =>
   have AS:i=id:=by
    have:i=id/\u=v:=by simpa using d
    exact this.1
   subst AS;cases k with
   | zero=>rfl
   | succ k=>exact(a (by simpa using e)).elim
  | succ j =>
   replace d:L[j]? = some (some (id,v)):=by simpa using d
   cases k with
   | zero =>
    have AS:i=id:=by
     have:i=id/\u=w:=by simpa using e
     exact this.1
    subst AS;exact(a d).elim
   | succ k=>rw[kC l.2 d (by simpa using e)]
end
section
variable {P:Program} {E:Env} {w0:World} {G0:Aj} {D:CW} {w:World} {β:BB} {G:Aj} {n0:Nat} {L:List (Option (Nat×Nat))} {base:Nat} {h:Nat->Option A8}
theorem X2:∀{es:List (List AB)},(∀c∈es,B4 c=true)->B4 es.flatten=true
 | [],_=>rfl
 | c::es,h=>by
  have a:∀(xs ys:List AB),B4 xs=true->B4 ys=true->B4 (xs++ys)=true:=fun xs=>by
   induction xs with
   | nil=>intro ys _ h;exact h
   | cons x xs ih =>
    intro ys b d;simp only[B4,Ar,List.cons_append]at b⊢;exact⟨b.1,ih ys b.2 d⟩
  rw[List.flatten_cons];exact a _ _ (h c (by simp)) (X2 fun x e=>h x (by simp[e]))
theorem AlM {k:AB} (h:LG k=true):BW k=true:=by
 cases k with
 | agg cs =>
  simp only[LG,List.all_eq_true]at h;simp only[BW];exact MS.2 fun c hc=>by have:=h c hc;cases c<;>first|rfl|cases this
 | _=>first|rfl|cases h
theorem j9 {β':BB}:∀{es:List (AB×AB)} {i:List MapEntry},Ic β G es i->Ic β' G es i
 | [],_,h=>h
 | (k,v)::es,_,⟨m,d,l,z,u,e,j,q⟩=>⟨m,d,l,AO.free k m.key (AlM e) z,AO.free v m.val j u,e,j,j9 q⟩
theorem Al4 {id:Nat} {x Q:A8} (f:id<n0) (h:KO n0 L x=some Q) (a:FL E base w β G id x):FL E base w (GP n0 L β) G id Q/\∀b,Cc (GP n0 L β) id Q b↔Cc β id x b:=by
 have hb:(GP n0 L β).BE id=β.BE id:=by simp[GP,f]
 have hh:∀u,(GP n0 L β).Am id u=β.Am id u:=fun u=>by simp[GP,f]
 cases x with
 | cells t cs =>
  simp only[KO]at h;obtain⟨a0,g,h⟩:=AD h;cases h;obtain⟨b,vs,k1,k2,C,I,M⟩:=a;obtain⟨m1,Z⟩:=YT (β:=β) g C;exact⟨⟨b,vs,by rw[hb];exact k1,k2,m1,by rw[Z];exact I,M⟩,fun b=>by simp[Cc,hb]⟩
 | row t es p u =>
  cases h;obtain⟨Am,J,k1,k2,C,I,M,O,W⟩:=a;refine⟨⟨Am,J,by rw[hh];exact k1,k2,Ae.free _ _ ?_ C,I,M,O,fun U i=>by rw[hh];exact W U i⟩,fun b=>by simp[Cc,hh]⟩
  exact X2 fun c hc=>(I c hc).2.1
 | map es =>
  cases h;obtain⟨b,ms,K,k1,k2,C,I⟩:=a;exact⟨⟨b,ms,K,by rw[hb];exact k1,k2,j9 C,I⟩,fun b=>by simp[Cc,hb]⟩
 | Dg m n LJ =>
  simp only[KO]at h;obtain⟨j,h⟩:=Ad h;cases h;have j:m<n0:=DF j;obtain⟨b,bm,c0,k1,k2,C⟩:=a;exact⟨⟨b,bm,c0,by rw[hb];exact k1,by simp[GP,j];exact k2,C⟩,fun b=>by simp[Cc,hb]⟩
 | Ea t es u =>
  cases h;obtain⟨fs,q,Am,J,k1,k2,C,I,M,O,W⟩:=a;refine⟨⟨fs,q,Am,J,by rw[hh];exact k1,k2,Ae.free _ _ ?_ C,I,M,O,fun U i=>by rw[hh];exact W U i⟩,fun b=>by simp[Cc,hh]⟩
  exact X2 fun c hc=>(I c hc).2.1
 | Ez s pos =>
  cases h;obtain⟨b,k1,k2⟩:=a;exact⟨⟨b,by rw[hb];exact k1,k2⟩,fun b=>by simp[Cc,hb]⟩
 | loop Bj bs AP as bo Af ex =>
  simp only[KO]at h;obtain⟨a1,g,h⟩:=AD h;cases h;obtain⟨b,tmps,df,fn,F,k1,k2,C,I,M,O⟩:=a;refine⟨⟨b,tmps,df,fn,F,by rw[hb];exact k1,k2,fun t d ht=>?_,I,M,fun t d ht=>?_⟩,fun b=>by simp[Cc,hb]⟩
  ·rcases Tr.S1 g t with⟨_,e⟩|⟨x,y,e,k,l⟩
   ·rw[e]at ht;cases ht
   ·obtain⟨d',z,o⟩:=AD k;cases o;rw[l]at ht;cases ht;obtain⟨v,r,h9⟩:=C t x e;exact⟨v,r,(l2 z h9).1⟩
  ·rcases Tr.S1 g t with⟨_,e⟩|⟨x,y,e,k,l⟩
   ·rw[e]at ht;cases ht
   ·exact O t x e
theorem iW {id:Nat}:∀{L:List (Option (Nat×Nat))},I9 id L=false->∀(j v:Nat),L[j]? ≠ some (some (id,v))
 | [],_,j,v=>by simp
 | none::L,h,j,v=>by
  cases j with
  | zero=>simp
  | succ j=>simpa using iW (L:=L) (by simpa[I9]using h) j v
 | some (i,w)::L,h,j,v=>by
  simp only[I9,Bool.or_eq_false_iff]at h;cases j with
  | zero =>
   intro e;simp only[List.getElem?_cons_zero,Bc,Prod.mk.injEq]at e;rw[e.1,Tr.FH]at h;simp at h
  | succ j=>simpa using iW (L:=L) h.2 j v
theorem Anb (hh:Ax E w0 G0 D w β G h) (hu:OA L=true) {h':Nat->Option A8}
  (hs:∀i C,h' i=some C->((i<n0/\∀(j v:Nat),L[j]? ≠ some (some (i,v)))/\∃x,h i=some x/\KO n0 L x=some C)\/(∃j id v e es p,i=n0+j/\L[j]? = some (some (id,v))/\h id=some (.row e es p v)/\C=.row e es p 0)) :
  Ax E w0 G0 D w (GP n0 L β) G h':=by
 have a:∀i C,h' i=some C->∃k x,h k=some x/\FL E w0.heap.size w (GP n0 L β) G i C/\(∀b,Cc (GP n0 L β) i C b->Cc β k x b)/\(((i<n0/\∀(j v:Nat),L[j]? ≠ some (some (i,v)))/\k=i)\/∃j v,i=n0+j/\L[j]? = some (some (k,v))):=fun i C AA=>by
  rcases hs i C AA with⟨d,x,o,AH⟩|⟨j,id,v,e,es,p,rfl,q,o,rfl⟩
  ·obtain⟨k1,k2⟩:=Al4 d.1 AH (hh.obj i x o);exact⟨i,x,o,k1,fun b hb=>(k2 b).1 hb,.inl ⟨d,rfl⟩⟩
  ·obtain⟨Am,I,k1,k2,O,J,k5,K,k7⟩:=hh.obj id _ o;have f:=AaX (n0:=n0) (β:=β) q;refine⟨id,_,o,⟨Am,I,by rw[f];exact k1,k2,Ae.free _ _ (X2 fun c hc=>(J c hc).2.1) O,J,k5,K,fun W U=>?_⟩,fun b hb=>?_,.inr ⟨j,v,rfl,q⟩⟩
   ·have l:¬n0+j<n0:=by omega
    have s:W≠0:=by omega
    simp[GP,l,s]
   ·obtain⟨m,c,hb⟩:=hb;exact⟨m,c,by rw[<-f];exact hb⟩
 refine⟨hh.below,hh.g0,hh.agree,fun i C AA=>?_,fun i C b AA hb=>?_,fun i Z x y b AA t hb a2=>?_,hh.marks,hh.H0⟩
 ·obtain⟨k,x,_,s,_⟩:=a i C AA;exact s
 ·obtain⟨k,x,l,_,u,_⟩:=a i C AA;exact hh.own k x b l (u b hb)
 ·obtain⟨k,z,l,_,u,Q⟩:=a i x AA;obtain⟨k',z',a0,_,M,r⟩:=a Z y t;have hk:k=k':=hh.inj k k' z z' b l a0 (u b hb) (M b a2);subst hk;rcases Q with⟨d,rfl⟩|⟨j,v,rfl,q⟩<;>rcases r with⟨g,e'⟩|⟨j',v',rfl,n⟩
  ·exact e'
  ·exact absurd n (d.2 _ _)
  ·subst e';exact absurd q (g.2 _ _)
  ·rw[kC hu q n]
theorem Ax.Ai1 (hh:Ax E w0 G0 D w β G h) {β':BB} (c:Ext β G β' G) (hs:∀i o,h i=some o->β'.BE i=β.BE i/\∀u,β'.Am i u=β.Am i u):Ax E w0 G0 D w β' G h:=by
 refine⟨hh.below,hh.g0,hh.agree,fun i o AA=>?_,fun i o b AA hb=>?_,fun i k o p b AA a hb hc=>?_,hh.marks,hh.H0⟩
 ·exact FL.Cs c (hs i o AA).2 (fun _ _=>⟨rfl,fun _=>rfl⟩) (hh.obj i o AA)
 ·exact hh.own i o b AA ((J9 (hs i o AA).1 (hs i o AA).2 o b).1 hb)
 ·exact hh.inj i k o p b AA a ((J9 (hs i o AA).1 (hs i o AA).2 o b).1 hb) ((J9 (hs k p a).1 (hs k p a).2 p b).1 hc)
theorem AbE:∀{cs:List AB} {vs:List Value} {off:Nat} {d:AB} {v:Value},Ae β G cs vs->vs[off]? = some v->AO β G d v->Ae β G (cs.set off d) vs
 | [],_,_,_,_,h,_,_=>h
 | c::cs,_,off,d,v,h,hv,AH=>by
  obtain⟨u,e,rfl,b,a⟩:=CE.1 h;cases off with
  | zero=>simp at hv;subst hv;exact CE.2 ⟨u,e,rfl,AH,a⟩
  | succ off=>exact CE.2 ⟨u,e,rfl,b,AbE a (by simpa using hv) AH⟩
theorem Ac0:∀{cs:List AB} {off:Nat} {d:AB},cs.all Ct=true->Ct d=true->(cs.set off d).all Ct=true
 | [],_,_,h,_=>h
 | c::cs,off,d,h,e=>by
  simp only[EW,Ar]at h;cases off with
  | zero=>simp[e];simpa using h.2
  | succ off=>simp[h.1];simpa using Ac0 (off:=off) h.2 e
theorem X3 (CP:Array Value) (V:Nat):∀(as:List Acc) (j:Nat) (b:Tr AB) (no:Tr A8) (β:BB) (r:Tr AB×Tr A8),GZ E n0 j as (b,no)=some r →
  Ax E w0 G0 D w β G no.get->Dq β G b.get CP->(∀t d,b.get t=some d->Nat.testBit V t=true)->(∀i,n0<=i->no.get i=none->C3 β no.get i)->(∀i,n0+j+as.length<=i->no.get i=none) →
  ∃β',Ext β G β' G/\Ku n0 β β'/\Ax E w0 G0 D w β' G r.2.get/\Dq β' G r.1.get CP/\(∀t d,r.1.get t=some d->Nat.testBit V t=true)/\(∀i,n0+j+as.length<=i->C3 β' r.2.get i) ∧
   ∀i,i<n0->no.get i=none->r.2.get i=none
 | [],j,b,no,β,r,h,hh,hf,Q,K,hn=>by
  simp only[GZ,Bc]at h;subst h;exact⟨β,Ext.refl β G,⟨fun _ _=>rfl,fun _ _ _=>rfl⟩,hh,hf,Q,fun i AA=>K i (by simp at AA;omega) (hn i AA),fun _ _ h=>h⟩
 | ac::as,j,b,no,β,r,h,hh,hf,Q,K,hn=>by
  simp only[List.length_cons]at hn⊢;have J:GZ E n0 (j+1) as (b,no)=some r->∃β',Ext β G β' G/\Ku n0 β β'/\Ax E w0 G0 D w β' G r.2.get/\Dq β' G r.1.get CP/\(∀t d,r.1.get t=some d->Nat.testBit V t=true)/\(∀i,n0+j+(as.length+1)<=i->C3 β' r.2.get i) ∧
   ∀i,i<n0->no.get i=none->r.2.get i=none:=fun h=>by
   obtain⟨β',k1,k2,k3,k4,k5,k6,k7⟩:=X3 CP V as (j+1) b no β r h hh hf Q K (fun i AA=>hn i (by omega))
   exact⟨β',k1,k2,k3,k4,k5,fun i AA=>k6 i (by omega),k7⟩
  have add:∀(b1:Tr AB) (I:Tr A8) (e:TypeId) (M:By),E.ty e=some M->0<M.size->no.get (n0+j)=none->GZ E n0 (j+1) as (b1,I.set (n0+j) (some (.row e [] 0 0)))=some r →
    (∀i,i≠n0+j->(I.get i=none↔no.get i=none)) →
    (∀C,Ext β G C G->Ku n0 β C->(∀i,i≠n0+j->C.BE i=β.BE i/\∀u,C.Am i u=β.Am i u)->C.Am (n0+j) 0=some (.slice none 0 0)->Dq C G b1.get CP/\(∀t d,b1.get t=some d->Nat.testBit V t=true)/\Ax E w0 G0 D w C G (fun i=>if i=n0+j then none else I.get i)) →
    ∃β',Ext β G β' G/\Ku n0 β β'/\Ax E w0 G0 D w β' G r.2.get/\Dq β' G r.1.get CP/\(∀t d,r.1.get t=some d->Nat.testBit V t=true)/\(∀i,n0+j+(as.length+1)<=i->C3 β' r.2.get i) ∧
     ∀i,i<n0->no.get i=none->r.2.get i=none:=fun b1 I e M y U a0 Z s a3=>by
   have n:=K (n0+j) (by omega) a0
   let C:BB:={ β with Am:=fun i u=>if i=n0+j/\u=0 then some (.slice none 0 0)else β.Am i u }
   have k:Ext β G C G:=⟨fun _ _ _ h=>h,fun _ _ h=>h,fun i u v hv=>by
    by_cases AS:i=n0+j/\u=0
    ·rw[AS.1,n.Am]at hv;cases hv
    ·simp only[C,if_neg AS];exact hv⟩
   have f:Ku n0 β C:=⟨fun _ _=>rfl,fun i AA u=>by
    have:¬(i=n0+j/\u=0):=by omega
    simp only[C,if_neg this]⟩
   have a:∀i,i≠n0+j->C.BE i=β.BE i/\∀u,C.Am i u=β.Am i u:=fun i AA=>⟨rfl,fun u=>by simp[C,AA]⟩
   obtain⟨a5,a6,l⟩:=a3 C k f a (by simp[C])
   have a4:Ax E w0 G0 D w C G (I.set (n0+j) (some (.row e [] 0 0))).get:=by
    refine(l.move (fun _=>False) (n0+j) (.row e [] 0 0) (Ext.refl _ _) l.below (fun _ _ _=>rfl) (fun _ _=>rfl) (Nat.le_refl _) (fun _ hf=>hf.elim) (fun _ _ _ hf=>hf.elim) (fun _ hf=>hf.elim) ?_ ?_ ?_ (fun _ _=>⟨rfl,fun _=>rfl⟩)).eq fun i=>?_
    ·refine⟨.slice none 0 0,[],by simp[C],⟨by simp,.inl ⟨rfl,rfl⟩⟩,CU.2 rfl,by simp,⟨by rw[RT y];exact U,Nat.le_refl _⟩,fun b hb=>by simp[Value.ownBlock]at hb,fun u' a9=>?_⟩
     have:¬(u'=0):=by omega
     simp[C,this,n.Am]
    ·rintro x ⟨m,c,hb⟩;simp[C]at hb
    ·rintro x ⟨m,c,hb⟩;simp[C]at hb
    ·rw[EV,Tr.Cj]
     by_cases AS:i=n0+j<;>simp[AS]
   have a2:∀i,n0<=i->(I.set (n0+j) (some (.row e [] 0 0))).get i=none->C3 C (I.set (n0+j) (some (.row e [] 0 0))).get i:=fun i AA g=>by
    have a7:=g;rw[Tr.Cj]at g
    by_cases AS:i=n0+j
    ·rw[if_pos AS]at g;cases g
    ·rw[if_neg AS]at g;have:=K i AA ((s i AS).1 g);exact⟨(a i AS).1.trans this.BE,fun u=>((a i AS).2 u).trans (this.Am u),a7⟩
   have a8:∀i,n0+(j+1)+as.length<=i->(I.set (n0+j) (some (.row e [] 0 0))).get i=none:=fun i AA=>by
    rw[Tr.Cj,if_neg (by omega)]
    exact(s i (by omega)).2 (hn i (by omega))
   obtain⟨β',k1,k2,k3,k4,k5,k6,k7⟩:=X3 CP V as (j+1) b1 _ C r Z a4 a5 a6 a2 a8;refine⟨β',k.trans k1,⟨fun i AA=>(k2.BE i AA).trans (f.BE i AA),fun i AA u=>(k2.Am i AA u).trans (f.Am i AA u)⟩,k3,k4,k5,fun i AA=>k6 i (by omega),fun i AA g=>k7 i AA ?_⟩
   rw[Tr.Cj,if_neg (by omega)];exact(s i (by omega)).2 g
  cases ac with
  | slot t e =>
   simp only[GZ]at h;split at h
   ·rename_i a1;obtain⟨M,y,h⟩:=AD h;obtain⟨g,h⟩:=Ad h;simp only[Ar,Option.isNone_iff_eq_none]at g;refine add _ no e M y (DF g.1) g.2 h (fun _ _=>Iff.rfl) fun C k f a O=>⟨fun t' d ht=>?_,fun t' d ht=>?_,?_⟩
    ·rw[Tr.Cj]at ht
     by_cases AS:t'=t
     ·subst AS;rw[if_pos rfl]at ht;cases ht;obtain⟨v,h1,W⟩:=hf t' _ a1;rw[L1]at W;exact⟨v,h1,IK.2 ⟨by rw[O,W],_,_,_,W⟩⟩
     ·rw[if_neg AS]at ht;obtain⟨v,h1,W⟩:=hf t' d ht;exact⟨v,h1,AO.mono k d v W⟩
    ·rw[Tr.Cj]at ht
     by_cases AS:t'=t
     ·subst AS;exact Q t' _ a1
     ·rw[if_neg AS]at ht;exact Q t' d ht
    ·exact Ax.Ai1 (hh.less fun i o AA=>by
      by_cases AS:i=n0+j
      ·rw[if_pos AS]at AA;cases AA
      ·rw[if_neg AS]at AA;exact AA) k fun i o AA=>by
      by_cases AS:i=n0+j
      ·rw[if_pos AS]at AA;cases AA
      ·exact a i AS
   ·exact J h
  | cell t off e =>
   simp only[GZ]at h;split at h
   ·split at h
    ·split at h
     ·rename_i q a1 _ ct cs p _ hcs;obtain⟨M,y,h⟩:=AD h;obtain⟨g,h⟩:=Ad h;simp only[Ar,Option.isNone_iff_eq_none]at g;have z:q≠n0+j:=fun AS=>by rw[AS,g.2]at p;cases p
      refine add b _ e M y (DF g.1) g.2 h (fun i AA=>?_) fun C k f a O=>⟨hf.mono k,Q,?_⟩
      ·rw[Tr.Cj]
       by_cases AS:i=q
       ·subst AS;simp[p]
       ·rw[if_neg AS]
      ·have l:Ax E w0 G0 D w C G (fun i=>if i=n0+j then none else no.get i):=Ax.Ai1 (hh.less fun i o AA=>by
        by_cases AS:i=n0+j
        ·rw[if_pos AS]at AA;cases AA
        ·rw[if_neg AS]at AA;exact AA) k fun i o AA=>by
        by_cases AS:i=n0+j
        ·rw[if_pos AS]at AA;cases AA
        ·exact a i AS
       obtain⟨bk,vs,m1,m2,m3,m4,m5⟩:=l.obj q (.cells ct cs) (by rw[if_neg z];exact p)
       obtain⟨v,m6,m7⟩:=RV m3 hcs;rw[L1]at m7;subst m7;refine(l.move (fun _=>False) q (.cells ct (cs.set off (.rs (n0+j) 0))) (Ext.refl _ _) l.below (fun _ _ _=>rfl) (fun _ _=>rfl) (Nat.le_refl _) (fun _ hf=>hf.elim) (fun _ _ _ hf=>hf.elim) (fun _ hf=>hf.elim) ?_ ?_ ?_ (fun _ _=>⟨rfl,fun _=>rfl⟩)).eq fun i=>?_
       ·exact⟨bk,vs,m1,m2,AbE m3 m6 (IK.2 ⟨O,_,_,_,rfl⟩),Ac0 m4 rfl,m5⟩
       ·intro x hx;exact .inr ⟨.cells ct cs,by rw[if_neg z];exact p,hx⟩
       ·intro x hx;exact(l.own q (.cells ct cs) x (by rw[if_neg z];exact p) hx).2.1
       ·rw[EV,Tr.Cj]
        by_cases AS:i=q
        ·subst AS;simp[z]
        ·simp[AS]
     ·exact J h
    ·exact J h
   ·exact J h
end
end Go.Ab
namespace Go.Ab
open Go.RowKit
section
variable {P:Program} {E:Env} {w0:World} {G0:Aj} {outer:CW} {own:List Nat} {V AU:Nat} {a:Act} {w:World} {β:BB} {G:Aj} {n0:Nat}
abbrev ER (E:Env) (w0:World) (G0:Aj) (outer:CW) (V AU:Nat) (own:List Nat) (s:BV) (a:Act) (w:World) (β:BB) (G:Aj):Prop :=
 r8 E w0 G0 outer V AU own s.base.get s.base s.AM.get s.next a w β G
theorem Anr {id:Nat} {x:A8} (h:FL E w0.heap.size w β G id x):FL E w0.heap.size w β G id (Kx x):=by
 cases x with
 | row t es p u =>
  obtain⟨Am,d,k1,k2,j,e,l,i,q⟩:=h;exact⟨Am,d,k1,k2,j,e,⟨l.1,PV _ _⟩,fun b hb o a=>i b hb o (Nat.le_trans (Nat.mul_le_mul_right _ (PV _ _)) a),q⟩
 | _=>exact h
theorem j0 {id:Nat} {x:A8} {b:Nat}:Cc β id (Kx x) b↔Cc β id x b:=by cases x<;>exact Iff.rfl
theorem Tr.o5 {α γ:Type} (f:α->γ):∀(t:Tr α) (k:Nat),(t.BL f).get k=(t.get k).map f
 | .leaf,_=>rfl
 | .node l v r,k=>by
  simp only[Tr.BL,Tr.get];cases Nat.beq k 0 with
  | true=>rfl
  | false =>
   simp only[Ac];cases Nat.beq (k % 2) 1 with
   | true=>exact o5 f l _
   | false=>exact o5 f r _
theorem Ax.lift {h:Nat->Option A8} {D:CW} (hh:Ax E w0 G0 D w β G h) {h':Nat->Option A8} (hl:∀i,h' i=(h i).map Kx):Ax E w0 G0 D w β G h':=by
 have key:∀i e,h' i=some e->∃x,h i=some x/\e=Kx x:=fun i e AA=>by
  rw[hl i]at AA;cases l:h i with
  | none=>rw[l]at AA;cases AA
  | some x=>rw[l]at AA;cases AA;exact⟨x,rfl,rfl⟩
 refine⟨hh.below,hh.g0,hh.agree,fun i e AA=>?_,fun i e b AA hb=>?_,fun i j x y b AA d hb hc=>?_,hh.marks,hh.H0⟩
 ·obtain⟨x,a,rfl⟩:=key i e AA;exact Anr (hh.obj i x a)
 ·obtain⟨x,a,rfl⟩:=key i e AA;exact hh.own i x b a (j0.1 hb)
 ·obtain⟨e,a,rfl⟩:=key i x AA;obtain⟨y',c,rfl⟩:=key j y d;exact hh.inj i j e y' b a c (j0.1 hb) (j0.1 hc)
theorem Alq {c:GR} {s U:BV} (hn:Uy E c n0 s=some U) (J:ER E w0 G0 outer V AU own s a w β G) :
  ∃β',ER E w0 G0 outer V AU own U a w β' G/\Ku n0 β β'/\(∀i,i<n0->s.AM.get i=none->U.AM.get i=none)/\n0<=U.next:=by
 unfold Uy at hn;simp only at hn;obtain⟨hu,hn⟩:=Ad hn;obtain⟨b,hb,hn⟩:=AD hn;obtain⟨BN,q,hn⟩:=AD hn;obtain⟨Bs,n,hn⟩:=AD hn;obtain⟨r,AH,hn⟩:=AD hn;cases hn;generalize oH c.Ff n0 (Yl s.AM s.base n0 c.Cs (c.Ff.map (PM s.AM s.base)))=M at hu hb q n AH;generalize I:M.map some++c.Ff.map (PM s.AM s.base)=L at hu hb q n;have W:L.length=M.length+c.Ff.length:=by rw[<-I,List.length_append,List.length_map,List.length_map]
 have g:∀i K,Bs.get i=some K->((i<n0/\∀(j v:Nat),L[j]? ≠ some (some (i,v)))/\∃x,s.AM.get i=some x/\KO n0 L x=some K)\/(∃j id v e es p,i=n0+j/\L[j]? = some (some (id,v))/\s.AM.get id=some (.row e es p v)/\K=.row e es p 0):=fun i K AA=>by
  rcases X5 n i with⟨h,k⟩|⟨j,id,v,e,es,p,h,k,m,f⟩
  ·rw[h]at AA;rcases Tr.S1 q i with⟨_,f⟩|⟨x,y,m,f,Q⟩
   ·rw[f]at AA;cases AA
   ·rw[Q]at AA;cases hl:(Nat.blt i n0 && !I9 i L)with
    | true =>
     rw[hl]at f;simp only[AY]at f;obtain⟨z,Z,h7⟩:=AD f;cases h7;cases AA;simp only[Ar,Bool.not_eq_true',Tr.FT,Ew]at hl;exact .inl ⟨⟨hl.1,iW hl.2⟩,x,m,Z⟩
    | false =>
     rw[hl]at f;simp only[Ac]at f;cases f;cases AA
  ·rw[f]at AA;cases AA;exact .inr ⟨j,id,v,e,es,p,by omega,k,m,rfl⟩
 have a5:=Anb J.AH hu g
 have l:∀t C,b.get t=some C->∃d,s.base.get t=some d/\Di n0 L d=some C:=fun t C ht=>by
  rcases Tr.S1 hb t with⟨_,f⟩|⟨x,y,m,f,Q⟩
  ·rw[f]at ht;cases ht
  ·rw[Q]at ht;subst ht;cases hk:Nat.testBit c.Cs t with
   | true =>
    rw[hk]at f;simp only[AY]at f;obtain⟨z,Z,h7⟩:=AD f;cases h7;exact⟨x,m,Z⟩
   | false =>
    rw[hk]at f;simp only[Ac]at f;cases f
 have a3:Dq (GP n0 L β) G b.get a.tmps:=fun t C ht=>by
  obtain⟨d,h,k⟩:=l t C ht;obtain⟨v,m,f⟩:=J.B0 t d h;exact⟨v,m,(l2 k f).1⟩
 have a4:∀t d,b.get t=some d->Nat.testBit V t=true:=fun t C ht=>by
  obtain⟨d,h,_⟩:=l t C ht;exact J.GS t d h
 have a0:∀i,n0<=i->Bs.get i=none->C3 (GP n0 L β) Bs.get i:=fun i AA o=>by
  have h:¬i<n0:=by omega
  refine⟨by simp[GP,h],fun u=>?_,o⟩
  simp only[GP,h,if_false]
  by_cases O:u=0
  ·rw[if_pos O];split
   ·rename_i id v hj;rcases X5 n i with⟨k,m⟩|⟨j,a6,v',e,es,p,k,m,f,Q⟩
    ·exact absurd hj (m (i-n0) id v (by omega))
    ·rw[Q]at o;cases o
   ·rfl
  ·rw[if_neg O]
 have a2:∀i,n0+M.length+c.Ff.length<=i->Bs.get i=none:=fun i AA=>by
  cases o:Bs.get i with
  | none=>rfl
  | some x =>
   rcases g i x o with⟨h,_⟩|⟨j,id,v,e,es,p,h,k,_⟩
   ·have:=h.1;omega
   ·have:=(OE.1 k).1;omega
 obtain⟨β',k1,k2,k3,k4,k5,k6,k7⟩:=X3 a.tmps V c.Ff M.length b Bs _ r AH a5 a3 a4 a0 a2;have a1:=iI n0 L β;refine⟨β',⟨k4,k5,J.EI,k3,fun i AA=>k6 i AA,J.df⟩,⟨fun i AA=>(k2.BE i AA).trans (a1.BE i AA),fun i AA u=>(k2.Am i AA u).trans (a1.Am i AA u)⟩,fun i AA o=>k7 i AA ?_,by show n0<=n0+M.length+c.Ff.length;omega⟩
 cases hz:Bs.get i with
 | none=>rfl
 | some x =>
  rcases g i x hz with⟨_,K,k,_⟩|⟨j,id,v,e,es,p,h,_⟩
  ·rw[o]at k;cases k
  ·omega
theorem Aab {b:GR} {s j:BV} (hn:Lt E b n0 s=some j) (d:ER E w0 G0 outer V AU own s a w β G) :
  ∃β',ER E w0 G0 outer V AU own j a w β' G/\Ku n0 β β'/\(∀i,i<n0->s.AM.get i=none->j.AM.get i=none)/\n0<=j.next:=by
 unfold Lt at hn;obtain⟨l,f,hn⟩:=AD hn;cases hn;obtain⟨β',k1,k2,u,q⟩:=Alq f d;cases b.raw with
 | true=>exact⟨β',k1,k2,u,q⟩
 | false =>
  simp only[Ac];have c:∀i,(l.AM.BL Kx).get i=(l.AM.get i).map Kx:=Tr.o5 Kx _;refine⟨β',⟨k1.B0,k1.GS,k1.EI,k1.AH.lift c,fun i AA=>?_,k1.df⟩,k2,fun i AA e=>?_,q⟩
  ·have hf:=k1.fresh i AA;exact⟨hf.BE,hf.Am,by show(l.AM.BL Kx).get i=none;rw[c,hf.h];rfl⟩
  ·show(l.AM.BL Kx).get i=none;rw[c,u i AA e];rfl
end
end Go.Ab
namespace Go.Ab
open Go.RowKit
theorem Ow {i:Nat}:∀{l:List Nat},Fc i l=true↔i∈l
 | []=>by simp[Fc]
 | j::l=>by
  simp only[Fc,Tr.FH,DK]
  by_cases e:i=j
  ·simp[e]
  ·simp[e,Ow (l:=l)]
theorem R4 {i:Nat}:∀{l:List Nat},i∈l->FN i l<FO l
 | j::l,h=>by
  simp only[FN,FO,Tr.FH]
  by_cases e:i=j
  ·simp[e]
  ·have:=R4 (l:=l) (by simpa[e]using h)
   simp[e,this]
theorem Oz {d i:Nat}:∀{l:List Nat},i∈l->Ib d (FN i l) l=i
 | j::l,h=>by
  simp only[FN,Tr.FH]
  by_cases e:i=j
  ·simp[e,Ib]
  ·have:=Oz (d:=d) (l:=l) (by simpa[e]using h)
   simp[e,Ib,this]
theorem mL {d:Nat}:∀{l:List Nat} {j:Nat},j<FO l->Ib d j l∈l
 | [],j,h=>by simp[FO]at h
 | i::l,0,_=>by simp[Ib]
 | i::l,j+1,h=>by
  simp only[FO]at h;simp only[Ib,DK];exact .inr (mL (by omega))
theorem Y1 {d:Nat}:∀{l:List Nat} {j:Nat},Nv l=true->j<FO l->FN (Ib d j l) l=j
 | [],j,_,h=>by simp[FO]at h
 | i::l,0,_,_=>by simp[Ib,FN]
 | i::l,j+1,q,h=>by
  simp only[FO]at h;simp only[Nv,Ar,Bool.not_eq_true']at q;have b:=mL (d:=d) (l:=l) (j:=j) (by omega)
  have a:¬Ib d j l=i:=fun e=>by
   have:=Ow.2 b;rw[e,q.1]at this;cases this
  simp only[Ib,FN,Tr.FH,a,decide_false,Ac,Y1 q.2 (by omega:j<FO l)]
theorem R8 {j:Nat}:∀{n i:Nat},j∈FA i n↔i<=j/\j<i+n
 | 0,i=>by simp[FA]
 | n+1,i=>by
  simp only[FA,DK,R8];omega
theorem mI {k i:Nat}:∀{l:List Nat},i∈Mu k l↔i∈l/\k<=i
 | []=>by simp[Mu]
 | j::l=>by
  simp only[Mu];cases hb:Nat.ble k j with
  | true =>
   have:=DF hb;simp only[AY,DK,mI (l:=l)];constructor
   ·rintro(e|⟨b,a⟩)
    ·subst e;exact⟨.inl rfl,this⟩
    ·exact⟨.inr b,a⟩
   ·rintro⟨e|e,a⟩
    ·exact .inl e
    ·exact .inr ⟨e,a⟩
  | false =>
   have:¬k<=j:=fun h=>by rw[Nat.ble_eq_true_of_le h]at hb;cases hb
   simp only[Ac,DK,mI (l:=l)];constructor
   ·rintro⟨b,a⟩;exact⟨.inr b,a⟩
   ·rintro⟨e|e,a⟩
    ·subst e;exact absurd a this
    ·exact⟨e,a⟩
theorem Tr.oL {α:Type} {p:α->Bool}:∀{t:Tr α},t.KS p=true->∀{k:Nat} {x:α},t.get k=some x->p x=true
 | .leaf,_,k,x,h=>by cases h
 | .node l v r,d,k,x,h=>by
  simp only[Tr.KS,Ar]at d;rw[Tr.Hj]at h
  by_cases Cu:k=0
  ·rw[if_pos Cu]at h;subst h;exact d.2.1
  ·rw[if_neg Cu]at h
   by_cases AS:k % 2=1
   ·rw[if_pos AS]at h;exact Tr.oL d.1 h
   ·rw[if_neg AS]at h;exact Tr.oL d.2.2 h
theorem Tr.Zi {α β:Type} (f:α->β):∀(t:Tr α) (k:Nat),(t.BL f).get k=(t.get k).map f
 | .leaf,_=>rfl
 | .node l v r,k=>by
  simp only[Tr.BL];rw[Tr.Hj,Tr.Hj]
  by_cases Cu:k=0
  ·rw[if_pos Cu,if_pos Cu]
  ·rw[if_neg Cu,if_neg Cu]
   by_cases AS:k % 2=1
   ·rw[if_pos AS,if_pos AS];exact Tr.Zi f l _
   ·rw[if_neg AS,if_neg AS];exact Tr.Zi f r _
theorem Tr.oS {α:Type}:∀(t:Tr α) (a b k:Nat) (x:α),t.get k=some x->(a*k+b,x)∈t.Hi a b
 | .leaf,_,_,_,_,h=>by cases h
 | .node l v r,a,b,k,x,h=>by
  rw[Tr.Hj]at h;simp only[Tr.Hi,List.mem_append]
  by_cases Cu:k=0
  ·rw[if_pos Cu]at h;subst h;subst Cu;exact .inr (.inl (by simp))
  ·rw[if_neg Cu]at h
   by_cases AS:k % 2=1
   ·rw[if_pos AS]at h;have:=Tr.oS l (2*a) (a+b) _ _ h;rw[show 2*a*(k / 2)+(a+b)=a*k+b by
     have:k=2*(k / 2)+1:=by omega
     generalize k / 2=m at this;subst this;rw[Nat.mul_add,<-Nat.mul_assoc,Nat.mul_comm a 2];omega]at this
    exact .inl this
   ·rw[if_neg AS]at h;have:=Tr.oS r (2*a) (2*a+b) _ _ h;rw[show 2*a*(k / 2-1)+(2*a+b)=a*k+b by
     have:k=2*(k / 2-1)+2:=by omega
     generalize k / 2-1=m at this;subst this;rw[Nat.mul_add,<-Nat.mul_assoc,Nat.mul_comm a 2];omega]at this
    exact .inr (.inr this)
theorem Xj (h:Nat->Option A8):∀(n:Nat) (l d:List Nat) (i:Nat),i∈reach h n l d->(∀j∈d,∃x,h j=some x)->∃x,h i=some x
 | 0,_,d,i,AA,q=>q i AA
 | n+1,[],d,i,AA,q=>q i AA
 | n+1,j::l,d,i,AA,q=>by
  simp only[reach]at AA;cases z:d.any (Nat.beq j)with
  | true=>rw[z]at AA;exact Xj h n _ _ i AA q
  | false =>
   rw[z]at AA;simp only[Ac]at AA;cases u:h j with
   | none=>rw[u]at AA;exact Xj h n _ _ i AA q
   | some o =>
    rw[u]at AA;refine Xj h n _ _ i AA fun k a=>?_;rcases DK.1 a with e|e
    ·exact e▸⟨o,u⟩
    ·exact q k e
theorem mM {p:Nat->Bool} {h:Nat->Option A8}:∀{is:List Nat},OG p h is=true->∀i∈is,∀o,h i=some o->okO p o=true
 | [],_,i,AA,_,_=>by cases AA
 | j::is,hb,i,AA,o,A5=>by
  simp only[OG,Ar]at hb;rcases DK.1 AA with e|e
  ·subst e;rw[A5]at hb;exact hb.1
  ·exact mM hb.2 i e o A5
mutual
theorem YO:∀d:AB,EF (fun _=>true) d=true
 | .ptr _ _ | .CO _ _ _ _ _ | .rs _ _ | .CV _ _ _ _ _ | .map _ | .iter _ | .B2 _=>by simp[EF]
 | .agg cs=>by simp only[EF];exact RN cs
 | .Ap cs=>by simp only[EF];exact RN cs
 | .fn _ a b=>by simp only[EF,RN a,RN b,CD]
 | .iface _ v=>by simp only[EF];exact YO v
 | .bool _ | .int _ _ | .str _ | .Bu | .CN _ | .Aq | .AR _ | .EG _ | .A2 | .Cv | .Bl=>by simp[EF]
theorem RN:∀ds:List AB,E8 (fun _=>true) ds=true
 | []=>by simp[E8]
 | d::ds=>by simp only[E8,YO d,RN ds,CD]
end
theorem jQ {α:Type} {p:α->Bool} (a:∀x,p x=true):∀t:Tr α,t.KS p=true
 | .leaf=>rfl
 | .node l v r=>by
  simp only[Tr.KS,jQ a l,jQ a r,Bool.true_and,Bool.and_true];cases v with
  | none=>rfl
  | some x=>exact a x
theorem AnA (o:A8):okO (fun _=>true) o=true:=by
 cases o<;>simp only[okO]
 ·exact RN _
 ·exact jQ YO _
def Nl (p:Nat->Bool) (f:Nat->Nat) (β β':BB):Prop:=∀i,p i=true->β'.BE (f i)=β.BE i/\∀u,β'.Am (f i) u=β.Am i u
section
variable {P:Program} {E:Env} {w0:World} {G0:Aj} {D:CW} {w:World} {β β':BB} {G:Aj} {h:Nat->Option A8} {p:Nat->Bool} {f:Nat->Nat}
mutual
theorem AO.Bk (e:Nl p f β β'):∀(d:AB) (v:Value),EF p d=true->AO β G d v->AO β' G (Bk f d) v
 | .bool _,_,_,h=>by unfold Ab.Bk;unfold AO at h⊢;exact h
 | .int _ _,_,_,h=>by unfold Ab.Bk;unfold AO at h⊢;exact h
 | .str _,_,_,h=>by unfold Ab.Bk;unfold AO at h⊢;exact h
 | .Bu,_,_,h=>by unfold Ab.Bk;unfold AO at h⊢;exact h
 | .ptr i _,_,hb,h=>by
  unfold Ab.Bk;unfold AO at h⊢;rw[(e i hb).1];exact h
 | .CO i _ _ _ _,_,hb,h=>by
  unfold Ab.Bk;unfold AO at h⊢;simp only[(e i hb).2];exact h
 | .CN cs,_,_,h=>by
  unfold Ab.Bk;unfold AO at h⊢;obtain⟨l,b,o,j,g⟩:=h;exact⟨l,b,o,j,D7.free cs b o l g⟩
 | .Aq,_,_,h=>by unfold Ab.Bk;unfold AO at h⊢;exact h
 | .AR es,v,_,h=>by unfold Ab.Bk;exact AO.free _ v rfl h
 | .rs i _,_,hb,h=>by
  unfold Ab.Bk;unfold AO at h⊢;rw[(e i hb).2];exact h
 | .CV i _ _ _ _,_,hb,h=>by
  unfold Ab.Bk;unfold AO at h⊢;rw[(e i hb).2];exact h
 | .EG _,_,_,h=>by unfold Ab.Bk;unfold AO at h⊢;exact h
 | .agg cs,_,hb,h=>by unfold Ab.Bk;unfold AO at h⊢;obtain⟨vs,j,g⟩:=h;exact⟨vs,j,Ae.Bk e cs vs (by simpa[EF]using hb) g⟩
 | .Ap cs,_,hb,h=>by unfold Ab.Bk;unfold AO at h⊢;obtain⟨vs,j,g⟩:=h;exact⟨vs,j,Ae.Bk e cs vs (by simpa[EF]using hb) g⟩
 | .fn _ a c,_,hb,h=>by
  unfold Ab.Bk;unfold AO at h⊢;obtain⟨as,cs,j,g,m⟩:=h;have k:E8 p a=true/\E8 p c=true:=by simpa[EF]using hb
  exact⟨as,cs,j,Ae.Bk e a as k.1 g,Ae.Bk e c cs k.2 m⟩
 | .A2,_,_,h=>by unfold Ab.Bk;unfold AO at h⊢;exact h
 | .map i,_,hb,h=>by
  unfold Ab.Bk;unfold AO at h⊢;rw[(e i hb).1];exact h
 | .Cv,_,_,h=>by unfold Ab.Bk;unfold AO at h⊢;exact h
 | .iface _ d,_,hb,h=>by unfold Ab.Bk;unfold AO at h⊢;obtain⟨u,j,g⟩:=h;exact⟨u,j,AO.Bk e d u (by simpa[EF]using hb) g⟩
 | .Bl,_,_,h=>by unfold Ab.Bk;unfold AO at h⊢;exact h
 | .iter i,_,hb,h=>by
  unfold Ab.Bk;unfold AO at h⊢;rw[(e i hb).1];exact h
 | .B2 i,_,hb,h=>by
  unfold Ab.Bk;unfold AO at h⊢;rw[(e i hb).1];exact h
theorem Ae.Bk (b:Nl p f β β'):∀(ds:List AB) (vs:List Value),E8 p ds=true->Ae β G ds vs->Ae β' G (Ec f ds) vs
 | [],_,_,h=>by unfold Ec;unfold Ae at h⊢;exact h
 | d::ds,_,hb,h=>by
  unfold Ec;unfold Ae at h⊢;have a:EF p d=true/\E8 p ds=true:=by simpa[E8]using hb
  obtain⟨v,i,e,c,g⟩:=h;exact⟨v,i,e,AO.Bk b d v a.1 c,Ae.Bk b ds i a.2 g⟩
end
theorem AnS (f:Nat->Nat) (d:AB):Ct (Bk f d)=Ct d:=by cases d<;>simp[Bk,Ct]
theorem AbJ (f:Nat->Nat):∀ds:List AB,(Ec f ds).all Ct=ds.all Ct
 | []=>by simp[Ec]
 | d::ds=>by simp only[Ec,EW,AnS,AbJ f ds]
theorem iA:∀{es:List (List AB)},(∀c∈es,B4 c=true)->B4 es.flatten=true
 | [],_=>rfl
 | c::es,h=>by
  have d:∀(a b:List AB),B4 a=true->B4 b=true->B4 (a++b)=true:=fun a b e hb=>by
   induction a with
   | nil=>exact hb
   | cons x a ih =>
    simp only[B4,Ar,List.cons_append]at e⊢;exact⟨e.1,ih e.2⟩
  rw[List.flatten_cons];exact d _ _ (h c (by simp)) (iA fun c hc=>h c (by simp[hc]))
theorem FL.Bk (h:Nl p f β β') {id base:Nat} (a:p id=true):∀{o:A8},okO p o=true->FL E base w β G id o->FL E base w β' G (f id) (Im f o)
 | .cells t cs,hb,AH=>by
  obtain⟨b,vs,g,e,i,j,k⟩:=AH;exact⟨b,vs,by rw[(h id a).1];exact g,e,Ae.Bk h cs _ hb i,by rw[AbJ];exact j,k⟩
 | .row t es q u,_,AH=>by
  obtain⟨Am,C,g,e,i,j,k,l,r⟩:=AH;exact⟨Am,C,by rw[(h id a).2];exact g,e,Ae.free _ _ (iA fun c hc=>(j c hc).2.1) i,j,k,l,fun M x=>by rw[(h id a).2];exact r M x⟩
 | .map es,_,AH=>by
  obtain⟨b,O,I,g,e,i,j⟩:=AH;exact⟨b,O,I,by rw[(h id a).1];exact g,e,j9 i,j⟩
 | .Dg m n LJ,hb,AH=>by
  obtain⟨b,U,Q,g,e,i⟩:=AH;exact⟨b,U,Q,by rw[(h id a).1];exact g,by rw[(h m hb).1];exact e,i⟩
 | .Ea t es u,_,AH=>by
  obtain⟨fs,y,Am,C,g,e,i,j,k,l,r⟩:=AH;exact⟨fs,y,Am,C,by rw[(h id a).2];exact g,e,Ae.free _ _ (iA fun c hc=>(j c hc).2.1) i,j,k,l,fun M x=>by rw[(h id a).2];exact r M x⟩
 | .Ez s pos,_,AH=>by
  obtain⟨b,g,e⟩:=AH;exact⟨b,by rw[(h id a).1];exact g,e⟩
 | .loop Bj bs AP as W Af ex,hb,AH=>by
  obtain⟨b,tmps,df,fn,F,g,e,i,j,k,l⟩:=AH;refine⟨b,tmps,df,fn,F,by rw[(h id a).1];exact g,e,fun t d ht=>?_,j,k,fun t d ht=>?_⟩
  ·rw[Tr.Zi]at ht;cases J:bs.get t with
   | none=>rw[J]at ht;cases ht
   | some K =>
    rw[J]at ht;cases ht;obtain⟨v,r,z⟩:=i t K J;exact⟨v,r,AO.Bk h K v (Tr.oL hb J) z⟩
  ·rw[Tr.Zi]at ht;cases J:bs.get t with
   | none=>rw[J]at ht;cases ht
   | some K=>exact l t K J
theorem lZ (c:Nl p f β β') {id:Nat} (a:p id=true) (o:A8) (b:Nat):Cc β' (f id) (Im f o) b↔Cc β id o b:=by
 cases o<;>simp only[Im,Cc,(c id a).1,(c id a).2]
theorem Ax.Bk (e:Nl p f β β') (m:∀i j,p i=true->p j=true->f i=f j->i=j) (hh:Ax E w0 G0 D w β G h) {h':Nat->Option A8}
  (AA:∀i y,h' i=some y->∃j x,p j=true/\f j=i/\h j=some x/\y=Im f x/\okO p x=true):Ax E w0 G0 D w β' G h' :=
 ⟨hh.below,hh.g0,hh.agree,fun i o a=>by
   obtain⟨j,x,d,rfl,c,rfl,l⟩:=AA i o a;exact FL.Bk e d l (hh.obj j x c),
  fun i o b a hb=>by
   obtain⟨j,x,d,rfl,c,rfl,l⟩:=AA i o a;exact hh.own j x b c ((lZ e d x b).1 hb),
  fun i u o o' b a g hb k=>by
   obtain⟨j,x,d,rfl,c,rfl,l⟩:=AA i o a;obtain⟨C,q,z,rfl,g3,rfl,g5⟩:=AA u o' g;rw[hh.inj j C x q b c g3 ((lZ e d x b).1 hb) ((lZ e z q b).1 k)],hh.marks,hh.H0⟩
theorem UP:∀{is:List Nat} {i:Nat} {y:A8},(Fv f h is).get i=some y->∃j∈is,∃x,f j=i/\h j=some x/\y=Im f x
 | [],i,y,hy=>by cases hy
 | j::is,i,y,hy=>by
  simp only[Fv,Tr.Cj]at hy
  by_cases e:i=f j
  ·rw[if_pos e]at hy;cases d:h j with
   | none=>rw[d]at hy;cases hy
   | some x=>rw[d]at hy;cases hy;exact⟨j,by simp,x,e.symm,d,rfl⟩
  ·rw[if_neg e]at hy;obtain⟨k,a,x,b⟩:=UP hy;exact⟨k,by simp[a],x,b⟩
theorem l7:∀{is:List Nat} {j:Nat},j∈is->(∀i∈is,f i=f j->i=j)->(Fv f h is).get (f j)=(h j).map (Im f)
 | i::is,j,b,d=>by
  simp only[Fv,Tr.Cj]
  by_cases e:f j=f i
  ·rw[if_pos e];rw[d i (by simp) e.symm]
  ·rw[if_neg e];have a:j∈is:=by
    rcases DK.1 b with q|q
    ·subst q;exact absurd rfl e
    ·exact q
   exact l7 a fun i AA=>d i (by simp[AA])
theorem jH:∀{is:List Nat} {i:Nat},(∀j∈is,f j≠i)->DB i (JD f h is)=none
 | [],_,_=>rfl
 | j::is,i,hn=>by
  have a:DB i (JD f h is)=none:=jH fun k b=>hn k (List.mem_cons_of_mem _ b);have:=hn j (by simp)
  simp only[JD,DB,a,Tr.FH];simp[this]
theorem AbH:∀{is:List Nat} {j:Nat},j∈is->(∀i∈is,f i=f j->i=j)->DB (f j) (JD f h is)=some ((h j).map (Im f))
 | i::is,j,b,d=>by
  simp only[JD,DB]
  by_cases l:j∈is
  ·rw[AbH l fun i AA=>d i (by simp[AA])]
  ·have e:j=i:=by
    rcases DK.1 b with q|q
    ·exact q
    ·exact absurd q l
   subst e;have hn:DB (f j) (JD f h is)=none:=jH fun k a q=>by
    have:=d k (by simp[a]) q
    subst this;exact l a
   rw[hn];simp
theorem AaY {h':Nat->Option A8} {G':Aj} (b:Ext β G β G') (a:∀i t es p u,h i=some (.row t es p u)->∃l,h' i=some (.row t es l u)) :
  ∀{ds:List AB} {vs:List Value},(∀i∈Bm ds,IL E β G' h' i)->Ae β G ds vs->Ae β G' (ds.map fun d=>(BP h d).getD d) vs
 | [],vs,_,AH=>by rw[CU]at AH;exact CU.2 AH
 | d::ds,vs,hs,AH=>by
  obtain⟨v,j,rfl,c,e⟩:=CE.1 AH;refine CE.2 ⟨v,j,rfl,?_,AaY b a (fun i AA=>hs i (by simp[Bm,AA])) e⟩
  show AO β G' ((BP h d).getD d) v;cases q:BP h d with
  | none=>exact AO.mono b _ _ c
  | some z=>exact(R3 b a q (fun i AA=>hs i (by simp[Bm,AA])) c).1
theorem Ao3 {D:CW} {s:Tr A8} {k:Nat} {U:BB} {G1:Aj} {r:AB} {o:Tr A8} {n:Nat} {e:Ending} {w':World} (J:∀id,k<=id->C3 U s.get id) (hp:Iz E w0 G0 D U G1 s k r o n e w')
  {y:AB×Tr A8×Nat} (hy:Hw k (r,o,n)=some y):Iz E w0 G0 D U G1 s k y.1 y.2.1 y.2.2 e w':=by
 obtain⟨v,β',G',rfl,a4,w,Q,a3,hv⟩:=hp;unfold Hw at hy;simp only at hy;generalize hR:Mu k (reach o.get 4096 (DJ r++FA 0 k) [])=R at hy;obtain⟨hb,hy⟩:=Ad hy;cases hy;simp only[Ar]at hb;obtain⟨hu,Z,a2⟩:=hb;have M:∀i∈R,k<=i:=fun i AA=>by rw[<-hR]at AA;exact(mI.1 AA).2
 have m:∀j,(Nat.blt j k||Fc j R)=true↔j<k\/j∈R:=fun j=>by
  simp only[Bool.or_eq_true,Tr.FT,Ew,Ow]
 have l:∀j,j<k->Hu k R j=j:=fun j c=>by simp[Hu,Tr.FT,c]
 have p:∀j,j∈R->Hu k R j=k+FN j R:=fun j c=>by
  have:=M j c;simp[Hu,Tr.FT,show ¬j<k by omega]
 have z:∀i j,(Nat.blt i k||Fc i R)=true->(Nat.blt j k||Fc j R)=true->Hu k R i=Hu k R j->i=j:=fun i j AA c I=>by
  rcases(m i).1 AA with AA|AA<;>rcases(m j).1 c with c|c
  ·rw[l i AA,l j c]at I;exact I
  ·rw[l i AA,p j c]at I;omega
  ·rw[p i AA,l j c]at I;omega
  ·rw[p i AA,p j c]at I;have:FN i R=FN j R:=by omega
   rw[<-Oz (d:=0) AA,this,Oz c]
 have O:∀j,j∈FA 0 k++R↔j<k\/j∈R:=fun j=>by
  rw[List.mem_append,R8];simp
 have t:∀i y,(Fv (Hu k R) o.get (FA 0 k++R)).get i=some y->∃j x,(Nat.blt j k||Fc j R)=true/\Hu k R j=i/\o.get j=some x/\y=Im (Hu k R) x/\okO (fun j=>Nat.blt j k||Fc j R) x=true:=fun i y hy=>by
  obtain⟨j,c,x,W,K,h3⟩:=UP hy;exact⟨j,x,(m j).2 ((O j).1 c),W,K,h3,mM a2 j c x K⟩
 let C:BB:=⟨fun i=>if i<k then β'.BE i else if i<k+FO R then β'.BE (Ib 0 (i-k) R)else none,fun i u=>if i<k then β'.Am i u else if i<k+FO R then β'.Am (Ib 0 (i-k) R) u else none⟩
 have a0:Nl (fun j=>Nat.blt j k||Fc j R) (Hu k R) β' C:=fun j c=>by
  rcases(m j).1 c with c|c
  ·rw[l j c];simp only[C,if_pos c];exact⟨trivial,fun _=>trivial⟩
  ·rw[p j c];have:=R4 c;simp only[C,show ¬k+FN j R<k by omega,if_false,show k+FN j R<k+FO R by omega,if_true,show k+FN j R-k=FN j R by omega,Oz c]
   exact⟨trivial,fun _=>trivial⟩
 refine⟨v,C,G',rfl,Nat.le_add_right _ _,⟨⟨w.ext.g,fun id b a=>?_,fun id u x a=>?_⟩,fun id a hn=>?_⟩,Ax.Bk a0 z Q t,fun id a=>⟨?_,fun u=>?_,?_⟩,AO.Bk a0 r v Z hv⟩
 ·by_cases q:id<k
  ·simp only[C,if_pos q];exact w.ext.BE id b a
  ·rw[(J id (by omega)).BE]at a;cases a
 ·by_cases q:id<k
  ·simp only[C,if_pos q];exact w.ext.Am id u x a
  ·rw[(J id (by omega)).Am]at a;cases a
 ·obtain⟨k1,k2,k3⟩:=w.Cs id a hn;refine⟨?_,?_,fun u=>?_⟩
  ·have:=l7 (f:=Hu k R) (h:=o.get) (is:=FA 0 k++R) (j:=id) ((O id).2 (.inl a)) (fun i AA I=>z i id ((m i).2 ((O i).1 AA)) ((m id).2 (.inl a)) I);rw[l id a,k1]at this;exact this
  ·simp only[C,if_pos a];exact k2
  ·simp only[C,if_pos a];exact k3 u
 ·have q:k+FO R<=id:=a;simp only[C,show ¬id<k by omega,if_false,show ¬id<k+FO R by omega]
 ·have q:k+FO R<=id:=a;simp only[C,show ¬id<k by omega,if_false,show ¬id<k+FO R by omega]
 ·have q:k+FO R<=id:=a;cases hq:(Fv (Hu k R) o.get (FA 0 k++R)).get id with
  | none=>rfl
  | some y =>
   obtain⟨j,x,W,K,_⟩:=t id y hq;rcases(m j).1 W with c|c
   ·rw[l j c]at K;omega
   ·rw[p j c]at K;have:=R4 c;omega
theorem Ame {callH:D5} (hH:HW P E callH):HW P E (Kq E callH):=fun g as o nx r o' d0 s=>by
 unfold Kq at s;obtain⟨F,hF,s⟩:=AD s;cases hc:F.can with
 | false=>rw[hc]at s;exact hH g as o nx r o' d0 s
 | true =>
  rw[hc]at s;simp only[AY]at s;generalize e3:(as.map fun d=>(BP o.get d).getD d)=fs at s;generalize e4:E9 o (DE o.get (Bm as))=BN at s;generalize hR:reach BN.get 4096 (EP fs) []=R at s;generalize hk:FO R=k at s;obtain⟨hb,s⟩:=Ad s;obtain⟨⟨r1,Bs,n2⟩,W,s⟩:=AD s;obtain⟨⟨r3,DL,C⟩,b1,s⟩:=AD s;cases s;simp only[Ar]at hb;obtain⟨hu,d6,d9⟩:=hb;obtain⟨c7,hcs⟩:=hH _ _ _ _ _ _ _ W;refine⟨c7,fun w0 G0 D w β G vs hh I b4=>?_⟩
  obtain⟨Z,b6,a8,c9⟩:=N2 hh (Bm as);have Q:Ae β Z fs vs.toList:=by rw[<-e3];exact AaY b6 (On _ _) c9 b4
  have a4:∀i,BN.get i=BY o.get (DE o.get (Bm as)) i:=fun i=>by rw[<-e4];exact UG _ _ _
  have a8:Ax E w0 G0 D w β Z BN.get:=a8.eq a4;have b8:∀i,o.get i=none->BN.get i=none:=fun i AA=>by
   rw[a4];unfold BY;cases z:DB i (DE o.get (Bm as))with
   | none=>exact AA
   | some y =>
    obtain⟨t',e8,p',u',k1,_⟩:=Kg o.get _ i y z;rw[AA]at k1;cases k1
  have a1:∀id,nx<=id->C3 β BN.get id:=fun id a=>⟨(I id a).BE,(I id a).Am,b8 id (I id a).h⟩;have b9:∀i∈R,∃x,BN.get i=some x:=fun i AA=>Xj _ _ _ _ _ (by rw[<-hR]at AA;exact AA) (fun _ z=>by cases z)
  have M:∀i∈R,i<nx:=fun i AA=>by
   obtain⟨x,hx⟩:=b9 i AA;rcases Nat.lt_or_ge i nx with q|q
   ·exact q
   ·rw[(a1 i q).h]at hx;cases hx
  have hs:∀i x,(Hv BN.get R).get i=some x->BN.get i=some x:=fun i x AA=>by
   rw[Oo]at AA;split at AA
   ·exact AA
   ·cases AA
  have d1:∀i x,(Hv BN.get R).get i=some x->i∈R:=fun i x AA=>by
   rw[Oo]at AA;split at AA
   ·assumption
   ·cases AA
  have b7:=mV (D:=D) a8 hs
  have a3:∀j,j<k->DT k nx R j=Ib 0 j R:=fun j f=>by simp[DT,Tr.FT,f]
  have n:∀j,k<=j->DT k nx R j=nx+(j-k):=fun j f=>by simp[DT,Tr.FT,show ¬j<k by omega]
  have a7:∀i,i∈R->DT k nx R (FN i R)=i:=fun i AA=>by
   rw[a3 _ (by rw[<-hk];exact R4 AA),Oz AA]
  let β0:BB:=⟨fun j=>β.BE (DT k nx R j),fun j u=>β.Am (DT k nx R j) u⟩
  have a2:Nl (fun i=>Fc i R) (Hd R) β β0:=fun i AA=>by
   have AA:=Ow.1 AA;show β.BE (DT k nx R (FN i R))=_/\∀u,β.Am (DT k nx R (FN i R)) u=_;rw[a7 i AA];exact⟨rfl,fun _=>rfl⟩
  have U:∀i j,Fc i R=true->Fc j R=true->Hd R i=Hd R j->i=j:=fun i j AA f p=>by
   have AA:=Ow.1 AA;have f:=Ow.1 f;have p:FN i R=FN j R:=p;rw[<-Oz (d:=0) AA,p,Oz f]
  have e5:Ax E w0 G0 (Jn D w β Z BN.get (Hv BN.get R).get) w β0 Z (Fv (Hd R) BN.get R).get:=Ax.Bk a2 U b7 fun i y hy=>by
   obtain⟨j,f,x,l,O,h3⟩:=UP hy;exact⟨j,x,Ow.2 f,l,by rw[Oo,if_pos f];exact O,h3,mM d9 j f x O⟩
  have K:∀j,k<=j->C3 β0 (Fv (Hd R) BN.get R).get j:=fun j f=>by
   have z:=I (nx+(j-k)) (by omega)
   refine⟨?_,fun u=>?_,?_⟩
   ·show β.BE (DT k nx R j)=none;rw[n j f];exact z.BE
   ·show β.Am (DT k nx R j) u=none;rw[n j f];exact z.Am u
   ·cases z:(Fv (Hd R) BN.get R).get j with
    | none=>rfl
    | some y =>
     obtain⟨i,AA,x,l,_⟩:=UP z;have:FN i R<FO R:=R4 AA;have l:FN i R=j:=l;omega
  refine Calls.mono (hcs w0 G0 _ w β0 Z vs e5 K (Ae.Bk a2 _ _ d6 Q)) fun e w' p=>?_;obtain⟨v,β3,G',rfl,d2,a9,b5,c6,hv⟩:=Ao3 K p b1;simp only at d2 a9 b5 c6 hv
  let J:BB:=⟨fun i=>if i∈R then β3.BE (FN i R)else if nx<=i then β3.BE (i-nx+k)else β.BE i,fun i u=>if i∈R then β3.Am (FN i R) u else if nx<=i then β3.Am (i-nx+k) u else β.Am i u⟩
  have m:∀j,j<k->DT k nx R j∈R:=fun j f=>by rw[a3 j f];exact mL (by omega)
  have a6:∀j,k<=j->DT k nx R j∉R:=fun j f t=>by
   rw[n j f]at t;have:=M _ t;omega
  have a5:Nl (fun _=>true) (DT k nx R) β3 J:=fun j _=>by
   by_cases q:j<k
   ·have t:=m j q;simp only[J,if_pos t];rw[a3 j q,Y1 hu (by omega)]
    exact⟨rfl,fun _=>rfl⟩
   ·have t:=a6 j (by omega)
    simp only[J,if_neg t];rw[n j (by omega),if_pos (by omega),show nx+(j-k)-nx+k=j by omega]
    refine⟨rfl,fun u=>?_⟩;rw[if_pos (by omega)]
  have a0:∀i j,DT k nx R i=DT k nx R j->i=j:=fun i j p=>by
   by_cases qi:i<k<;>by_cases qj:j<k
   ·have l:=Y1 (d:=0) hu (by omega:i<FO R)
    rw[<-a3 i qi,p,a3 j qj,Y1 hu (by omega)]at l
    exact l.symm
   ·have:=m i qi;rw[p]at this;exact absurd this (a6 j (by omega))
   ·have:=m j qj;rw[<-p]at this;exact absurd this (a6 i (by omega))
   ·rw[n i (by omega),n j (by omega)]at p
    omega
  have c:∀i y,(Fv (DT k nx R) DL.get (FA 0 C)).get i=some y->∃j x,j<C/\DT k nx R j=i/\DL.get j=some x/\y=Im (DT k nx R) x:=fun i y hy=>by
   obtain⟨j,f,x,l,O,h3⟩:=UP hy;exact⟨j,x,by rw[R8]at f;omega,l,O,h3⟩
  have c8:∀j,j<C->(Fv (DT k nx R) DL.get (FA 0 C)).get (DT k nx R j)=(DL.get j).map (Im (DT k nx R)):=fun j f =>
   l7 (R8.2 ⟨by omega,by omega⟩) fun i _ p=>a0 i j p
  have b2:Iz E w0 G0 (Jn D w β Z BN.get (Hv BN.get R).get) β Z (Hv BN.get R) nx (Bk (DT k nx R) r3) (Fv (DT k nx R) DL.get (FA 0 C)) (nx+(C-k)) (.returned v) w':=by
   refine⟨v,J,G',rfl,Nat.le_add_right _ _,⟨⟨a9.ext.g,fun id b a=>?_,fun id u x a=>?_⟩,fun id a hn=>?_⟩,?_,fun id a=>?_,AO.Bk a5 _ _ (YO _) hv⟩
   ·simp only[J]
    by_cases q:id∈R
    ·rw[if_pos q];refine a9.ext.BE _ b ?_;show β.BE (DT k nx R (FN id R))=some b;rw[a7 id q];exact a
    ·rw[if_neg q]
     by_cases BD:nx<=id
     ·rw[(I id BD).BE]at a;cases a
     ·rw[if_neg BD];exact a
   ·simp only[J]
    by_cases q:id∈R
    ·rw[if_pos q];refine a9.ext.Am _ u x ?_;show β.Am (DT k nx R (FN id R)) u=some x;rw[a7 id q];exact a
    ·rw[if_neg q]
     by_cases BD:nx<=id
     ·rw[(I id BD).Am]at a;cases a
     ·rw[if_neg BD];exact a
   ·by_cases q:id∈R
    ·rw[Oo,if_pos q]at hn;obtain⟨x,hx⟩:=b9 id q;rw[hn]at hx;cases hx
    ·refine⟨?_,?_,fun u=>?_⟩
     ·cases z:(Fv (DT k nx R) DL.get (FA 0 C)).get id with
      | none=>rfl
      | some y =>
       obtain⟨j,x,_,l,_⟩:=c id y z
       by_cases qj:j<k
       ·exact absurd (l▸m j qj) q
       ·rw[n j (by omega)]at l;omega
     ·simp only[J,if_neg q,show ¬nx<=id by omega,if_false]
     ·simp only[J,if_neg q,show ¬nx<=id by omega,if_false]
   ·refine Ax.Bk a5 (fun i j _ _ p=>a0 i j p) b5 fun i y hy=>?_;obtain⟨j,x,_,l,O,h3⟩:=c i y hy;exact⟨j,x,rfl,l,O,h3,AnA x⟩
   ·have t:id∉R:=fun t=>by have:=M id t;omega
    have hf:=c6 (id-nx+k) (by omega)
    refine⟨?_,fun u=>?_,?_⟩
    ·simp only[J,if_neg t,show nx<=id by omega,if_true];exact hf.BE
    ·simp only[J,if_neg t,show nx<=id by omega,if_true];exact hf.Am u
    ·cases z:(Fv (DT k nx R) DL.get (FA 0 C)).get id with
     | none=>rfl
     | some y =>
      obtain⟨j,x,h0,l,_⟩:=c id y z
      by_cases qj:j<k
      ·exact absurd (l▸m j qj) t
      ·rw[n j (by omega)]at l;omega
  obtain⟨v2,β2,G2,BG,c0,d8,e6,d7,d3,d4⟩:=lV a8 hs d1 a1 b2;have b0:∀i,(E9 BN (JD (DT k nx R) DL.get (FA 0 C))).get i=BY BN.get (Nf (Fv (DT k nx R) DL.get (FA 0 C)) R nx) i:=fun i=>by
   rw[UG,YJ]
   by_cases AA:∃j,j<C/\DT k nx R j=i
   ·obtain⟨j,f,rfl⟩:=AA;have l:BY BN.get (JD (DT k nx R) DL.get (FA 0 C)) (DT k nx R j)=(DL.get j).map (Im (DT k nx R)):=by
     unfold BY;rw[AbH (R8.2 ⟨by omega,by omega⟩) fun i _ p=>a0 i j p]
    rw[l,<-c8 j f];split
    ·rfl
    ·rename_i t;have d5:DT k nx R j∉R:=fun q=>t (List.mem_append_left _ q);have e7:¬j<k:=fun q=>d5 (m j q);have b3:nx<=DT k nx R j:=by rw[n j (by omega)];omega
     rw[(a1 _ b3).h];cases z:(Fv (DT k nx R) DL.get (FA 0 C)).get (DT k nx R j)with
     | none=>rfl
     | some y =>
      refine absurd ?_ t;refine List.mem_append_right _ (List.mem_filter.2 ⟨List.mem_map.2 ⟨(1*DT k nx R j+0,y),Tr.oS _ 1 0 _ y z,by simp⟩,Nat.ble_eq_true_of_le b3⟩)
   ·have l:BY BN.get (JD (DT k nx R) DL.get (FA 0 C)) i=BN.get i:=by
     unfold BY;rw[jH fun j f p=>AA ⟨j,by rw[R8]at f;omega,p⟩]
    have O:(Fv (DT k nx R) DL.get (FA 0 C)).get i=none:=by
     cases z:(Fv (DT k nx R) DL.get (FA 0 C)).get i with
     | none=>rfl
     | some y =>
      obtain⟨j,x,h0,l,_⟩:=c i y z;exact absurd ⟨j,h0,l⟩ AA
    rw[l,O];split
    ·rename_i t;rcases AmE t with q|q
     ·refine absurd ⟨FN i R,?_,a7 i q⟩ AA;have:=R4 q;omega
     ·exact(a1 i q).h
    ·rfl
  refine⟨v2,β2,G2,BG,c0,⟨b6.trans d8,fun id a hn=>?_⟩,d7.eq b0,fun id a=>?_,d4⟩
  ·obtain⟨k1,k2,k3⟩:=e6 id a (b8 id hn);exact⟨by rw[b0];exact k1,k2,k3⟩
  ·have:=d3 id a;exact⟨this.BE,this.Am,by rw[b0];exact this.h⟩
end
end Go.Ab
namespace Go.Ab
def K3 (h h':Nat->Option A8) (d:AB):Prop:=∀id,id∈Bw d->∀o,h id=some o->h' id=some o
section
variable {E:Env} {ρ ρ':Nat->Option AB} {h h':Nat->Option A8} {nid:Nat}
def NC (ρ ρ':Nat->Option AB) (h h':Nat->Option A8) (x:Operand):Prop:=∀d,CA ρ x=some d->CA ρ' x=some d/\K3 h h' d
mutual
theorem lR:∀(d:AB) (i:Nat),i∈B3 d->i∈Bw d
 | .rs _ _,_,h=>by simpa[B3,Bw]using h
 | .CV _ _ _ _ _,_,h=>by simpa[B3,Bw]using h
 | .EG _,_,h=>by simp[B3]at h
 | .agg cs,i,h=>by simp only[B3,Bw]at h⊢;exact RQ cs i h
 | .Ap cs,i,h=>by simp only[B3,Bw]at h⊢;exact RQ cs i h
 | .iface _ v,i,h=>by simp only[B3,Bw]at h⊢;exact lR v i h
 | .bool _,_,h=>by simp[B3]at h
 | .int _ _,_,h=>by simp[B3]at h
 | .str _,_,h=>by simp[B3]at h
 | .Bu,_,h=>by simp[B3]at h
 | .ptr _ _,_,h=>by simp[B3]at h
 | .CO _ _ _ _ _,_,h=>by simp[B3]at h
 | .CN _,_,h=>by simp[B3]at h
 | .Aq,_,h=>by simp[B3]at h
 | .AR _,_,h=>by simp[B3]at h
 | .fn _ _ _,_,h=>by simp[B3]at h
 | .A2,_,h=>by simp[B3]at h
 | .map _,_,h=>by simp[B3]at h
 | .Cv,_,h=>by simp[B3]at h
 | .Bl,_,h=>by simp[B3]at h
 | .iter _,_,h=>by simp[B3]at h
 | .B2 _,_,h=>by simp[B3]at h
theorem RQ:∀(ds:List AB) (i:Nat),i∈Bm ds->i∈DQ ds
 | [],_,h=>by simp[Bm]at h
 | d::ds,i,h=>by
  simp only[Bm,DQ,List.mem_append]at h⊢;rcases h with h|h
  ·exact .inl (lR d i h)
  ·exact .inr (RQ ds i h)
end
mutual
theorem jT:∀(d l:AB),BP h d=some l->∀i∈B3 d,∃o,h i=some o
 | .rs id v,_,e,i,AA=>by
  simp only[BP]at e;obtain⟨o,b,_⟩:=AD e;simp only[B3,List.mem_singleton]at AA;subst AA;exact⟨o,b⟩
 | .CV _ _ _ _ _,_,e,_,_=>by simp[BP,BW]at e
 | .EG _,_,e,i,AA=>by simp[B3]at AA
 | .agg cs,_,e,i,AA=>by
  simp only[BP]at e;obtain⟨j,a,_⟩:=AD e;exact Xf cs j a i (by simpa[B3]using AA)
 | .Ap cs,_,e,i,AA=>by
  simp only[BP]at e;obtain⟨j,a,_⟩:=AD e;exact Xf cs j a i (by simpa[B3]using AA)
 | .iface _ v,_,e,i,AA=>by
  simp only[BP]at e;obtain⟨q,a,_⟩:=AD e;exact jT v q a i (by simpa[B3]using AA)
 | .bool _,_,_,_,h=>by simp[B3]at h
 | .int _ _,_,_,_,h=>by simp[B3]at h
 | .str _,_,_,_,h=>by simp[B3]at h
 | .Bu,_,_,_,h=>by simp[B3]at h
 | .ptr _ _,_,_,_,h=>by simp[B3]at h
 | .CO _ _ _ _ _,_,_,_,h=>by simp[B3]at h
 | .CN _,_,_,_,h=>by simp[B3]at h
 | .Aq,_,_,_,h=>by simp[B3]at h
 | .AR _,_,_,_,h=>by simp[B3]at h
 | .fn _ _ _,_,_,_,h=>by simp[B3]at h
 | .A2,_,_,_,h=>by simp[B3]at h
 | .map _,_,_,_,h=>by simp[B3]at h
 | .Cv,_,_,_,h=>by simp[B3]at h
 | .Bl,_,_,_,h=>by simp[B3]at h
 | .iter _,_,_,_,h=>by simp[B3]at h
 | .B2 _,_,_,_,h=>by simp[B3]at h
theorem Xf:∀(ds j:List AB),FF h ds=some j->∀i∈Bm ds,∃o,h i=some o
 | [],_,_,i,AA=>by simp[Bm]at AA
 | d::ds,_,a,i,AA=>by
  simp only[FF]at a;obtain⟨c,e,a⟩:=AD a;obtain⟨cs,b,_⟩:=AD a;simp only[Bm,List.mem_append]at AA;rcases AA with AA|AA
  ·exact jT d c e i AA
  ·exact Xf ds cs b i AA
end
mutual
theorem kY:∀(d l:AB),K3 h h' d->BP h d=some l->BP h' d=some l
 | .rs id v,l,hl,i=>by
  simp only[BP]at i⊢;obtain⟨o,e,b⟩:=AD i;rw[hl id (by simp[Bw]) o e];exact b
 | .CV _ _ _ _ _,_,_,i=>by simpa only[BP]using i
 | .EG _,_,_,i=>by simpa only[BP]using i
 | .agg cs,l,hl,i=>by
  simp only[BP]at i⊢;obtain⟨j,c,b⟩:=AD i;rw[Xt cs j (fun id a=>hl id (by simpa[Bw]using a)) c];exact b
 | .Ap cs,l,hl,i=>by
  simp only[BP]at i⊢;obtain⟨j,c,b⟩:=AD i;rw[Xt cs j (fun id a=>hl id (by simpa[Bw]using a)) c];exact b
 | .iface _ v,l,hl,i=>by
  simp only[BP]at i⊢;obtain⟨q,c,b⟩:=AD i;rw[kY v q (fun id a=>hl id (by simpa[Bw]using a)) c];exact b
 | .bool _,_,_,i=>by simpa only[BP]using i
 | .int _ _,_,_,i=>by simpa only[BP]using i
 | .str _,_,_,i=>by simpa only[BP]using i
 | .Bu,_,_,i=>by simpa only[BP]using i
 | .ptr _ _,_,_,i=>by simpa only[BP]using i
 | .CO _ _ _ _ _,_,_,i=>by simpa only[BP]using i
 | .CN _,_,_,i=>by simpa only[BP]using i
 | .Aq,_,_,i=>by simpa only[BP]using i
 | .AR _,_,_,i=>by simpa only[BP]using i
 | .fn _ _ _,_,_,i=>by simpa only[BP]using i
 | .A2,_,_,i=>by simpa only[BP]using i
 | .map _,_,_,i=>by simpa only[BP]using i
 | .Cv,_,_,i=>by simpa only[BP]using i
 | .Bl,_,_,i=>by simpa only[BP]using i
 | .iter _,_,_,i=>by simpa only[BP]using i
 | .B2 _,_,_,i=>by simpa only[BP]using i
theorem Xt:∀(ds i:List AB),(∀id,id∈DQ ds->∀o,h id=some o->h' id=some o)->FF h ds=some i->FF h' ds=some i
 | [],_,_,j=>j
 | d::ds,l,hl,j=>by
  simp only[FF]at j⊢;obtain⟨c,f,b⟩:=AD j;obtain⟨cs,g,e⟩:=AD b;rw[kY d c (fun id a=>hl id (by simp[DQ,a])) f]
  simp only[AX];rw[Xt ds cs (fun id a=>hl id (by simp[DQ,a])) g]
  exact e
end
theorem AlJ {d e:AB} (a:LA E h d=some e):∀i∈B3 d,∃o,h i=some o:=by
 unfold LA at a;split at a
 ·obtain⟨o,b,_⟩:=AD a;intro i AA;simp only[B3,List.mem_singleton]at AA;subst AA;exact⟨o,b⟩
 ·exact jT _ _ a
theorem zI:∀(ds j:List AB),Ji E h ds=some j->∀i∈Bm ds,∃o,h i=some o
 | [],_,_,i,AA=>by simp[Bm]at AA
 | d::ds,_,a,i,AA=>by
  simp only[Ji]at a;obtain⟨c,e,a⟩:=AD a;obtain⟨cs,b,_⟩:=AD a;simp only[Bm,List.mem_append]at AA;rcases AA with AA|AA
  ·exact AlJ e i AA
  ·exact zI ds cs b i AA
theorem Amm {d e:AB} (hl:K3 h h' d) (a:LA E h d=some e):LA E h' d=some e:=by
 unfold LA at a⊢;split at a
 ·obtain⟨o,b,c⟩:=AD a;rw[hl _ (by simp[Bw]) o b];exact c
 ·exact kY _ _ hl a
theorem z8:∀(ds i:List AB),(∀id,id∈DQ ds->∀o,h id=some o->h' id=some o)->Ji E h ds=some i->Ji E h' ds=some i
 | [],_,_,a=>a
 | d::ds,j,hl,a=>by
  simp only[Ji]at a⊢;obtain⟨c,f,a⟩:=AD a;obtain⟨cs,e,a⟩:=AD a;rw[Amm (fun id b=>hl id (by simp[DQ,b])) f,z8 ds cs (fun id b=>hl id (by simp[DQ,b])) e];exact a
theorem yA:∀(is:List Nat),(∀i∈is,h i=h' i)->DE h is=DE h' is
 | [],_=>rfl
 | i::is,hs=>by
  simp only[DE];rw[hs i (by simp),yA is (fun j a=>hs j (by simp[a]))]
theorem Xd:∀(is:List Nat) (u:Nat×Option A8),u∈DE h is->u.1∈is
 | [],u,a=>by simp[DE]at a
 | i::is,u,a=>by
  simp only[DE,List.mem_append]at a;rcases a with a|a
  ·split at a
   ·rename_i p _ _;cases d:Nat.beq p 1 with
    | true=>rw[d]at a;cases a
    | false=>rw[d]at a;simp only[Ac,List.mem_singleton]at a;subst a;simp
   ·cases a
  ·exact List.mem_cons_of_mem _ (Xd is u a)
theorem kO {ds:List AB} (hl:∀id,id∈DQ ds->∀o,h id=some o->h' id=some o) (b:∀i∈Bm ds,∃o,h i=some o):DE h' (Bm ds)=DE h (Bm ds) :=
 (yA _ fun i AA=>by
  obtain⟨o,a⟩:=b i AA;rw[a,hl i (RQ ds i AA) o a]).symm
theorem Alc {d:AB} {es:List (List AB)} (hl:K3 h h' d) (a:FK h d=some es):Kr h' d=Kr h d:=by
 cases d with
 | rs id v =>
  simp only[FK]at a;obtain⟨o,b,_⟩:=AD a;simp only[Kr,b,hl id (by simp[Bw]) o b]
 | _=>rfl
theorem iT {d:AB} {es:List (List AB)} (hl:K3 h h' d) (a:FK h d=some es):FK h' d=some es:=by
 cases d with
 | rs id v =>
  simp only[FK]at a⊢;obtain⟨o,b,c⟩:=AD a;rw[hl id (by simp[Bw]) o b];exact c
 | CV id v i n e =>
  simp only[FK]at a⊢;obtain⟨o,b,c⟩:=AD a;rw[hl id (by simp[Bw]) o b];exact c
 | Aq=>exact a
 | AR es=>exact a
 | _=>cases a
theorem Alj {d:AB} {es:List (List AB)} (a:FK h d=some es):∀i∈Bm [d],∃o,h i=some o:=fun i AA=>by
 cases d with
 | rs id v =>
  simp only[FK]at a;obtain⟨o,b,_⟩:=AD a;simp[Bm,B3]at AA;subst AA;exact⟨o,b⟩
 | CV id v i n e =>
  simp only[FK]at a;obtain⟨o,b,_⟩:=AD a;simp[Bm,B3]at AA;subst AA;exact⟨o,b⟩
 | Aq=>simp[Bm,B3]at AA
 | AR es=>simp[Bm,B3]at AA
 | _=>cases a
theorem Amv {ti:By} {a d:AB} (hl:K3 h h' a) (b:I8 ti h a=some d):I8 ti h' a=some d:=by
 cases a with
 | ptr id off =>
  simp only[I8]at b⊢;obtain⟨o,c,f⟩:=AD b;rw[hl id (by simp[Bw]) o c];exact f
 | CO id v i e off =>
  simp only[I8]at b⊢;obtain⟨o,c,f⟩:=AD b;rw[hl id (by simp[Bw]) o c];exact f
 | CN cs=>exact b
 | _=>cases b
theorem AlS {ti:By} {a v:AB} {l:List (Nat×Option A8)} (hl:K3 h h' a) (c:Nb ti h a v=some l):Nb ti h' a v=some l/\∀u∈l,u.1∈Bw a:=by
 unfold Nb at c⊢;obtain⟨j,c⟩:=Ad c;rw[j];cases a with
 | ptr id off =>
  simp only[AY]at c⊢;obtain⟨o,f,b⟩:=AD c;rw[hl id (by simp[Bw]) o f]
  refine⟨b,?_⟩;split at b
  ·obtain⟨_,g⟩:=Ad b;cases g;intro u d;simp only[List.mem_singleton]at d;subst d;simp[Bw]
  ·cases b
 | CO id v i e off =>
  simp only[AY]at c⊢;obtain⟨o,f,b⟩:=AD c;rw[hl id (by simp[Bw]) o f]
  refine⟨b,?_⟩;split at b
  ·obtain⟨_,_,b⟩:=AD b;obtain⟨_,g⟩:=Ad b;cases g;intro u d;simp only[List.mem_singleton]at d;subst d;simp[Bw]
  ·cases b
 | _=>cases c
theorem Ana {k:NE} {d r:AB} (hl:K3 h h' d) (a:IS k h d=some r):IS k h' d=some r:=by
 unfold IS at a⊢;split at a
 ·exact a
 ·exact a
 ·rename_i id;obtain⟨o,c,b⟩:=AD a;rw[hl id (by simp[Bw]) o c];exact b
 ·exact a
 ·obtain⟨es,e,b⟩:=AD a;rw[iT hl e];exact b
 ·exact a
 ·cases a
theorem Alv {t t':TypeId} {x:AB} {xs:List (List AB)} (b:K3 h h' x) (a:Np E h t t' x=some xs):Np E h' t t' x=some xs:=by
 unfold Np at a⊢;cases d:Nat.beq t t' with
 | true=>rw[d]at a;exact iT b a
 | false=>rw[d]at a;exact a
theorem Alf {t t':TypeId} {s x:AB} {r:Out} (hs:K3 h h' s) (k:K3 h h' x) (a:L8 E nid h t t' s x=some r):L8 E nid h' t t' s x=some r/\∀u∈r.Ba,u.1=nid\/u.1∈Bw s:=by
 unfold L8 at a⊢;obtain⟨ti,e,a⟩:=AD a;rw[e];simp only[AX];split at a
 ·obtain⟨q,g,a⟩:=AD a;obtain⟨xs,f,a⟩:=AD a;rw[g];simp only[AX,Alv k f];obtain⟨l,a⟩:=Ad a;rw[l];simp only[AY];cases s with
  | Aq =>
   refine⟨a,?_⟩;cases xs with
   | nil=>cases a;simp
   | cons c cs =>
    obtain⟨_,a⟩:=Ad a;cases a;intro u b;simp only[List.mem_singleton]at b;subst b;exact .inl rfl
  | rs id v =>
   simp only at a⊢;obtain⟨o,i,d⟩:=AD a;rw[hs id (by simp[Bw]) o i]
   refine⟨d,?_⟩;split at d
   ·obtain⟨_,j⟩:=Ad d;cases j;intro u b;simp only[List.mem_singleton]at b;subst b;exact .inr (by simp[Bw])
   ·cases d
  | _=>cases a
 ·cases a
theorem Oh:∀{xs:List Operand} {ds:List AB},(∀x∈xs,NC ρ ρ' h h' x)->Gt ρ xs=some ds->Gt ρ' xs=some ds/\∀id,id∈DQ ds->(∀o,h id=some o->h' id=some o)/\∃x∈xs,∃d,CA ρ x=some d/\id∈Bw d
 | [],ds,_,b=>by simp only[Gt,Bc]at b;subst b;exact⟨rfl,fun id a=>by simp[DQ]at a⟩
 | x::xs,ds,A5,b=>by
  simp only[Gt]at b⊢;obtain⟨d,c,b⟩:=AD b;obtain⟨l,e,b⟩:=AD b;cases b;obtain⟨k1,k2⟩:=A5 x (by simp) d c
  obtain⟨q,i⟩:=Oh (fun y hy=>A5 y (by simp[hy])) e
  refine⟨by rw[k1,q];rfl,fun id a=>?_⟩
  simp only[DQ,List.mem_append]at a;rcases a with a|a
  ·exact⟨k2 id a,x,by simp,d,c,a⟩
  ·obtain⟨j,y,u,z⟩:=i id a;exact⟨j,y,by simp[u],z⟩
theorem iX:∀{AP:List (Nat×Operand)} {vs:List (Nat×AB)},(∀x∈AP.map (·.2),NC ρ ρ' h h' x)->Jd ρ AP=some vs->Jd ρ' AP=some vs/\∀id,id∈DQ (vs.map (·.2))->(∀o,h id=some o->h' id=some o)/\∃x∈AP.map (·.2),∃d,CA ρ x=some d/\id∈Bw d
 | [],vs,_,b=>by simp only[Jd,Bc]at b;subst b;exact⟨rfl,fun id a=>by simp[DQ]at a⟩
 | (i,x)::AP,vs,A5,b=>by
  simp only[Jd]at b⊢;obtain⟨d,c,b⟩:=AD b;obtain⟨z,e,b⟩:=AD b;cases b;obtain⟨k1,k2⟩:=A5 x (by simp) d c
  obtain⟨u,l⟩:=iX (fun y hy=>A5 y (by simp at hy⊢;exact .inr hy)) e
  refine⟨by rw[k1,u];rfl,fun id a=>?_⟩
  simp only[DU,DQ,List.mem_append]at a;rcases a with a|a
  ·exact⟨k2 id a,x,by simp,d,c,a⟩
  ·obtain⟨q,y,j,C⟩:=l id a;exact⟨q,y,by simp at j⊢;exact .inr j,C⟩
theorem Amp (d:AB):DQ (cellsOf d)=Bw d:=by
 cases d<;>simp[cellsOf,DQ,Bw]
theorem Aaf {size:Nat}:∀{AP:List (Nat×AB)} {k:Nat} {es:List (List AB)},(∀id,id∈DQ (AP.map (·.2))->∀o,h id=some o->h' id=some o)->Ll h size k AP=some es->Ll h' size k AP=some es/\∀i∈Bm (AP.map (·.2)),∃o,h i=some o
 | [],k,es,_,a=>⟨a,fun i AA=>by simp[Bm]at AA⟩
 | (i,v)::AP,k,es,hl,a=>by
  simp only[Ll]at a⊢;obtain⟨l,a⟩:=Ad a;obtain⟨c,f,a⟩:=AD a;obtain⟨e,a⟩:=Ad a;obtain⟨r,g,a⟩:=AD a;obtain⟨k1,k2⟩:=Aaf (fun id b=>hl id (by simp[DQ,b])) g
  refine⟨?_,fun j d=>?_⟩
  ·rw[l];simp only[AY];rw[Xt _ _ (fun id b=>hl id (by rw[Amp]at b;simp[DQ,b])) f]
   simp only[AX,e,AY];rw[k1];exact a
  ·simp only[DU,Bm,List.mem_append]at d;rcases d with d|d
   ·exact Xf _ _ f j (by rw[zA];exact d)
   ·exact k2 j d
end
end Go.Ab
namespace Go.Ab
section
variable {E:Env} {ρ ρ':Nat->Option AB} {h h':Nat->Option A8} {nid:Nat}
theorem HV {x:Option AB} {r:Out} (a:x.bind ret=some r):r.Ba=[]:=by
 obtain⟨d,_,h⟩:=AD a;cases h;rfl
def WW (ρ:Nat->Option AB) (nid:Nat) (xs:Array Operand) (r:Out):Prop:=∀u∈r.Ba,u.1=nid\/∃x∈xs,∃d,CA ρ x=some d/\u.1∈Bw d
theorem E1 {xs:Array Operand} {r:Out} (h:r.Ba=[]):WW ρ nid xs r:=fun u a=>by rw[h]at a;cases a
theorem AmK {c:Call} {r:Out} (m:∀x∈c.operands,NC ρ ρ' h h' x) (a:BX E nid ρ h (.call c)=some r):BX E nid ρ' h' (.call c)=some r/\WW ρ nid c.operands r:=by
 have b:∀x∈c.args.toList,x∈c.operands:=fun x w=>by simp[Call.operands];exact .inr (by simpa using w)
 simp only[BX]at a⊢;split at a
 ·split at a
  ·rename_i x t ts f _;obtain⟨ti,p,a⟩:=AD a;obtain⟨d,g,a⟩:=AD a;have w:=b x (by rw[f];simp)
   obtain⟨k1,k2⟩:=m x w d g;obtain⟨q,i,j⟩:=AD a;rw[p];simp only[AX];rw[k1];simp only[AX];rw[Ana k2 i];exact⟨j,E1 (HV a)⟩
  ·cases a
 ·split at a
  ·rename_i s x t t' f _;obtain⟨ds,g,a⟩:=AD a;obtain⟨J,i,a⟩:=AD a;have y:=b s (by rw[f];simp)
   obtain⟨k1,k2⟩:=m s y ds g;obtain⟨I,Q⟩:=m x (b x (by rw[f];simp)) J i
   obtain⟨U,K⟩:=Alf k2 Q a;simp only[AY,k1,I,AX];refine⟨U,fun u C=>?_⟩;rcases K u C with e|e
   ·exact .inl e
   ·exact .inr ⟨s,y,ds,g,e⟩
  ·cases a
 ·split at a
  ·rename_i x f;obtain⟨d,g,a⟩:=AD a;obtain⟨k1,k2⟩:=m x (b x (by rw[f];simp)) d g
   rw[k1];simp only[AX];split at a
   ·exact⟨a,E1 (by obtain rfl:=L2 a;rfl)⟩
   ·rename_i id v;obtain⟨o,A5,i⟩:=AD a;simp only[k2 id (by simp[Bw]) o A5,AX]
    refine⟨i,?_⟩;split at i
    ·obtain⟨_,j⟩:=Ad i;obtain rfl:=L2 j;exact E1 rfl
    ·cases i
   ·cases a
  ·cases a
 ·split at a
  ·rename_i x n t t' f _;obtain⟨J,g,a⟩:=AD a;obtain⟨Ms,i,a⟩:=AD a;obtain⟨ti,p,a⟩:=AD a;have z:=b x (by rw[f];simp)
   obtain⟨k1,k2⟩:=m x z J g;obtain⟨I,_⟩:=m n (b n (by rw[f];simp)) Ms i
   simp only[k1,I,p,AX];split at a
   ·exact⟨a,E1 (by obtain rfl:=L2 a;rfl)⟩
   ·rename_i id v k e _ _ _ _;obtain⟨o,A5,j⟩:=AD a;simp only[k2 id (by simp[Bw]) o A5,AX]
    refine⟨j,?_⟩;split at j
    ·obtain⟨_,M⟩:=Ad j;obtain⟨l,_,O⟩:=AD M;cases O;intro u C;simp only[List.mem_singleton]at C;subst C;exact .inr ⟨x,z,_,g,by simp[Bw]⟩
    ·cases j
   ·cases a
  ·cases a
 ·obtain⟨vs,g,a⟩:=AD a;obtain⟨k1,_⟩:=Oh (h:=h) (h':=h') (fun x w=>m x (b x w)) g;rw[k1];refine⟨a,?_⟩;split at a
  ·exact E1 (HV a)
  ·cases a
 ·obtain⟨vs,g,a⟩:=AD a;obtain⟨k1,_⟩:=Oh (h:=h) (h':=h') (fun x w=>m x (b x w)) g;rw[k1];refine⟨a,?_⟩;split at a
  ·exact E1 (HV a)
  ·cases a
 ·cases a
theorem AaQ {x:Option Operand} {d:Option AB} (e:∀y,x=some y->NC ρ ρ' h h' y) (a:Lb ρ x=some d):Lb ρ' x=some d:=by
 cases x with
 | none=>exact a
 | some y =>
  simp only[Lb]at a⊢;obtain⟨v,b,c⟩:=AD a;rw[(e y rfl v b).1];exact c
theorem AnM {op:Op} {r:Out} (K:∀x∈op.operands,NC ρ ρ' h h' x) (p:BX E nid ρ h op=some r):BX E nid ρ' h' op=some r/\WW ρ nid op.operands r:=by
 cases op with
 | call c=>exact AmK K p
 | move x =>
  simp only[BX]at p⊢;obtain⟨d,C,g⟩:=AD p;rw[(K x (by simp[Op.operands]) d C).1]
  exact⟨g,E1 (HV p)⟩
 | assign x =>
  simp only[BX]at p⊢;obtain⟨d,C,g⟩:=AD p;rw[(K x (by simp[Op.operands]) d C).1]
  exact⟨g,E1 (HV p)⟩
 | pick c x y =>
  simp only[BX]at p⊢;obtain⟨d,C,g⟩:=AD p;rw[(K c (by simp[Op.operands]) d C).1]
  simp only[AX];split at g
  ·rename_i b;cases b
   ·obtain⟨e,a,M⟩:=AD g;simp only[Ac];rw[show CA ρ' y=some e from(K y (by simp[Op.operands]) e a).1]
    exact⟨M,E1 (HV g)⟩
   ·obtain⟨e,a,M⟩:=AD g;simp only[AY];rw[show CA ρ' x=some e from(K x (by simp[Op.operands]) e a).1]
    exact⟨M,E1 (HV g)⟩
  ·cases g
 | alloc t =>
  simp only[BX]at p⊢;refine⟨p,?_⟩;obtain⟨ti,_,g⟩:=AD p;cases g;intro u hu;simp only[List.mem_singleton]at hu;subst hu;exact .inl rfl
 | box t x =>
  simp only[BX]at p⊢;obtain⟨d,C,g⟩:=AD p;rw[(K x (by simp[Op.operands]) d C).1]
  refine⟨g,?_⟩;obtain⟨_,a⟩:=Ad g;cases a;intro u hu;simp only[List.mem_singleton]at hu;subst hu;exact .inl rfl
 | build t AP =>
  simp only[BX]at p⊢;obtain⟨ti,w,C⟩:=AD p;obtain⟨vs,g,a⟩:=AD C;rw[w];simp only[AX];rw[(iX (h:=h) (h':=h') (fun x hm=>K x (by simpa[Op.operands]using hm)) g).1]
  refine⟨a,?_⟩;split at a
  ·obtain⟨cs,_,J⟩:=AD a;cases J;exact E1 rfl
  ·obtain⟨ei,_,M⟩:=AD a;obtain⟨cs,_,J⟩:=AD M;cases J;exact E1 rfl
  ·cases a
 | buildSlice t n AP =>
  simp only[BX]at p⊢;obtain⟨ti,w,C⟩:=AD p;rw[w];simp only[AX];cases O:ti.k with
  | slice e =>
   rw[O]at C;simp only at C⊢;obtain⟨ei,a0,g⟩:=AD C;obtain⟨vs,a,M⟩:=AD g;obtain⟨es,J,U⟩:=AD M;obtain⟨k1,k2⟩:=iX (h:=h) (h':=h') (fun x hm=>K x (by simpa[Op.operands]using hm)) a
   obtain⟨k3,k4⟩:=Aaf (fun id hid=>(k2 id hid).1) J;have k5:=kO (fun id hid=>(k2 id hid).1) k4;rw[a0];simp only[AX];rw[k1];simp only[AX];rw[k3];simp only[AX];rw[k5];refine⟨U,?_⟩;obtain⟨_,I⟩:=Ad U;cases I;intro u hu;rcases DK.1 hu with rfl|hu
   ·exact .inl rfl
   ·obtain⟨_,x,m1,d,m2,m3⟩:=k2 u.1 (RQ _ _ (Xd _ u hu));exact .inr ⟨x,by simpa[Op.operands]using m1,d,m2,m3⟩
  | _=>rw[O]at C;cases C
 | load t x =>
  simp only[BX]at p⊢;obtain⟨ti,w,C⟩:=AD p;obtain⟨d,g,a⟩:=AD C;obtain⟨v,M,J⟩:=AD a;obtain⟨k1,k2⟩:=K x (by simp[Op.operands]) d g
  rw[w];simp only[AX];rw[k1];simp only[AX];rw[Amv k2 M];exact⟨J,E1 (HV a)⟩
 | store t x y =>
  simp only[BX]at p⊢;obtain⟨ti,w,C⟩:=AD p;obtain⟨d,g,a⟩:=AD C;obtain⟨v,M,J⟩:=AD a;obtain⟨us,U,I⟩:=AD J;obtain⟨k1,k2⟩:=K x (by simp[Op.operands]) d g
  obtain⟨k3,_⟩:=K y (by simp[Op.operands]) v M
  obtain⟨k5,k6⟩:=AlS k2 U;rw[w];simp only[AX];rw[k1];simp only[AX];rw[k3];simp only[AX];rw[k5];refine⟨I,?_⟩;cases I;intro u hu;exact .inr ⟨x,by simp[Op.operands],d,g,k6 u hu⟩
 | nilCheck x =>
  simp only[BX]at p⊢;obtain⟨d,C,g⟩:=AD p;rw[(K x (by simp[Op.operands]) d C).1]
  refine⟨g,?_⟩;split at g<;>first|(cases g;exact E1 rfl)|cases g
 | binOp op t x y z =>
  simp only[BX]at p⊢;obtain⟨d,C,g⟩:=AD p;obtain⟨e,a,M⟩:=AD g;rw[(K x (by simp[Op.operands]) d C).1];simp only[AX];rw[(K y (by simp[Op.operands]) e a).1]
  exact⟨M,E1 (HV M)⟩
 | unOp op t x =>
  simp only[BX]at p⊢;obtain⟨d,C,g⟩:=AD p;rw[(K x (by simp[Op.operands]) d C).1]
  exact⟨g,E1 (HV g)⟩
 | convert s t x =>
  simp only[BX]at p⊢;obtain⟨si,a6,h0⟩:=AD p;obtain⟨ti,w,C⟩:=AD h0;obtain⟨d,g,a⟩:=AD C;rw[a6];simp only[AX];rw[w];simp only[AX];rw[(K x (by simp[Op.operands]) d g).1]
  refine⟨a,?_⟩;split at a<;>first|(cases a;exact E1 rfl)|cases a
 | makeInterface t x =>
  simp only[BX]at p⊢;obtain⟨ti,w,C⟩:=AD p;obtain⟨d,g,a⟩:=AD C;rw[w];simp only[AX];rw[(K x (by simp[Op.operands]) d g).1]
  refine⟨a,?_⟩;cases O:ti.k<;>rw[O]at a<;>first|(cases a;exact E1 rfl)|cases a
 | typeAssert x xt t ok =>
  simp only[BX]at p⊢;obtain⟨ti,w,C⟩:=AD p;obtain⟨d,g,a⟩:=AD C;rw[w];simp only[AX];rw[(K x (by simp[Op.operands]) d g).1]
  refine⟨a,?_⟩;have a4:∀{r:Out},(bif ok then(Ht ti).bind fun z=>ret (.Ap [z,.bool false])else none)=some r->r.Ba=[]:=fun h=>by
   obtain⟨_,h⟩:=Ad h;obtain⟨z,_,h⟩:=AD h;cases h;rfl
  have a3:∀{v:AB} {q:Bool} {r:Out},(bif q then ret v else bif ok then(Ht ti).bind fun z=>ret (.Ap [z,.bool false])else none)=some r->r.Ba=[]:=fun {v q r} h=>by
   cases q with
   | true=>cases h;rfl
   | false=>exact a4 h
  cases d with
  | Bl=>cases O:ti.k<;>rw[O]at a<;>first|exact E1 (a4 a)|cases a
  | iface t' v=>cases O:ti.k<;>rw[O]at a<;>first|exact E1 (a3 a)|cases a
  | _=>cases O:ti.k<;>rw[O]at a<;>cases a
 | makeSlice t l c =>
  simp only[BX]at p⊢;obtain⟨ti,w,C⟩:=AD p;obtain⟨dl,g,a⟩:=AD C;obtain⟨dc,M,J⟩:=AD a;rw[w];simp only[AX];rw[(K l (by simp[Op.operands]) dl g).1];simp only[AX];rw[(K c (by simp[Op.operands]) dc M).1]
  refine⟨J,?_⟩;split at J
  ·obtain⟨ei,_,U⟩:=AD J;obtain⟨_,I⟩:=Ad U;cases I;intro u hu;simp only[List.mem_singleton]at hu;subst hu;exact .inl rfl
  ·cases J
 | makeFunc f x y =>
  simp only[BX]at p⊢;obtain⟨d,C,g⟩:=AD p;obtain⟨e,a,M⟩:=AD g;rw[(Oh (h:=h) (h':=h') (fun z hm=>K z (by simp[Op.operands];exact .inl (by simpa using hm))) C).1];simp only[AX]
  rw[(Oh (h:=h) (h':=h') (fun z hm=>K z (by simp[Op.operands];exact .inr (by simpa using hm))) a).1]
  refine⟨M,?_⟩;cases M;exact E1 rfl
 | makeMap t x =>
  cases x with
  | some x=>simp[BX]at p
  | none =>
   refine⟨by simpa only[BX]using p,?_⟩
   simp only[BX]at p;cases p;intro u hu;simp only[List.mem_singleton]at hu;subst hu;exact .inl rfl
 | slice t x A1 AA mx =>
  cases mx with
  | some m=>simp[BX]at p
  | none =>
   simp only[BX]at p⊢;obtain⟨ti,w,C⟩:=AD p;obtain⟨d,g,a⟩:=AD C;obtain⟨dl,M,J⟩:=AD a;obtain⟨dh,U,I⟩:=AD J;obtain⟨k1,k2⟩:=K x (by simp[Op.operands]) d g
   rw[w];simp only[AX];rw[k1];simp only[AX];rw[AaQ (h:=h) (h':=h') (fun y hy=>K y (by subst hy;simp[Op.operands])) M];simp only[AX]
   rw[AaQ (h:=h) (h':=h') (fun y hy=>K y (by subst hy;simp[Op.operands])) U];simp only[AX]
   cases O:ti.k with
   | string =>
    rw[O]at I;cases d with
    | str s=>exact⟨I,E1 (HV I)⟩
    | _=>cases I
   | array n e =>
    rw[O]at I;cases d with
    | ptr id off =>
     simp only at I⊢;obtain⟨ei,a0,h8⟩:=AD I;obtain⟨ob,Z,W⟩:=AD h8;rw[a0];simp only[AX];rw[k2 id (by simp[Bw]) _ Z];simp only[AX]
     refine⟨W,?_⟩;cases ob with
     | cells ct cs =>
      obtain⟨_,Q⟩:=Ad W;obtain⟨q,_,a1⟩:=AD Q;cases a1;intro u hu;simp only[List.mem_singleton]at hu;subst hu;exact .inr ⟨x,by simp[Op.operands],.ptr id off,g,by simp[Bw]⟩
     | _=>cases W
    | CN cs =>
     simp only at I⊢;refine⟨I,?_⟩;obtain⟨ei,_,h8⟩:=AD I;obtain⟨_,Z⟩:=Ad h8;exact E1 (HV Z)
    | _=>cases I
   | slice e =>
    rw[O]at I;simp only at I⊢;obtain⟨ei,a0,h8⟩:=AD I;obtain⟨es,Z,W⟩:=AD h8;have k5:=kO (h:=h) (h':=h') (ds:=[d]) (fun id hid=>k2 id (by simpa[DQ]using hid)) (Alj Z)
    simp only[Bm,jp]at k5;have k6:Kr h' d=Kr h d:=Alc k2 Z;rw[a0];simp only[AX];rw[iT k2 Z];simp only[AX];rw[k5,k6];refine⟨W,?_⟩;obtain⟨_,Q⟩:=Ad W;cases a5:ti.view&&Kr h d with
    | true =>
     rw[a5]at Q;simp only[AY]at Q;exact E1 (HV Q)
    | false =>
    rw[a5]at Q;simp only[Ac]at Q;obtain⟨q,_,a1⟩:=AD Q;cases a1;intro u hu;exact .inr ⟨x,by simp[Op.operands],d,g,lR d _ (Xd _ u hu)⟩
   | _=>rw[O]at I;cases I
 | fieldAddr s x f =>
  simp only[BX]at p⊢;obtain⟨ti,w,C⟩:=AD p;obtain⟨d,g,a⟩:=AD C;rw[w];simp only[AX];rw[(K x (by simp[Op.operands]) d g).1]
  refine⟨a,?_⟩;split at a
  ·obtain⟨q,_,M⟩:=AD a;obtain⟨fi,_,J⟩:=AD M;obtain⟨_,U⟩:=Ad J;exact E1 (HV U)
  ·cases a
 | field s x f =>
  simp only[BX]at p⊢;obtain⟨ti,w,C⟩:=AD p;obtain⟨d,g,a⟩:=AD C;rw[w];simp only[AX];rw[(K x (by simp[Op.operands]) d g).1]
  refine⟨a,?_⟩;split at a
  ·obtain⟨q,_,M⟩:=AD a;obtain⟨fi,_,J⟩:=AD M;exact E1 (HV J)
  ·cases a
 | indexAddr t x i =>
  simp only[BX]at p⊢;obtain⟨ti,w,C⟩:=AD p;obtain⟨d,g,a⟩:=AD C;obtain⟨di,M,J⟩:=AD a;obtain⟨k1,k2⟩:=K x (by simp[Op.operands]) d g
  rw[w];simp only[AX];rw[k1];simp only[AX];rw[(K i (by simp[Op.operands]) di M).1];simp only[AX]
  cases O:ti.k with
  | array len e =>
   rw[O]at J;refine⟨J,?_⟩;obtain⟨ei,_,U⟩:=AD J;obtain⟨j,_,I⟩:=AD U;exact E1 (HV I)
  | slice e =>
   rw[O]at J;simp only at J⊢;obtain⟨ei,a0,U⟩:=AD J;rw[a0];simp only[AX];cases d with
   | AR es =>
    refine⟨U,?_⟩;obtain⟨j,_,I⟩:=AD U;obtain⟨c,_,h8⟩:=AD I;obtain⟨_,Z⟩:=Ad h8;cases Z;exact E1 rfl
   | rs id v =>
    simp only at U⊢;obtain⟨o,A5,I⟩:=AD U;rw[k2 id (by simp[Bw]) o A5]
    refine⟨I,?_⟩;split at I
    ·obtain⟨j,_,h8⟩:=AD I;obtain⟨_,Z⟩:=Ad h8;cases Z;exact E1 rfl
    ·cases I
   | _=>cases U
  | _=>rw[O]at J;cases J
 | index t x i =>
  simp only[BX]at p⊢;obtain⟨ti,w,C⟩:=AD p;obtain⟨d,g,a⟩:=AD C;obtain⟨di,M,J⟩:=AD a;rw[w];simp only[AX];rw[(K x (by simp[Op.operands]) d g).1];simp only[AX];rw[(K i (by simp[Op.operands]) di M).1]
  refine⟨J,?_⟩;split at J
  ·obtain⟨ei,_,U⟩:=AD J;obtain⟨j,_,I⟩:=AD U;exact E1 (HV I)
  ·obtain⟨j,_,I⟩:=AD J;obtain⟨c,_,h8⟩:=AD I;cases h8;exact E1 rfl
  ·cases J
 | lookup t m k ok =>
  simp only[BX]at p⊢;obtain⟨ti,w,C⟩:=AD p;obtain⟨dm,g,a⟩:=AD C;obtain⟨dk,M,J⟩:=AD a;obtain⟨k1,k2⟩:=K m (by simp[Op.operands]) dm g
  rw[w];simp only[AX];rw[k1];simp only[AX];rw[(K k (by simp[Op.operands]) dk M).1];simp only[AX]
  cases O:ti.k with
  | map kt e =>
   rw[O]at J;simp only at J⊢;obtain⟨ei,a0,U⟩:=AD J;obtain⟨ki,a2,I⟩:=AD U;obtain⟨hq,h8⟩:=Ad I;obtain⟨es,Z,W⟩:=AD h8;rw[a0];simp only[AX];rw[a2];simp only[AX];rw[hq];simp only[AY];have k3:∀(z:Option (List (AB×AB))),z=some es->(z.bind fun es=>(M1 dk es).bind fun r=>match r,ei.zero with
     | some v,_=>ret (bif ok then .Ap [v,.bool true]else v)
     | none,z::_=>ret (bif ok then .Ap [z,.bool false]else z)
     | _,_=>none)=some r:=fun z hz=>by rw[hz];exact W
   refine⟨k3 _ ?_,?_⟩
   ·cases dm with
    | Cv=>exact Z
    | map id =>
     simp only at Z⊢;obtain⟨o,A5,Q⟩:=AD Z;rw[k2 id (by simp[Bw]) o A5];exact Q
    | _=>cases Z
   ·obtain⟨q,_,a1⟩:=AD W;split at a1<;>first|(cases a1;exact E1 rfl)|cases a1
  | _=>rw[O]at J;cases J
 | mapUpdate t m k x =>
  simp only[BX]at p⊢;obtain⟨ti,w,C⟩:=AD p;obtain⟨dm,g,a⟩:=AD C;obtain⟨dk,M,J⟩:=AD a;obtain⟨dx,U,I⟩:=AD J;obtain⟨k1,k2⟩:=K m (by simp[Op.operands]) dm g
  rw[w];simp only[AX];rw[k1];simp only[AX];rw[(K k (by simp[Op.operands]) dk M).1];simp only[AX];rw[(K x (by simp[Op.operands]) dx U).1];simp only[AX]
  cases O:ti.k with
  | map kt e =>
   rw[O]at I;cases dm with
   | map id =>
    simp only at I⊢;obtain⟨ki,a2,h8⟩:=AD I;obtain⟨o,A5,Z⟩:=AD h8;rw[a2];simp only[AX];rw[k2 id (by simp[Bw]) o A5]
    refine⟨Z,?_⟩;split at Z
    ·obtain⟨_,W⟩:=Ad Z;obtain⟨es,_,Q⟩:=AD W;cases Q;intro u hu;simp only[List.mem_singleton]at hu;subst hu;exact .inr ⟨m,by simp[Op.operands],.map id,g,by simp[Bw]⟩
    ·cases Z
   | _=>cases I
  | _=>rw[O]at I;cases I
 | range t x =>
  simp only[BX]at p⊢;obtain⟨ti,w,C⟩:=AD p;obtain⟨d,g,a⟩:=AD C;obtain⟨k1,k2⟩:=K x (by simp[Op.operands]) d g
  rw[w];simp only[AX];rw[k1];simp only[AX];cases O:ti.k with
  | string =>
   rw[O]at a;cases d with
   | str s =>
    refine⟨a,?_⟩;cases a;intro u hu;simp only[List.mem_singleton]at hu;subst hu;exact .inl rfl
   | _=>cases a
  | map kt e =>
   rw[O]at a;cases d with
   | map id =>
    simp only at a⊢;obtain⟨ob,A5,M⟩:=AD a;rw[k2 id (by simp[Bw]) _ A5];simp only[AX]
    refine⟨M,?_⟩;cases ob with
    | map es =>
     cases M;intro u hu;simp only[List.mem_singleton]at hu;subst hu;exact .inl rfl
    | _=>cases M
   | _=>cases a
  | _=>rw[O]at a;cases a
 | next it s =>
  cases s with
  | false=>simp[BX]at p
  | true =>
   simp only[BX]at p⊢;obtain⟨d,C,g⟩:=AD p;obtain⟨k1,k2⟩:=K it (by simp[Op.operands]) d C
   rw[k1];simp only[AX];cases d with
   | iter id =>
    simp only at g⊢;obtain⟨o,A5,a⟩:=AD g;rw[k2 id (by simp[Bw]) o A5]
    refine⟨a,?_⟩;split at a
    ·rename_i s pos
     by_cases hp:pos<s.size
     ·simp only[hp,decide_true,AY]at a;cases a;intro u hu;simp only[List.mem_singleton]at hu;subst hu;exact .inr ⟨it,by simp[Op.operands],.iter id,C,by simp[Bw]⟩
     ·simp only[hp,decide_false,Ac]at a;cases a;exact E1 rfl
    ·cases a
   | _=>cases g
 | extract t i =>
  simp only[BX]at p⊢;obtain⟨d,C,g⟩:=AD p;rw[(K t (by simp[Op.operands]) d C).1]
  refine⟨g,?_⟩;split at g
  ·exact E1 (HV g)
  ·cases g
 | _=>simp[BX]at p
theorem mG:∀(xs ys:List AB) (i:Nat),i∈DQ (xs++ys)↔i∈DQ xs\/i∈DQ ys
 | [],ys,i=>by simp[DQ]
 | x::xs,ys,i=>by simp[DQ,mG xs ys i,or_assoc]
theorem Als {c:Call} {g:FuncId} {x y as:List AB} (p:∀z∈c.operands,NC ρ ρ' h h' z) (k:target E ρ c=some (.fn (.func g) x y,as)) :
  target E ρ' c=some (.fn (.func g) x y,as)/\∀id,id∈DQ as->(∀o,h id=some o->h' id=some o)/\∃z∈c.operands,∃d,CA ρ z=some d/\id∈Bw d:=by
 unfold target at k⊢;split at k
 ·rename_i f hc;have hf:f∈c.operands:=by simp[Call.operands,hc]
  have b:∀z∈c.args.toList,z∈c.operands:=fun z i=>by simp[Call.operands];exact .inr (by simpa using i)
  obtain⟨d,j,e⟩:=AD k;obtain⟨k1,k2⟩:=p f hf d j;rw[k1];simp only[AX];split at e
  ·rename_i Q first u
   obtain⟨C,n,l⟩:=AD e;obtain⟨I,K⟩:=Oh (h:=h) (h':=h') (fun z i=>p z (b z i)) n;rw[I];cases l;refine⟨rfl,fun id a=>?_⟩;rw[mG,mG]at a;rcases a with(a|a)|a
   ·have:id∈Bw (.fn (.func g) first u):=by simp only[Bw,List.mem_append];exact .inl a
    exact⟨k2 id this,f,hf,_,j,this⟩
   ·obtain⟨M,z,J,O⟩:=K id a;exact⟨M,z,b z J,O⟩
   ·have:id∈Bw (.fn (.func g) first u):=by simp only[Bw,List.mem_append];exact .inr a
    exact⟨k2 id this,f,hf,_,j,this⟩
  ·obtain⟨C,n,l⟩:=AD e;cases l
  ·cases e
 ·rename_i f m hc;have hf:f∈c.operands:=by simp[Call.operands,hc]
  have b:∀z∈c.args.toList,z∈c.operands:=fun z i=>by simp[Call.operands];exact .inr (by simpa using i)
  obtain⟨d,j,e⟩:=AD k;obtain⟨k1,k2⟩:=p f hf d j;rw[k1];simp only[AX];split at e
  ·rename_i t v;obtain⟨ti,q,e⟩:=AD e;obtain⟨Q,r,e⟩:=AD e;obtain⟨C,n,l⟩:=AD e;obtain⟨I,K⟩:=Oh (h:=h) (h':=h') (fun z i=>p z (b z i)) n;simp only[q,r,I,AX];cases l;refine⟨rfl,fun id a=>?_⟩;simp only[DQ,List.mem_append]at a;rcases a with a|a
   ·have:id∈Bw (.iface t v):=by simpa only[Bw]using a
    exact⟨k2 id this,f,hf,_,j,this⟩
   ·obtain⟨M,z,J,O⟩:=K id a;exact⟨M,z,b z J,O⟩
  ·cases e
 ·cases k
theorem Anv {call:Nat->List AB->Option AB} {op:Op} {r:Out} (k:∀x∈op.operands,NC ρ ρ' h h' x) (d:M8 E call nid ρ h op=some r):M8 E call nid ρ' h' op=some r/\WW ρ nid op.operands r:=by
 unfold M8 at d⊢;split at d
 ·rename_i c hc;have i:=X8 hc;subst i;unfold Ng at d⊢;obtain⟨K,n,f⟩:=AD d;split at f
  ·rename_i g x y as;obtain⟨fs,j,m⟩:=AD f;obtain⟨q,o,a⟩:=AD m;have e:∀z∈c.operands,NC ρ ρ' h h' z:=k;obtain⟨k1,k2⟩:=Als e n;rw[k1];simp only[AX];rw[z8 as fs (fun id b=>(k2 id b).1) j];simp only[AX];rw[o];simp only[AX];cases C:as.any VI with
   | true =>
    rw[C]at a;simp only[AY]at a⊢;exact⟨a,E1 (HV a)⟩
   | false =>
   rw[C]at a;simp only[Ac]at a⊢;cases a;rw[kO (fun id b=>(k2 id b).1) (zI as fs j)];refine⟨rfl,fun u l=>?_⟩;obtain⟨_,z,J,I⟩:=k2 u.1 (RQ as _ (Xd _ u l));exact .inr ⟨z,J,I⟩
  ·cases f
 ·exact AnM k d
end
end Go.Ab
namespace Go.Ab
open Go.RowKit
section
variable {E:Env} {call:Nat->List AB->Option AB} {callH callY:D5} {V AU:Nat} {ops:Array Oper} {b:Nat}
structure PF (E:Env) (call:Nat->List AB->Option AB) (callH callY:D5) (V AU:Nat) (ops:Array Oper) (b:Nat) (m:Dr) (k nx nx2:Nat) (o:Oper) (d:Dd) (ds:List (Nat×Dd)):Prop where
 op:ops[k]? = some o
 dst:d.dst=o.dst
 Bf:d.Bf=HY ops ds o k
 Adg:∀e∈o.after,Region.binds .any e=true->e.on<k
 fits:∀t,o.dst=some t->t<AU
 apart:∀e∈ds,Nat.testBit d.Bf e.1=true\/∀t,o.dst=some t->t∉(ops.getD e.1 o).looksAt ops/\e.2.dst≠some t
 rL:∀e∈ds,Nat.testBit d.Bf e.1=true\/((d.new≠none->e.2.new=none)/\∀u∈d.out.Ba,u.1∉e.2.GF/\DB u.1 e.2.out.Ba=none)
 run:(KF ops (seen d.Bf (EN V m.base m.loc) ds) o=some true/\M8 E call (b+k) (seen d.Bf (EN V m.base m.loc) ds) (Lm d.Bf m.AM.get ds) o.op=some d.out/\d.GF=GF (seen d.Bf (EN V m.base m.loc) ds) o.op/\d.new=none/\nx2=nx) ∨
  (KF ops (seen d.Bf (EN V m.base m.loc) ds) o=some false/\d.GF=[]/\d.out=⟨some (.Ap []),[]⟩/\d.new=none/\nx2=nx) ∨
  (KF ops (seen d.Bf (EN V m.base m.loc) ds) o=some true/\d.new=some (nx,nx2)/\∃BU tgt,Ks o.op=some BU/\target E (seen d.Bf (EN V m.base m.loc) ds) BU=some tgt/\I1 callH callY (Lm d.Bf m.AM.get ds) nx tgt=some (d.out,d.GF,nx2))
def I6 (E:Env) (call:Nat->List AB->Option AB) (callH callY:D5) (V AU:Nat) (ops:Array Oper) (b:Nat) (m:Dr):Nat->Nat->List (Nat×Dd)->Prop
 | k,nx,[]=>k=0/\nx=m.next
 | k,nx,(j,d)::ds=>k=j+1/\∃nx0,(∃o,PF E call callH callY V AU ops b m j nx0 nx o d ds)/\I6 E call callH callY V AU ops b m j nx0 ds
theorem Amh {k:Nat} {o:Oper} {os:List Oper} (h:o::os=ops.toList.drop k):ops[k]? = some o/\os=ops.toList.drop (k+1):=by
 have a:k<ops.toList.length:=by
  rcases Nat.lt_or_ge k ops.toList.length with b|b
  ·exact b
  ·rw[G9 b]at h;cases h
 rw[HO a]at h;simp only[List.cons.injEq]at h;refine⟨?_,h.2⟩;rw[h.1,<-Array.getElem?_toList];exact List.getElem?_eq_getElem a
theorem Xp {m:Dr}:∀(os:List Oper) (k:Nat) (I:Dr) (nx:Nat) (ds:List (Nat×Dd)),Hs E call callH callY V AU ops b k os { m with next:=nx } ds=some I->os=ops.toList.drop k->I6 E call callH callY V AU ops b m k nx ds->k<=ops.size →
  ∃C K,I6 E call callH callY V AU ops b m ops.size C K/\I=HL V AU K { m with next:=C }
 | [],k,I,nx,ds,a,A5,hs,U=>by
  simp only[Hs,Bc]at a;have:=List.drop_eq_nil_iff.1 A5.symm;simp at this;have:k=ops.size:=by omega
  subst this;exact⟨nx,ds,hs,a.symm⟩
 | o::os,k,I,nx,ds,a,A5,hs,U=>by
  obtain⟨g,n⟩:=Amh A5;have j:k<ops.size:=(Gv.1 g).1;simp only[Hs]at a;obtain⟨v,a⟩:=Ad a;simp only[Ar,List.all_eq_true,Bool.or_eq_true]at v;obtain⟨⟨BI,BD⟩,DM⟩:=v;have c:∀e∈o.after,Region.binds .any e=true->e.on<k:=fun e p hb=>by
   have:=(Array.all_eq_true_iff_forall_mem.1 BI) e p;simp only[hb,Bool.not_true,Bool.false_or,Tr.FT,Ew]at this;exact this
  have d:∀t,o.dst=some t->t<AU:=fun t ht=>by
   rw[ht]at BD;simpa[Tr.FT]using BD
  have l:∀e∈ds,Nat.testBit (HY ops ds o k) e.1=true\/∀t,o.dst=some t->t∉(ops.getD e.1 o).looksAt ops/\e.2.dst≠some t:=fun e p=>by
   rcases DM e p with h|h
   ·exact .inl h
   ·refine .inr fun t ht=>?_;rw[ht]at h;simp only[Ar,Bool.not_eq_true']at h;refine⟨by simpa using h.1,fun w=>?_⟩
    have x:=h.2;rw[w]at x;simp at x
  obtain⟨J,y,a⟩:=AD a;cases J with
  | false =>
   simp only[Ac]at a;exact Xp os (k+1) I nx _ a n ⟨rfl,nx,⟨o,g,rfl,rfl,c,d,l,fun e _=>.inr ⟨fun h=>absurd rfl h,fun u q=>by cases q⟩,.inr (.inl ⟨y,rfl,rfl,rfl,rfl⟩)⟩,hs⟩ j
  | true =>
   simp only[AY]at a;obtain⟨O,z,a⟩:=AD a;cases O with
   | some r =>
    have AH:=Aaw z;obtain⟨s,a⟩:=Ad a;have f:∀e∈ds,Nat.testBit (HY ops ds o k) e.1=true\/(((none:Option (Nat×Nat))≠none->e.2.new=none)/\∀u∈r.Ba,u.1∉e.2.GF/\DB u.1 e.2.out.Ba=none):=fun e p=>by
     simp only[List.all_eq_true,Bool.or_eq_true,Ar,Bool.not_eq_true',Option.isNone_iff_eq_none]at s
     by_cases v:Nat.testBit (HY ops ds o k) e.1=true
     ·exact .inl v
     ·refine .inr ⟨fun h=>absurd rfl h,fun u q=>?_⟩;rcases s u q e p with h|h
      ·exact absurd h v
      ·exact⟨by simpa using h.1,h.2⟩
    exact Xp os (k+1) I nx _ a n ⟨rfl,nx,⟨o,g,rfl,rfl,c,d,l,f,.inl ⟨y,AH,rfl,rfl,rfl⟩⟩,hs⟩ j
   | none =>
    obtain⟨BU,Q,a⟩:=AD a;obtain⟨M,x,a⟩:=AD a;obtain⟨⟨out,T,C⟩,W,a⟩:=AD a;obtain⟨i,a⟩:=Ad a;simp only[List.all_eq_true,Bool.or_eq_true,Ar,Bool.not_eq_true',Option.isNone_iff_eq_none]at i;have f:∀e∈ds,Nat.testBit (HY ops ds o k) e.1=true\/((some (nx,C)≠none->e.2.new=none)/\∀u∈out.Ba,u.1∉e.2.GF/\DB u.1 e.2.out.Ba=none):=fun e p=>by
     rcases i e p with h|⟨h,h'⟩
     ·exact .inl h
     ·exact .inr ⟨fun _=>h,fun u q=>⟨by simpa using (h' u q).1,(h' u q).2⟩⟩
    exact Xp os (k+1) I C _ a n ⟨rfl,nx,⟨o,g,rfl,rfl,c,d,l,f,.inr (.inr ⟨y,rfl,BU,M,Q,x,W⟩)⟩,hs⟩ j
theorem Amx {ds:List (Nat×Dd)} {o:Oper} {k i:Nat} (h:Nat.testBit (HY ops ds o k) i=true):∃e∈o.after,Region.binds .any e=true/\e.on<k/\(i=e.on\/∃d,(e.on,d)∈ds/\Nat.testBit d.Bf i=true):=by
 unfold HY at h;have key:∀(es:List Edge) (x:Nat),Nat.testBit (es.foldl (fun m e=>bif Region.binds .any e&&Nat.blt e.on k then m ||| (1 <<< e.on) ||| ((ds.find? (fun d=>Nat.beq d.1 e.on)).map (·.2.Bf)).getD 0 else m) x) i=true →
   Nat.testBit x i=true\/∃e∈es,Region.binds .any e=true/\e.on<k/\(i=e.on\/∃d,(e.on,d)∈ds/\Nat.testBit d.Bf i=true):=by
  intro es
  induction es with
  | nil=>intro x b;exact .inl b
  | cons e es ih =>
   intro x b;rw[List.foldl_cons]at b;rcases ih _ b with a|⟨e',a,c⟩
   ·cases l:(Region.binds .any e&&Nat.blt e.on k)with
    | false=>rw[l]at a;exact .inl a
    | true =>
     rw[l]at a;simp only[Ar,Tr.FT,Ew]at l;simp only[AY,Nat.testBit_or,Bool.or_eq_true]at a;rcases a with(a|a)|a
     ·exact .inl a
     ·refine .inr ⟨e,by simp,l.1,l.2,.inl ?_⟩
      rw[Nat.one_shiftLeft,Nat.testBit_two_pow]at a;simpa using (of_decide_eq_true a).symm
     ·refine .inr ⟨e,by simp,l.1,l.2,.inr ?_⟩
      cases hf:ds.find? (fun d=>Nat.beq d.1 e.on)with
      | none=>rw[hf]at a;simp at a
      | some p =>
       rw[hf]at a;obtain⟨j,d⟩:=p;have f:=List.find?_some hf;have f:j=e.on:=Al f;subst f;exact⟨d,List.mem_of_find?_eq_some hf,a⟩
   ·exact .inr ⟨e',by simp[a],c⟩
 rcases key _ _ h with a|⟨e,a,c⟩
 ·simp at a
 ·exact⟨e,by simpa using a,c⟩
def Gq (L:Nat->Bool) (ρ:Nat->Option AB):List (Nat×Dd)->Nat->Option AB
 | [],t=>ρ t
 | (j,d)::ds,t=>if L j=true/\d.dst=some t then d.out.val else Gq L ρ ds t
def Bn (L:Nat->Bool) (h:Nat->Option A8):List (Nat×Dd)->Nat->Option A8
 | [],id=>h id
 | (j,d)::ds,id=>if L j=true then(match DB id d.out.Ba with|some x=>x|none=>Bn L h ds id)else Bn L h ds id
theorem zW {id:Nat}:∀{d:List (Nat×Option A8)} {x:Option A8},DB id d=some x->∃u∈d,u.1=id
 | [],_,h=>by cases h
 | (i,y)::d,x,h=>by
  simp only[DB]at h;cases j:DB id d with
  | some z =>
   obtain⟨u,a,b⟩:=zW j;exact⟨u,by simp[a],b⟩
  | none =>
   rw[j]at h;simp only[Tr.FH]at h
   by_cases e:i=id
   ·exact⟨(i,y),by simp,e⟩
   ·simp[e]at h
variable {m:Dr}
theorem Yj:∀{ds:List (Nat×Dd)} {k nx:Nat},I6 E call callH callY V AU ops b m k nx ds->∀j d,(j,d)∈ds->j<k
 | [],k,_,h=>fun _ _ h=>by cases h
 | (j,d)::ds,k,_,h=>by
  obtain⟨rfl,_,_,a⟩:=h;have k2:=Yj a;intro i e AA;rcases DK.1 AA with AA|AA
  ·cases AA;omega
  ·have:=k2 i e AA;omega
def VG (L:Nat->Bool) (ds:List (Nat×Dd)):Prop:=∀j d,(j,d)∈ds->L j=true->∀i,Nat.testBit d.Bf i=true->L i=true
theorem AcH:∀{ds:List (Nat×Dd)} {k nx:Nat},I6 E call callH callY V AU ops b m k nx ds->∀j,j<k->∃d l o q u,(j,d)∈ds/\PF E call callH callY V AU ops b m j q u o d l/\(∀e∈l,e∈ds)/\I6 E call callH callY V AU ops b m j q l
 | [],k,_,h,j,z=>by rw[h.1]at z;omega
 | (i,d)::ds,k,nx,h,j,z=>by
  obtain⟨rfl,nx0,⟨o,f⟩,c⟩:=h
  by_cases e:j=i
  ·subst e;exact⟨d,ds,o,nx0,nx,by simp,f,fun e a=>by simp[a],c⟩
  ·obtain⟨C,l,o',J,M,k1,k2,I,K⟩:=AcH c j (by omega)
   exact⟨C,l,o',J,M,by simp[k1],k2,fun e a=>by simp[I e a],K⟩
theorem Aat {L:Nat->Bool} {Bf:Nat} (a:∀i,Nat.testBit Bf i=true->L i=true) {ρ:Nat->Option AB} {t:Nat} {v:AB}:∀{ds:List (Nat×Dd)},seen Bf ρ ds t=some v->Gq L ρ ds t=some v
 | [],h=>h
 | (j,d)::ds,h=>by
  simp only[seen]at h;simp only[Gq]
  by_cases e:d.dst=some t
  ·rw[e]at h;simp only[Tr.FH,decide_true,AY]at h;cases l:Nat.testBit Bf j with
   | false=>rw[l]at h;cases h
   | true=>rw[l]at h;rw[if_pos ⟨a j l,e⟩];exact h
  ·rw[if_neg (fun q=>e q.2)];refine Aat a ?_;cases u:d.dst with
   | none=>rw[u]at h;exact h
   | some s =>
    have b:s≠t:=fun q=>e (by rw[u,q])
    rw[u]at h;simpa[Tr.FH,b]using h
theorem Aah {L:Nat->Bool} {Bf:Nat} (a:∀i,Nat.testBit Bf i=true->L i=true) {h:Nat->Option A8} {id:Nat} {l:A8}:∀{ds:List (Nat×Dd)},Lm Bf h ds id=some l->Bn L h ds id=some l
 | [],h=>h
 | (j,d)::ds,h=>by
  simp only[Lm]at h;simp only[Bn];cases q:DB id d.out.Ba with
  | some x =>
   rw[q]at h;simp only at h⊢;cases hb:Nat.testBit Bf j with
   | false=>rw[hb]at h;cases h
   | true=>rw[hb]at h;rw[if_pos (a j hb)];exact h
  | none =>
   rw[q]at h;simp only at h⊢;have:=Aah a h
   by_cases e:L j=true
   ·rw[if_pos e];exact this
   ·rw[if_neg e];exact this
theorem zT {L l:Nat->Bool} {ρ:Nat->Option AB} {t:Nat}:∀{ds:List (Nat×Dd)},(∀i e,(i,e)∈ds->l i=L i)->Gq l ρ ds t=Gq L ρ ds t
 | [],_=>rfl
 | (j,d)::ds,h=>by
  simp only[Gq];rw[h j d (by simp),zT fun i e AA=>h i e (by simp[AA])]
theorem Ab3 {L l:Nat->Bool} {h:Nat->Option A8} {id:Nat}:∀{ds:List (Nat×Dd)},(∀i e,(i,e)∈ds->l i=L i)->Bn l h ds id=Bn L h ds id
 | [],_=>rfl
 | (j,d)::ds,h=>by
  simp only[Bn];rw[h j d (by simp),Ab3 fun i e AA=>h i e (by simp[AA])]
theorem AbT {L:Nat->Bool} {k:Nat} (r:L k=false) {I:Nat->Bool} (g:∀j,I j=if j=k then true else L j):∀{ds:List (Nat×Dd)} {n nx:Nat},I6 E call callH callY V AU ops b m n nx ds->VG L ds->k<n->∃d K o Q M,(k,d)∈ds/\PF E call callH callY V AU ops b m k Q M o d K ∧
  ((∀i,Nat.testBit d.Bf i=true->L i=true) →
   (∀t v,t∈o.looksAt ops->seen d.Bf (EN V m.base m.loc) K t=some v->Gq L (EN V m.base m.loc) ds t=some v) ∧
   (∀id J,id∈d.GF->Lm d.Bf m.AM.get K id=some J->Bn L m.AM.get ds id=some J)) ∧
  (∀t,Gq I (EN V m.base m.loc) ds t=if d.dst=some t then d.out.val else Gq L (EN V m.base m.loc) ds t) ∧
  (∀id,Bn I m.AM.get ds id=match DB id d.out.Ba with|some x=>x|none=>Bn L m.AM.get ds id)
 | [],n,_,h,_,h2=>by rw[h.1]at h2;omega
 | (j,C)::ds,n,nx,h,Z,h2=>by
  obtain⟨rfl,nx0,⟨o,s⟩,h4⟩:=h;have U:VG L ds:=fun i e AA=>Z i e (by simp[AA])
  by_cases e:k=j
  ·subst e;have a0:=Yj h4;have f:I k=true:=by rw[g];simp
   have c:∀i e,(i,e)∈ds->I i=L i:=fun i e AA=>by
    have:=a0 i e AA;rw[g,if_neg (by omega)]
   refine⟨C,ds,o,nx0,nx,by simp,s,fun a=>⟨fun t v _ hs=>?_,fun id J _ hs=>?_⟩,fun t=>?_,fun id=>?_⟩
   ·simp only[Gq,r,CI,false_and,if_false];exact Aat a hs
   ·simp only[Bn,r,CI,if_false];exact Aah a hs
   ·simp only[Gq,f,r,CI,false_and,if_false,true_and];rw[zT c]
   ·simp only[Bn,f,r,CI,if_false,if_true];rw[Ab3 c]
  ·obtain⟨d,K,o',n1,n2,k1,k2,W,k4,k5⟩:=AbT r g h4 U (by omega)
   have w:I j=L j:=by rw[g,if_neg (fun q=>e q.symm)]
   have p:L j=true->Nat.testBit C.Bf k=false:=fun O=>by
    cases l:Nat.testBit C.Bf k with
    | false=>rfl
    | true=>have:=Z j C (by simp) O k l;rw[r]at this;cases this
   have a1:(ops.getD k o).looksAt ops=o'.looksAt ops:=by
    have:ops.getD k o=o':=by
     have:=k2.op;simp[this]
    rw[this]
   have y:L j=true->∀id x,DB id C.out.Ba=some x->id∉d.GF/\DB id d.out.Ba=none:=fun O id x l=>by
    obtain⟨u,hu,rfl⟩:=zW l;rcases s.rL (k,d) k1 with q|q
    ·rw[p O]at q;cases q
    ·exact q.2 u hu
   refine⟨d,K,o',n1,n2,by simp[k1],k2,fun a=>⟨fun t v ht hs=>?_,fun id J z hs=>?_⟩,fun t=>?_,fun id=>?_⟩
   ·simp only[Gq];rw[if_neg,(W a).1 t v ht hs];rintro⟨AS,BG⟩;rcases s.apart (k,d) k1 with q|q
    ·rw[p AS]at q;cases q
    ·have:=(q t (by rw[<-s.dst];exact BG)).1
     rw[a1]at this;exact this ht
   ·simp only[Bn];rw[(W a).2 id J z hs]
    by_cases AS:L j=true
    ·rw[if_pos AS];cases l:DB id C.out.Ba with
     | none=>rfl
     | some x=>exact absurd z (y AS id x l).1
    ·rw[if_neg AS]
   ·simp only[Gq,w];rw[k4]
    by_cases AS:L j=true/\C.dst=some t
    ·rw[if_pos AS,if_pos AS,if_neg];intro BG;rcases s.apart (k,d) k1 with q|q
     ·rw[p AS.1]at q;cases q
     ·exact(q t (by rw[<-s.dst];exact AS.2)).2 BG
    ·rw[if_neg AS,if_neg AS]
   ·simp only[Bn,w];rw[k5]
    by_cases AS:L j=true
    ·rw[if_pos AS,if_pos AS];cases l:DB id C.out.Ba with
     | none=>rfl
     | some x=>rw[(y AS id x l).2]
    ·rw[if_neg AS,if_neg AS]
theorem AmI {k nx e:Nat} {o:Oper} {d:Dd} {ds:List (Nat×Dd)} (a:PF E call callH callY V AU ops b m k nx e o d ds):nx<=e:=by
 rcases a.run with⟨_,_,_,_,h⟩|⟨_,_,_,_,h⟩|⟨_,_,_,_,_,_,h⟩
 ·omega
 ·omega
 ·exact AlA _ _ _ _ _ _ h
theorem Xs {k nx e:Nat} {o:Oper} {d:Dd} {ds:List (Nat×Dd)} (a:PF E call callH callY V AU ops b m k nx e o d ds) {A1 AA:Nat} (hn:d.new=some (A1,AA)):A1=nx/\AA=e:=by
 rcases a.run with⟨_,_,_,h,_⟩|⟨_,_,_,h,_⟩|⟨_,h,_⟩
 ·rw[hn]at h;cases h
 ·rw[hn]at h;cases h
 ·rw[hn]at h;cases h;exact⟨rfl,rfl⟩
theorem AlH {k nx e:Nat} {o:Oper} {d:Dd} {ds:List (Nat×Dd)} (a:PF E call callH callY V AU ops b m k nx e o d ds) (hn:d.new=none):e=nx:=by
 rcases a.run with⟨_,_,_,_,h⟩|⟨_,_,_,_,h⟩|⟨_,h,_⟩
 ·exact h
 ·exact h
 ·rw[hn]at h;cases h
theorem Yi:∀{ds:List (Nat×Dd)} {k nx:Nat},I6 E call callH callY V AU ops b m k nx ds->m.next<=nx/\∀j d A1 AA,(j,d)∈ds->d.new=some (A1,AA)->m.next<=A1/\A1<=AA/\AA<=nx
 | [],k,nx,h=>⟨by rw[h.2];exact Nat.le_refl _,fun _ _ _ _ h=>by cases h⟩
 | (i,d)::ds,k,nx,h=>by
  obtain⟨rfl,nx0,⟨o,f⟩,l⟩:=h;obtain⟨p,g⟩:=Yi l;have n:=AmI f;refine⟨by omega,fun j q A1 AA e hn=>?_⟩
  rcases DK.1 e with e|e
  ·cases e;obtain⟨rfl,rfl⟩:=Xs f hn;exact⟨p,n,Nat.le_refl _⟩
  ·obtain⟨a,b,c⟩:=g j q A1 AA e hn;exact⟨a,b,by omega⟩
theorem Aau:∀{ds:List (Nat×Dd)} {n nx:Nat},I6 E call callH callY V AU ops b m n nx ds->∀k d A1 AA,(k,d)∈ds->d.new=some (A1,AA)->∀id,A1<=id->id<nx →
  ∃j z u f,(j,z)∈ds/\z.new=some (u,f)/\u<=id/\id<f/\(j=k\/Nat.testBit z.Bf k=true)
 | [],_,_,_,_,_,_,_,h,_,_,_,_=>by cases h
 | (i,I)::ds,n,nx,h,k,d,A1,AA,g,hn,id,K,J=>by
  obtain⟨rfl,nx0,⟨o,l⟩,s⟩:=h;rcases DK.1 g with g|g
  ·cases g;obtain⟨rfl,rfl⟩:=Xs l hn;exact⟨i,I,_,_,by simp,hn,K,J,.inl rfl⟩
  ·rcases Nat.lt_or_ge id nx0 with r|r
   ·obtain⟨j,z,u,f,a,b,c,M,e⟩:=Aau s k d A1 AA g hn id K r;exact⟨j,z,u,f,by simp[a],b,c,M,e⟩
   ·cases C:I.new with
    | none=>have:=AlH l C;omega
    | some p =>
     obtain⟨u,f⟩:=p;obtain⟨rfl,rfl⟩:=Xs l C;refine⟨i,I,u,f,by simp,C,r,J,.inr ?_⟩
     rcases l.rL (k,d) g with q|q
     ·exact q
     ·have:=q.1 (by rw[C];simp)
      rw[hn]at this;cases this
theorem Ace:∀{ds:List (Nat×Dd)} {n nx:Nat},I6 E call callH callY V AU ops b m n nx ds->∀k d A1 AA j I l z,(k,d)∈ds->d.new=some (A1,AA)->(j,I)∈ds->I.new=some (l,z)->j≠k->Nat.testBit d.Bf j=true\/AA<=l
 | [],_,_,_,_,_,_,_,_,_,_,_,h,_,_,_,_=>by cases h
 | (i,J)::ds,n,nx,h,k,d,A1,AA,j,I,l,z,c,hn,a,u,C=>by
  obtain⟨rfl,nx0,⟨o,e⟩,f⟩:=h;rcases DK.1 c with c|c
  ·cases c;rcases DK.1 a with a|a
   ·cases a;exact absurd rfl C
   ·rcases e.rL (j,I) a with q|q
    ·exact .inl q
    ·have:=q.1 (by rw[hn];simp)
     rw[u]at this;cases this
  ·rcases DK.1 a with a|a
   ·cases a;obtain⟨rfl,rfl⟩:=Xs e u;exact .inr ((Yi f).2 k d A1 AA c hn).2.2
   ·exact Ace f k d A1 AA j I l z c hn a u C
end
end Go.Ab
namespace Go.Ab
open Go.RowKit
section
variable {P:Program} {E:Env} {w0:World} {G0:Aj} {outer:CW} {own:List Nat} {V AU:Nat} {a:Act} {w:World} {β:BB} {G:Aj} {ro:Option Nat} {n:Nat} {call:Nat->List AB->Option AB} {callH callY:D5} {ops:Array Oper} {b:Nat} {m:Dr}
structure OQ (E:Env) (w0:World) (G0:Aj) (outer:CW) (V AU:Nat) (own:List Nat) (ops:Array Oper) (b nx:Nat) (m:Dr) (ds:List (Nat×Dd)) (L:Nat->Bool) (β0:BB) (Gz:Aj) (hz:Nat->Option A8) (a:Act) (w:World) (β:BB) (G:Aj):Prop where
 B0:Dq β G (Gq L (EN V m.base m.loc) ds) a.tmps
 GS:∀t d,m.base.get t=some d->Nat.testBit V t=true
 EI:a.tmps.size=AU
 AH:Ax E w0 G0 (FD own outer) w β G (Bn L m.AM.get ds)
 fresh:∀id,nx<=id->C3 β (Bn L m.AM.get ds) id
 df:JG E own a.defers/\Uj own outer
 un:∀j,j<ops.size->L j=false->C3 β (Bn L m.AM.get ds) (b+j)
 Ai5:∀j d A1 AA,(j,d)∈ds->d.new=some (A1,AA)->L j=false->∀id,A1<=id->id<AA->C3 β (Bn L m.AM.get ds) id
 down:VG L ds
 go:D6 b β0 Gz β G hz (Bn L m.AM.get ds)
theorem Acd:∀{ds:List (Nat×Dd)} {k nx:Nat},I6 E call callH callY V AU ops b m k nx ds->∀j d,(j,d)∈ds->∃l o u q,PF E call callH callY V AU ops b m j u q o d l/\∀e∈l,e∈ds
 | [],_,_,_,_,_,h=>by cases h
 | (i,d)::ds,k,nx,h,j,z,a=>by
  obtain⟨_,nx0,⟨o,f⟩,g⟩:=h;rcases DK.1 a with a|a
  ·cases a;exact⟨ds,o,nx0,nx,f,fun e c=>by simp[c]⟩
  ·obtain⟨l,o',I,C,k1,k2⟩:=Acd g j z a;exact⟨l,o',I,C,k1,fun e c=>by simp[k2 e c]⟩
theorem Amy {ds:List (Nat×Dd)} {L:Nat->Bool} {o:Oper} {k:Nat} (g:VG L ds) {q:List (Nat×Dd)} (a:∀e∈q,e∈ds) (c:∀e∈o.after,Region.binds .any e=true->L e.on=true) :
  ∀i,Nat.testBit (HY ops q o k) i=true->L i=true:=fun i AA=>by
 obtain⟨e,f,b,_,j⟩:=Amx AA;rcases j with rfl|⟨d,l,h⟩
 ·exact c e f b
 ·exact g e.on d (a _ l) (c e f b) i h
theorem Ans {o:Oper} {t:Nat} (h:Operand.tmp t∈o.op.operands):t∈o.looksAt ops :=
 List.mem_append_left _ (List.mem_filterMap.2 ⟨.tmp t,by simpa using h,rfl⟩)
theorem kD {o:Oper} {ρ ρ':Nat->Option AB} (h:∀t v,t∈o.looksAt ops->ρ t=some v->ρ' t=some v) {x:Operand} (b:x∈o.op.operands) {d:AB} (a:CA ρ x=some d):CA ρ' x=some d:=by
 cases x with
 | tmp t=>exact h t d (Ans b) a
 | _=>exact a
theorem iK {o:Oper} {ρ ρ':Nat->Option AB} (h:∀t v,t∈o.looksAt ops->ρ t=some v->ρ' t=some v) {e:Bool} (a:KF ops ρ o=some e):KF ops ρ' o=some e:=by
 unfold KF at a⊢;cases i:o.guard with
 | none=>rw[i]at a;exact a
 | some g =>
  obtain⟨j,q⟩:=g;rw[i]at a;simp only at a⊢;cases l:(ops[j]?).bind (·.dst)with
  | none=>rw[l]at a;cases a
  | some t =>
   rw[l]at a;simp only at a⊢;cases AH:ρ t with
   | none=>rw[AH]at a;cases a
   | some d =>
    rw[AH]at a;rw[h t d (List.mem_append_right _ (by rw[i];simp[l])) AH]
    exact a
theorem Xh {ρ ρ':Nat->Option AB}:∀{xs:List Operand} {ds:List AB},(∀x∈xs,∀d,CA ρ x=some d->CA ρ' x=some d)->Gt ρ xs=some ds->Gt ρ' xs=some ds
 | [],_,_,h=>h
 | x::xs,ds,hv,h=>by
  simp only[Gt]at h⊢;obtain⟨v,b,h⟩:=AD h;obtain⟨vs,a,h⟩:=AD h;rw[hv x (by simp) v b,AX,Xh (fun y hy=>hv y (by simp[hy])) a]
  exact h
theorem Alu {ρ ρ':Nat->Option AB} {c:Call} {l:AB×List AB} (hv:∀x∈c.operands,∀q,CA ρ x=some q->CA ρ' x=some q) (h:target E ρ c=some l):target E ρ' c=some l:=by
 have a:∀x∈c.args.toList,x∈c.operands:=fun x b=>by
  unfold Call.operands;split<;>simp_all
 unfold target at h⊢;split at h
 ·rename_i f hc;obtain⟨v,e,h⟩:=AD h;have hf:f∈c.operands:=by unfold Call.operands;rw[hc];simp
  rw[hv f hf v e];simp only[AX];split at h
  ·obtain⟨as,d,h⟩:=AD h;rw[Xh (fun x b=>hv x (a x b)) d];exact h
  ·obtain⟨as,d,h⟩:=AD h;rw[Xh (fun x b=>hv x (a x b)) d];exact h
  ·cases h
 ·rename_i CV u hc;obtain⟨v,e,h⟩:=AD h;have hf:CV∈c.operands:=by unfold Call.operands;rw[hc];simp
  rw[hv CV hf v e];simp only[AX];split at h
  ·obtain⟨ti,d,h⟩:=AD h;obtain⟨g,i,h⟩:=AD h;obtain⟨as,j,h⟩:=AD h;rw[d,AX,i,AX,Xh (fun x b=>hv x (a x b)) j];exact h
  ·cases h
 ·cases h
theorem An1 {ρ:Nat->Option AB} {op:Op} (c:SB op=false) {x:Operand} (e:x∈op.operands) {d:AB} (b:CA ρ x=some d) {id:Nat} (a:id∈Bw d):id∈GF ρ op:=by
 unfold GF;rw[c,Ac,List.mem_flatMap];exact⟨x,by simpa using e,by rw[b];exact a⟩
theorem AnN (hE:∀t ti,E.ty t=some ti->Br P t ti) (hp:Kp P E call) (hH:HW P E callH) (hY:J7 P E callY) {ds:List (Nat×Dd)} {nx:Nat} (hs:I6 E call callH callY V AU ops b m ops.size nx ds) {L I:Nat->Bool} {k:Nat} (a8:k<ops.size) (d3:b+ops.size<=m.next)
  (hk:L k=false) (r:∀j,I j=if j=k then true else L j) {o:Oper} (A5:ops[k]? = some o) (a0:∀e∈o.after,Region.binds .any e=true->L e.on=true) {β0:BB} {Gz:Aj} {hz:Nat->Option A8}
  (c:OQ E w0 G0 outer V AU own ops b nx m ds L β0 Gz hz a w β G) {K:Act->World->Prop} {Q:Exit->Act->World->Prop} (hK:∀a' w' β' G',OQ E w0 G0 outer V AU own ops b nx m ds I β0 Gz hz a' w' β' G'->K a' w'):wpOpIn (Fg ro) n P ops Q k K a w:=by
 obtain⟨d,tl,o',M,U,h1,h2,h3,h4,h5⟩:=AbT hk r hs c.down a8;have b7:o'=o:=by have:=h2.op;rw[A5]at this;cases this;rfl
 subst b7;obtain⟨d4,u⟩:=Yi hs;have l:∀d',(k,d')∈ds->∀i,Nat.testBit d'.Bf i=true->L i=true:=fun d' c8 i AA=>by
  obtain⟨d1,Bs,_,_,BI,BD⟩:=Acd hs k d' c8;have:Bs=o':=by have:=BI.op;rw[A5]at this;cases this;rfl
  subst this;rw[BI.Bf]at AA;exact Amy c.down BD a0 i AA
 obtain⟨v1,v2⟩:=h3 (l d h1);have W:VG I ds:=fun j J Z f i AA=>by
  rw[r]
  by_cases e:i=k
  ·rw[if_pos e]
  ·rw[if_neg e]
   by_cases BG:j=k
   ·subst BG;exact l J Z i AA
   ·rw[r,if_neg BG]at f;exact c.down j J Z f i AA
 have z:∀id,Bn I m.AM.get ds id=BY (Bn L m.AM.get ds) d.out.Ba id:=fun id=>h5 id
 have y:∀(v:Value) (w':World) (β':BB) (G':Aj),(∀O,d.out.val=some O->AO β' G' O v)->Ext β G β' G'->Ax E w0 G0 (FD own outer) w' β' G' (BY (Bn L m.AM.get ds) d.out.Ba) →
   (∀id,id<b->F0 β β' (Bn L m.AM.get ds) (Bn I m.AM.get ds) id)->(∀id,nx<=id->C3 β' (Bn I m.AM.get ds) id)->(∀j,j<ops.size->j≠k->C3 β (Bn L m.AM.get ds) (b+j)->C3 β' (Bn I m.AM.get ds) (b+j)) →
   (∀j J A1 AA,(j,J)∈ds->J.new=some (A1,AA)->I j=false->∀id,A1<=id->id<AA->C3 β' (Bn I m.AM.get ds) id) →
   OQ E w0 G0 outer V AU own ops b nx m ds I β0 Gz hz (a.put o'.dst v) w' β' G':=fun v w' β' G' hv p hh C c0 c6 b4=>by
  obtain⟨s1,s2⟩:=Abt (a:=a) o'.dst v;refine⟨Ac8 p c.EI c.B0 hv fun t O ht=>?_,c.GS,s1.trans c.EI,hh.eq z,c0,⟨by rw[s2];exact c.df.1,c.df.2⟩,fun j a3 f=>?_,b4,W,c.go.trans ⟨p,C⟩⟩
  ·rw[h4,h2.dst]at ht
   by_cases e:o'.dst=some t
   ·rw[if_pos e]at ht;exact .inl ⟨e,h2.fits t e,ht⟩
   ·rw[if_neg e]at ht;exact .inr ⟨fun q=>e q.1,ht⟩
  ·rw[r]at f
   by_cases e:j=k
   ·rw[if_pos e]at f;cases f
   ·rw[if_neg e]at f;exact c6 j a3 e (c.un j a3 f)
 have s:d.new=none->∀(v:Value) (w':World) (β':BB) (G':Aj),(∀O,d.out.val=some O->AO β' G' O v)->Ext β G β' G'->Ax E w0 G0 (FD own outer) w' β' G' (BY (Bn L m.AM.get ds) d.out.Ba)->Fs β β' (Bn L m.AM.get ds) (BY (Bn L m.AM.get ds) d.out.Ba) (b+k) →
   OQ E w0 G0 outer V AU own ops b nx m ds I β0 Gz hz (a.put o'.dst v) w' β' G':=fun d2 v w' β' G' hv p hh C=>by
  have a1:∀id,id≠b+k->F0 β β' (Bn L m.AM.get ds) (Bn I m.AM.get ds) id:=fun id g hf=>by
   obtain⟨BI,BD,B9⟩:=C id g hf;exact⟨by rw[z];exact BI,BD,B9⟩
  refine y v w' β' G' hv p hh (fun id g=>a1 id (by omega)) (fun id g=>(a1 id (by omega)).fresh (c.fresh id g)) (fun j a3 c7 hf=>(a1 _ (by omega)).fresh hf) fun j J A1 AA Z hn f id b1 b0=>?_
  have a2:j≠k:=fun e=>by subst e;rw[r,if_pos rfl]at f;cases f
  rw[r,if_neg a2]at f;have:=(u j J A1 AA Z hn).1;exact(a1 id (by omega)).fresh (c.Ai5 j J A1 AA Z hn f id b1 b0)
 unfold wpOpIn;rw[A5];simp only;rcases h2.run with⟨r1,r2,r3,r4,_⟩|⟨r1,_,r3,r4,_⟩|⟨r1,r4,BU,b8,r5,r6,r7⟩
 ·rw[Xe c.B0 (iK v1 r1)];simp only[if_true];have a6:M8 E call (b+k) (Gq L (EN V m.base m.loc) ds) (Bn L m.AM.get ds) o'.op=some d.out:=by
   cases hm:SB o'.op with
   | true =>
    unfold SB at hm;split at hm
    ·rename_i x p;rw[p]at r2⊢;obtain⟨O,h1,h2⟩:=AD (show(CA _ x).bind ret=some d.out from r2);show(CA _ x).bind ret=some d.out;rw[kD v1 (x:=x) (by rw[p];simp[Op.operands]) h1];exact h2
    ·cases hm
   | false=>exact(Anv (ρ':=Gq L (EN V m.base m.loc) ds) (h':=Bn L m.AM.get ds) (fun x p O hd=>⟨kD v1 p hd,fun id g ob b6=>v2 id ob (by rw[r3];exact An1 hm p hd g) b6⟩) r2).1
  exact zF hE hp c.B0 c.AH (c.un k a8 hk) a6 K Q fun v w' β' G' hv p hh C=>hK _ _ _ _ (s r4 v w' β' G' hv p hh C)
 ·rw[Xe c.B0 (iK v1 r1)];simp only[CI,if_false];refine⟨fun _ _=>trivial,hK _ _ β G (s r4 undef w β G (fun O a7=>?_) (Ext.refl _ _) ?_ ?_)⟩
  ·rw[r3]at a7;cases a7;exact UO
  ·rw[r3];exact c.AH
  ·rw[r3];exact Fs.refl _ _ _
 ·rw[Xe c.B0 (iK v1 r1)];simp only[if_true];obtain⟨Aw,BS,CK⟩:=u k d M U h1 r4;have b9:=X8 r5;have b2:target E (Gq L (EN V m.base m.loc) ds) BU=some b8:=Alu (fun x p O hd=>kD v1 (by rw[b9];exact p) hd) r6
  have a9:∀id,M<=id->C3 β (Bn L m.AM.get ds) id:=fun id g=>by
   rcases Nat.lt_or_ge id nx with q|q
   ·obtain⟨j,J,b3,c9,g1,g2,g3,g4,g5⟩:=Aau hs k d M U h1 r4 id g q;refine c.Ai5 j J b3 c9 g1 g2 ?_ id g3 g4;rcases g5 with rfl|g5
    ·exact hk
    ·cases hq:L j with
     | false=>rfl
     | true=>have:=c.down j J g1 hq k g5;rw[hk]at this;cases this
   ·exact c.fresh id q
  refine yI hE hH hY c.B0 r5 b2 c.AH r7 (fun i AA x p=>v2 i x AA p) a9 fun v w' β' G' hv d0 p C hh b5=>hK _ _ β' G' ?_;have a5:∀id,id<M->F0 β β' (Bn L m.AM.get ds) (Bn I m.AM.get ds) id:=fun id g hf=>by
   obtain⟨BI,BD,B9⟩:=C id g hf;exact⟨by rw[z];exact BI,BD,B9⟩
  have a4:∀id,U<=id->C3 β' (Bn I m.AM.get ds) id:=fun id g=>by
   have:=b5 id g;exact⟨this.BE,this.Am,by rw[z];exact this.h⟩
  refine y v w' β' G' hv p hh (fun id g=>a5 id (by omega)) (fun id g=>a4 id (by omega)) (fun j a3 c7 hf=>(a5 _ (by omega)).fresh hf) fun j J A1 AA Z hn f id b1 b0=>?_
  have a2:j≠k:=fun e=>by subst e;rw[r,if_pos rfl]at f;cases f
  rw[r,if_neg a2]at f;rcases Ace hs k d M U j J A1 AA h1 r4 Z hn a2 with q|q
  ·rw[l d h1 j q]at f;cases f
  ·exact a4 id (by omega)
theorem iS {L:Nat->Bool} {nx0:Nat}:∀{ds:List (Nat×Dd)} {k nx:Nat},I6 E call callH callY V AU ops b m k nx ds->(∀j d,(j,d)∈ds->L j=true) →
  (∀t,Gq L (EN V m.base m.loc) ds t=EN V (HL V AU ds { m with next:=nx0 }).base (HL V AU ds { m with next:=nx0 }).loc t)/\(∀id,Bn L m.AM.get ds id=(HL V AU ds { m with next:=nx0 }).AM.get id)/\(HL V AU ds { m with next:=nx0 }).next=nx0 ∧
   ((∀t d,m.base.get t=some d->Nat.testBit V t=true)->∀t d,(HL V AU ds { m with next:=nx0 }).base.get t=some d->Nat.testBit V t=true)
 | [],k,_,_,_=>⟨fun _=>rfl,fun _=>rfl,rfl,fun h=>h⟩
 | (j,d)::ds,k,nx,hs,hl=>by
  obtain⟨_,_,⟨o,c⟩,g⟩:=hs;obtain⟨k1,k2,l,u⟩:=iS (nx0:=nx0) g (fun i e AA=>hl i e (by simp[AA]))
  have a:=hl j d (by simp)
  simp only[HL];obtain⟨C,z⟩:=RU V AU ({ HL V AU ds { m with next:=nx0 }with AM:=E9 (HL V AU ds { m with next:=nx0 }).AM d.out.Ba }:Dr) d.dst d.out.val
  refine⟨fun t=>?_,fun id=>?_,by rw[z];exact l,fun f=>Acq V AU _ d.dst d.out.val (u f)⟩
  ·rw[AbU];simp only[Gq,a,true_and]
   by_cases e:d.dst=some t
   ·rw[if_pos e,if_pos ⟨e,c.fits t (by rw[<-c.dst];exact e)⟩]
   ·rw[if_neg e,if_neg (fun q=>e q.1)];exact k1 t
  ·rw[C,UG];simp only[Bn,a,if_true];unfold BY;cases DB id d.out.Ba with
   | some x=>rfl
   | none=>exact k2 id
theorem OQ.full {ds:List (Nat×Dd)} {k nx:Nat} (hs:I6 E call callH callY V AU ops b m k nx ds) {L:Nat->Bool} (hl:∀j d,(j,d)∈ds->L j=true) {q:BB} {z:Aj} {l:Nat->Option A8} (c:OQ E w0 G0 outer V AU own ops b nx m ds L q z l a w β G) :
  Ge E w0 G0 outer V AU own (HL V AU ds { m with next:=nx }) a w β G/\D6 b q z β G l (HL V AU ds { m with next:=nx }).AM.get/\(HL V AU ds { m with next:=nx }).next=nx:=by
 obtain⟨k1,k2,u,C⟩:=iS (nx0:=nx) hs hl;have hf:∀id,C3 β (Bn L m.AM.get ds) id->C3 β (HL V AU ds { m with next:=nx }).AM.get id:=fun id h=>⟨h.BE,h.Am,by rw[<-k2];exact h.h⟩
 refine⟨⟨fun t d ht=>c.B0 t d (by rw[k1];exact ht),C c.GS,c.EI,c.AH.eq fun i=>(k2 i).symm,fun id e=>hf id (c.fresh id (by rw[<-u];exact e)),c.df⟩,⟨c.go.ext,fun id e hn=>?_⟩,u⟩
 obtain⟨BI,BD,B9⟩:=c.go.Cs id e hn;exact⟨by rw[<-k2];exact BI,BD,B9⟩
end
end Go.Ab
namespace Go.Ab
open Go.RowKit
section
variable {P:Program} {E:Env} {w0:World} {G0:Aj} {outer:CW} {own:List Nat} {V AU:Nat} {a:Act} {w:World} {β:BB} {G:Aj} {ro:Option Nat} {n:Nat} {call:Nat->List AB->Option AB} {callH callY:D5} {ops:Array Oper} {b:Nat} {m:Dr} {c:Nat}
theorem Aan {p d:Nat->Bool}:∀{l:List Nat} {x:Nat},x∈l->p x=true->d x=false->(∀y,d y=true->p y=true)->l.countP d+1<=l.countP p
 | [],_,h,_,_,_=>by cases h
 | y::l,x,h,j,q,i=>by
  have a:l.countP d<=l.countP p:=List.countP_mono_left fun z _ u=>i z u;rw[List.countP_cons,List.countP_cons];rcases DK.1 h with rfl|h
  ·rw[if_pos j,if_neg (by rw[q];simp)];omega
  ·have:=Aan h j q i
   by_cases e:d y=true
   ·rw[if_pos e,if_pos (i y e)];omega
   ·rw[if_neg e];split<;>omega
def AT (listed:Array Bool) (j:Nat):Bool:=listed.getD j false
def Pc (N:Nat) (listed:Array Bool):Nat:=(List.range N).countP fun j => !AT listed j
theorem mH {listed:Array Bool} {i:Nat} (AA:i<listed.size) (j:Nat):AT (listed.setIfInBounds i true) j=if j=i then true else AT listed j:=by
 unfold AT
 by_cases e:j=i
 ·subst e;simp[AA]
 ·have:i≠j:=fun h=>e h.symm;simp[e,Array.getElem?_setIfInBounds_ne this]
theorem AnL {listed:Array Bool} {i:Nat} (AA:i<listed.size) (hl:AT listed i=false):Pc listed.size (listed.setIfInBounds i true)+1<=Pc listed.size listed:=by
 unfold Pc;refine Aan (x:=i) (List.mem_range.2 AA) (by simp[hl]) (by simp[mH AA]) fun y hy=>?_
 rw[mH AA]at hy
 by_cases e:y=i
 ·rw[if_pos e]at hy;simp at hy
 ·rw[if_neg e]at hy;exact hy
theorem AmC {N:Nat} {listed:Array Bool} (h:Pc N listed=0):∀j,j<N->AT listed j=true:=fun j a=>by
 have:=List.countP_eq_zero.1 h j (List.mem_range.2 a);simpa using this
theorem kL {listed:Array Bool} (d:listed.size=ops.size) {j:Nat}:j∈Region.ready .any ops listed↔AT listed j=false/\∃o,ops[j]? = some o/\∀e∈o.after,Region.binds .any e=true->AT listed e.on=true:=by
 rw[mem_ready];constructor
 ·rintro⟨b,o,c,f⟩;have a:j<listed.size:=by rw[d];exact(Gv.1 c).1
  refine⟨?_,o,c,f⟩;unfold AT;simp[a]at b⊢;exact b
 ·rintro⟨b,o,c,f⟩;have a:j<listed.size:=by rw[d];exact(Gv.1 c).1
  refine⟨?_,o,c,f⟩;unfold AT at b;simp[a]at b⊢;exact b
theorem Amg (hE:∀t ti,E.ty t=some ti->Br P t ti) (z:Kp P E call) (hH:HW P E callH) (hY:J7 P E callY) {Q:Exit->Act->World->Prop} {β0:BB} {Gz:Aj} {hz:Nat->Option A8} {m:Dr} {ds:List (Nat×Dd)} {nx:Nat} (hs:I6 E call callH callY V AU ops b m ops.size nx ds) (s:b+ops.size<=m.next)
  (v:∀O w' β' G',Ge E w0 G0 outer V AU own (HL V AU ds { m with next:=nx }) O w' β' G'->D6 b β0 Gz β' G' hz (HL V AU ds { m with next:=nx }).AM.get->Q .normal O w') :
  ∀(C:Nat) (listed:Array Bool) (a:Act) (w:World) (β:BB) (G:Aj),listed.size=ops.size->Pc ops.size listed<=C->OQ E w0 G0 outer V AU own ops b nx m ds (AT listed) β0 Gz hz a w β G->wpAnyIn (Fg ro) n P .any ops Q C listed a w:=by
 intro C
 induction C with
 | zero =>
  intro listed a w β G I K J;have c:=AmC (Nat.le_zero.1 K);have AH:Region.ready .any ops listed=[]:=by
   cases a0:Region.ready .any ops listed with
   | nil=>rfl
   | cons j l =>
    obtain⟨x,o,g,_⟩:=(kL (j:=j) I).1 (by rw[a0];simp)
    rw[c j (Gv.1 g).1]at x;cases x
  obtain⟨f1,W,_⟩:=J.full hs fun j d p=>c j (Yj hs j d p);exact⟨AH,v a w β G f1 W⟩
 | succ C Z =>
  intro listed a w β G I K J;refine⟨fun AH=>?_,fun i AA=>?_⟩
  ·
   have c:∀j,j<ops.size->AT listed j=true:=fun j=>by
    induction j using Nat.strongRecOn with
    | _ j a1 =>
     intro p;obtain⟨d,tl,o,_,_,_,g,_⟩:=AcH hs j p;cases U:AT listed j with
     | true=>rfl
     | false =>
      have:j∈Region.ready .any ops listed:=(kL I).2 ⟨U,o,g.op,fun e y hb=>a1 e.on (g.Adg e y hb) (by have:=g.Adg e y hb;omega)⟩
      rw[AH]at this;cases this
   obtain⟨f1,W,_⟩:=J.full hs fun j d p=>c j (Yj hs j d p);exact v a w β G f1 W
  ·obtain⟨q,o,r,u⟩:=(kL I).1 AA;have h:=(Gv.1 r).1;have k:=mH (listed:=listed) (i:=i) (by omega)
   have f:Pc ops.size (listed.setIfInBounds i true)<=C:=by
    have:=AnL (listed:=listed) (i:=i) (by omega) q
    rw[I]at this;omega
   exact AnN hE z hH hY hs h s q k r u J fun O w' β' G' M=>Z _ O w' β' G' (by simpa using I) f M
theorem AlG (hE:∀t ti,E.ty t=some ti->Br P t ti) (M:Kp P E call) (K:HW P E callH) (U:J7 P E callY) {Q:Exit->Act->World->Prop} {m I:Dr}
  (z:Hs E call callH callY V AU ops b 0 ops.toList m []=some I) (v:b+ops.size<=m.next) (r:∀j,j<ops.size->C3 β m.AM.get (b+j)) (k:Ge E w0 G0 outer V AU own m a w β G)
  (W:∀J w' β' G',m.next<=I.next->Ge E w0 G0 outer V AU own I J w' β' G'->D6 b β G β' G' m.AM.get I.AM.get->Q .normal J w') :
  wpAnyIn (Fg ro) n P .any ops Q ops.size (Array.replicate ops.size false) a w:=by
 obtain⟨nx,ds,hs,rfl⟩:=Xp (m:=m) ops.toList 0 I m.next [] z rfl ⟨rfl,rfl⟩ (Nat.zero_le _);have f:∀j,AT (Array.replicate ops.size false) j=false:=fun j=>by
  unfold AT
  by_cases e:j<ops.size
  ·simp[e]
  ·simp[e]
 obtain⟨u,c⟩:=Yi hs;have AS:∀(l:List (Nat×Dd)) t,Gq (AT (Array.replicate ops.size false)) (EN V m.base m.loc) l t=EN V m.base m.loc t:=fun l t=>by
  induction l with
  | nil=>rfl
  | cons p l C =>
   obtain⟨i,e⟩:=p;simp only[Gq,f i,CI,false_and,if_false];exact C
 have BG:∀(l:List (Nat×Dd)) id,Bn (AT (Array.replicate ops.size false)) m.AM.get l id=m.AM.get id:=fun l id=>by
  induction l with
  | nil=>rfl
  | cons p l C =>
   obtain⟨i,e⟩:=p;simp only[Bn,f i,CI,if_false];exact C
 have s:∀id,C3 β m.AM.get id->C3 β (Bn (AT (Array.replicate ops.size false)) m.AM.get ds) id:=fun id h=>⟨h.BE,h.Am,by rw[BG];exact h.h⟩
 have g:(HL V AU ds { m with next:=nx }).next=nx:=(iS (L:=fun _=>true) (nx0:=nx) hs fun _ _ _=>rfl).2.2.1
 refine Amg hE M K U hs v (fun J w' β' G' y O=>W J w' β' G' (by rw[g];exact u) y O) ops.size _ a w β G (by simp) (by unfold Pc;exact Nat.le_trans (List.countP_le_length) (by simp))
  ⟨fun t d ht=>k.B0 t d (by rw[<-AS];exact ht),k.GS,k.EI,k.AH.eq (BG ds),fun id x=>s id (k.fresh id (by omega)),k.df,fun j q _=>s _ (r j q),(fun j d A1 AA q hn _ id y _=>s id (k.fresh id (by have:=(c j d A1 AA q hn).1;omega))),
   (fun j d q o=>by rw[f j]at o;cases o),⟨Ext.refl _ _,fun id x hn=>⟨by rw[BG];exact hn,rfl,fun _=>rfl⟩⟩⟩
end
end Go.Ab
