/- What the code of the program comes to on plain values. -/
import Derived.Test.YtaaalkppbbpacaaGreatDoorA1
import Derived.Lib.UnsafeStr
import Derived.TacticsIn
import Derived.LoopNIn
import Derived.RangeFuncLeaves
import Derived.OrdersIn
import Derived.RangeFuncIn
set_option linter.unusedSectionVars false
set_option linter.unusedVariables false
set_option linter.unusedSimpArgs false
namespace Go.Ab
open Go.RowKit
section
variable {P:Program} {E:Env} {w0:World} {G0:Gh} {D:DD} {o:Oper} {a:Act} {w:World} {β:Bi} {G:Gh} {h:Nat→Option Zd} {nid:Nat} {ρ:Nat→Option DV}
theorem Z1l {α:Type} {x:Array α} {l:List α} (h:x.toList=l):x=l.toArray:=by subst h;simp
theorem ZX.und {t:TypeId} {ti:TI} (ht:ZX P t ti):∃d,P.underlying t=some d:=by
  have hd:=ht.desc;cases hkk:ti.k<;>rw[hkk]at hd<;>simp only at hd
  all_goals first
    | exact⟨_,hd⟩
    | (obtain⟨f,hd,_⟩:=hd;exact⟨_,hd⟩)
    | (obtain⟨a,b,c,hd⟩:=hd;exact⟨_,hd⟩)
    | (obtain⟨a,hd⟩:=hd;exact⟨_,hd⟩)
theorem ZiA {s:Sem Unit} {w':World} (he:execOp a.eval o=(do s;Pure.pure Next.skip)) (hs:s.run P w=.ok () w'):(execOp a.eval o).run P w=.ok .skip w':=by
  rw[he];simp[hs]
theorem YO {s:Sem Value} {v:Value} {w':World} (he:execOp a.eval o=(do Pure.pure (Next.value (←s)))) (hs:s.run P w=.ok v w'):(execOp a.eval o).run P w=.ok (.value v) w':=by
  rw[he];simp[hs]
theorem Z3V:Rep β G (.tup []) undef:=YN.2 ⟨[],rfl,Zn.2 rfl⟩
theorem ZfT (hh:HR E w0 G0 D w β G h) (hf:ZS β h nid) (s:ByteArray) :
    ∃β',Ext β G β' G∧β'.blk nid=some w.heap.size∧HR E w0 G0 D (w.alloc (.stringIter s 0)) β' G (ZK h [(nid,some (.siter s 0))])∧Z2C β β' h (ZK h [(nid,some (.siter s 0))]) nid :=
  hh.lay hf _ _ (fun _ _ _ _ hq=>by cases hq) fun β' _ hb=>⟨_,hb,heap_alloc_new w (.stringIter s 0)⟩
theorem Zi9 (hh:HR E w0 G0 D w β G h) (hf:ZS β h nid) :
    ∃β',Ext β G β' G∧β'.blk nid=some w.heap.size∧HR E w0 G0 D (w.alloc (.map #[] 0)) β' G (ZK h [(nid,some (.map []))])∧Z2C β β' h (ZK h [(nid,some (.map []))]) nid :=
  hh.lay hf _ _ (fun _ _ _ _ hq=>by cases hq) fun β' _ hb=>⟨_,_,_,hb,heap_alloc_new w (.map #[] 0),rfl⟩
theorem Z3Z {l pos:Nat} {s:ByteArray} (h:w.heap[l]? = some (.stringIter s pos)):(getObj l).run P w=.ok (.stringIter s pos) w:=by simp[getObj,Sem.run,h]
theorem Z9n {l:Nat} {r:Obj} {ob:Obj} (h:w.heap[l]? = some ob) (hc:∀c t f,ob≠.cells c t f):(setObj l r).run P w=.ok () (w.putObj l r):=by
  cases ob<;>first|(exact absurd rfl (hc _ _ _))|simp[setObj,Sem.run,World.putObj,h]
theorem Ze7 (hh:HR E w0 G0 D w β G h) {t:TypeId} {ti ei:TI} (ht:ZX P t ti) {e:Nat} (hk:ti.k=.slice e) (he:ZX P e ei) {es:List (List DV)} {dx:DV} {u:Value} (hes:Y4 h dx=some es) (hr:Rep β G dx u)
    {lo hi:Option DV} {vlo vhi:Option Value} (hl:Z8n β G lo vlo) (hhi:Z8n β G hi vhi) {d:DV} (hd:Zff es ei.size dx lo hi=some d) :
    ∃r,(Instr.sliceAt t u vlo vhi none).run P w=.ok r w∧Rep β G d r:=by
  have hdesc:=ht.desc;rw[hk]at hdesc;unfold Zff at hd;obtain⟨m,h1,hd⟩:=Z0 hd;obtain⟨l,h2,hd⟩:=Z0 hd;cases dx with
  | rs id ver =>
    simp only[Y4]at hes;obtain⟨ob,hob,hes⟩:=Z0 hes;split at hes
    · rename_i t' es' p u'
      obtain⟨hu,hes⟩:=Z3 hes;cases hes;have hu:u'=ver:=Nat.eq_of_beq_eq_true hu;subst hu;obtain⟨hdr,vals,k1,k2,_⟩:=hh.obj _ _ hob;obtain⟨k5,_⟩:=Z2J.1 hr;rw[k1]at k5;cases k5;have hform:∃A c,u=.slice A es.length c∧es.length≤c∧(es.length=0∨∃b,A=some ⟨b,0,none⟩):=by
        rcases k2.2 with⟨rfl,k⟩|⟨g,cap,cur,rfl,_,_,k,_⟩
        · exact⟨none,0,by rw[k],by omega,.inl k⟩
        · exact⟨_,cap,rfl,k,.inr ⟨g,rfl⟩⟩
      obtain⟨A,c,rfl,hle,hA⟩:=hform;obtain⟨k1',k2',k3'⟩:=Z2R (P:=P) (w:=w) (isSlice:=true) hl hhi h1 h2 hle;refine⟨.slice (if c=l then A else A.map (·.add (l*ei.size))) (m-l) (c-l),by simp[Instr.sliceAt,Instr.slice,Go.run_underlying hdesc,k1',he.run_sizeOf],?_⟩
      cases hd;refine Zbi.2 ⟨A,es.length,c,_,c-l,k1,rfl,by omega,by omega,?_⟩
      by_cases hml:m-l=0
      · exact .inl hml
      · rcases hA with hA|⟨b,rfl⟩
        · omega
        · refine .inr ⟨b,rfl,?_⟩
          rw[if_neg (by omega)]
          simp[Ym]
    · cases hes
  | _=>cases hd
theorem Z9y:∀{es:List (List DV)} {l:List UInt8},Z6V es=some l→es=l.map fun b=>[DV.int .u8 b.toNat]
  | [],l,h=>by cases h;rfl
  | e::es,l,h=>by
    unfold Z6V at h;split at h
    · rename_i heq;cases heq
    · rename_i n es' heq
      cases heq;obtain⟨hq,h⟩:=Z3 h;simp only[Bool.and_eq_true,decide_eq_true_eq]at hq;obtain⟨l',h1,h⟩:=Z0 h;cases h;rw[List.map_cons,←Z9y h1];have:((UInt8.ofNat n.toNat).toNat:Int)=n:=by
        rw[UInt8.toNat_ofNat_of_lt' (by simp[UInt8.size];omega)];omega
      rw[this]
    · cases h
theorem Z9T:∀(l:List UInt8) (vals:List Value),Zi β G (l.map fun b=>[DV.int .u8 b.toNat]).flatten vals→vals=l.map fun x=>Value.int .u8 x.toNat
  | [],vals,h=>Zn.1 h
  | b::l,vals,h=>by
    obtain⟨v,vs,rfl,h1,h2⟩:=Zb.1 h;rw[ZH.1 h1,Z9T l vs h2];rfl
theorem Z4a (w:World) (p:Addr) (n:Nat) {b:Nat} (hb:b≠p.block):(w.freeze p n).heap[b]? = w.heap[b]? := by
  unfold World.freeze;split
  · rfl
  · simp only[Array.getElem?_modify];rw[if_neg (fun e=>hb e.symm)]
theorem Zc0 (w:World) (p:Addr) (n:Nat) (x:Addr):(w.freeze p n).cell? x=w.cell? x:=by
  by_cases hb:x.block=p.block
  · unfold World.freeze
    split
    · rfl
    · unfold World.cell?
      simp only[Array.getElem?_modify,hb,if_true];cases hg:w.heap[p.block]? with
      | none=>rfl
      | some ob=>cases ob<;>rfl
  · exact World.cell?_of_block (Z4a w p n hb)
theorem Zc1 (w:World) (p:Addr) (n:Nat):(w.freeze p n).heap.size=w.heap.size:=by
  unfold World.freeze;split
  · rfl
  · simp
theorem HR.dropRow (hh:HR E w0 G0 D w β G h) {id e:Nat} {es:List (List DV)} {p u:Nat} (ho:h id=some (.row e es p u)) {g:Nat} (hown:Yv β id (.row e es p u) g) (n:Nat):HR E w0 G0 D (w.freeze ⟨g,0,none⟩ n) β G (ZK h [(id,none)]):=by
  obtain⟨k1,_,k3⟩:=hh.own id _ g ho hown;have hget:∀i x,ZK h [(id,none)] i=some x→i≠id∧h i=some x:=fun i x hi=>by
    rw[ZV]at hi
    by_cases e:i=id
    · rw[if_pos e]at hi;cases hi
    · rw[if_neg e]at hi;exact⟨e,hi⟩
  have hother:∀i x c,i≠id→h i=some x→Yv β i x c→c≠g:=fun i x c hi hx hc q=>hi (hh.inj i id x _ g hx ho (q▸hc) hown);refine⟨Lib.below_freeze hh.below k1 n,hh.g0,fun b o v hg=>by rw[Zc0];exact hh.agree b o v hg,fun i x hi=>?_,fun i x c hi hc=>?_,fun i j x y c hi hj hc hc'=>hh.inj i j x y c (hget i x hi).2 (hget j y hj).2 hc hc',fun d x hd=>?_,hh.inv0⟩
  · obtain⟨hne,hx⟩:=hget i x hi
    exact Z2n.keep (Ext.refl _ _) (fun _=>rfl) (fun c hc=>⟨Z4a w _ n (hother i x c hne hx hc),fun _=>rfl⟩) (hh.obj i x hx)
  · obtain⟨hne,hx⟩:=hget i x hi
    obtain⟨m1,m2,m3⟩:=hh.own i x c hx hc;exact⟨m1,by rw[Zc1];exact m2,m3⟩
  · obtain⟨m1,m2,m3⟩:=hh.marks d x hd
    exact⟨m1,(Z4a w _ n (fun q=>by rw[q,k3]at hd;cases hd)).trans m2,m3⟩
theorem Zft {id:Nat} {x:Zd} (ho:h id=some x):Z2C β β h (ZK h [(id,none)]) nid:=fun i _ hf=>by
  have hne:i≠id:=fun q=>by rw[q,ho]at hf;cases hf
  exact⟨by rw[ZV,if_neg hne];exact hf,rfl,fun _=>rfl⟩
theorem Z6O (ats:Array TypeId) (ty:TypeId):(Builtin.unsafeSliceData_ ats ty #[.slice none 0 0]).run P w=.ok (.pointer none) w:=rfl
theorem Z9P (ats:Array TypeId) (ty:TypeId) (a:Addr) (n c:Nat) (hc:c≠0):(Builtin.unsafeSliceData_ ats ty #[.slice (some a) n c]).run P w=.ok (.pointer (some a)) w:=by
  have h:Builtin.unsafeSliceData_ ats ty #[.slice (some a) n c]=(if c≠0 then(pure (.pointer (some a)):Sem Value)else(do
      if(←viewAt a.block).isSome then pure (.pointer (some a))else pure (.pointer (some ⟨←newObj (.view a (←elemOf ty)),0,none⟩)))):=rfl
  rw[h,if_pos hc];rfl
theorem Zfv (hE:∀t ti,E.ty t=some ti→ZX P t ti) (hf:FrM β G ρ a.tmps) (hh:HR E w0 G0 D w β G h) (hfr:ZS β h nid) {c:Call} (ho:o.op=.call c) {r:Out}
    (hd:ZE E nid ρ h (.call c)=some r):Yb P E w0 G0 D o a w β G h nid r:=by
  have hexec:∀b,c.callee=.builtin b→∃cs,execOp a.eval o=Go.builtin b c.argTypes o.type cs (c.args.map a.eval):=fun b hb=>by
    refine⟨c.args.map fun | .const _=>true|_=>false,?_⟩;unfold execOp;rw[ho];simp[resolve,hb,invoke];rfl
  simp only[ZE]at hd;split at hd
  · rename_i hb
    split at hd
    · rename_i x t ts hx ht
      obtain⟨ti,hti,hd⟩:=Z0 hd;obtain⟨d,hdx,hd⟩:=Z0 hd;obtain⟨u,hu,hd⟩:=Z0 hd;cases hd;have hts:c.argTypes[0]? = some t:=by rw[Z1l ht];simp
      obtain⟨v,h1,h2⟩:=ZfC (ty:=o.type) hh (hE t ti hti) hts hu (Zr hf hdx);refine Yb.pure hh (v:=v) ?_ h2;obtain⟨cs,hcs⟩:=hexec _ hb;rw[hcs,Z1l hx];simp[Go.builtin,h1]
    · cases hd
  · rename_i hb
    split at hd
    · rename_i s x t t' hx ht
      obtain⟨ds,hds,hd⟩:=Z0 hd;obtain⟨dx,hdx,hd⟩:=Z0 hd;obtain⟨v,w',β',h1,h2,h3,h4,h5⟩:=ZaD (ty:=o.type) hE hh hfr (Zr hf hds) (Zr hf hdx) hd;refine⟨.value v,v,w',β',G,?_,.inl rfl,h2,h3,h4,h5⟩;obtain⟨cs,hcs⟩:=hexec _ hb;rw[hcs,Z1l hx,Z1l ht];simp[Go.builtin,h1]
    · cases hd
  · rename_i hb
    obtain⟨cs,hcs⟩:=hexec _ hb;split at hd
    · rename_i x hx
      obtain⟨d,hdx,hd⟩:=Z0 hd;have hr:=Zr hf hdx;split at hd
      · obtain rfl:=Z1t hd
        rw[Z1U]at hr;refine Yb.pure hh (v:=.pointer none) ?_ (Z6J.2 rfl);rw[hcs,Z1l hx];simp only[List.map_toArray,List.map_cons,List.map_nil,hr,Go.builtin,Sem.run_bind,Z6O];rfl
      · rename_i id v
        obtain⟨ob,ho2,hd⟩:=Z0 hd;split at hd
        · rename_i e c es p u
          obtain⟨hq,hd⟩:=Z3 hd;obtain rfl:=Nat.eq_of_beq_eq_true hq;obtain rfl:=Z1t hd;obtain⟨hdr,vals,h1,h2,_⟩:=hh.obj id _ ho2;obtain⟨hv,_⟩:=Z2J.1 hr;rw[hv]at h1;cases h1;rcases h2.2 with⟨_,hz⟩|⟨g,cap,cur,hg,_,_,hn,_⟩
          · simp at hz
          · have hc0:cap≠0:=by simp only[List.length_cons]at hn;omega
            rw[hg]at hv;refine Yb.pure hh (v:=.pointer (some ⟨g,0,none⟩)) ?_ (Z1V.2 ⟨g,_,cap,hv,by simp⟩)
            rw[hcs,Z1l hx];simp only[List.map_toArray,List.map_cons,List.map_nil,hg,Go.builtin,Sem.run_bind,Z9P _ _ _ _ _ hc0];rfl
        · cases hd
      · cases hd
    · cases hd
  · rename_i hb
    obtain⟨cs,hcs⟩:=hexec _ hb;split at hd
    · rename_i x n t t' hx ht
      obtain⟨dx,hdx,hd⟩:=Z0 hd;obtain⟨dn,hdn,hd⟩:=Z0 hd;obtain⟨ti,hti,hd⟩:=Z0 hd;have hr:=Zr hf hdx;have hrn:=Zr hf hdn;have hu:=(hE t ti hti).desc;split at hd
      · obtain rfl:=Z1t hd
        rw[Z6J]at hr;rw[ZH]at hrn;refine Yb.pure hh (v:=.string .empty) ?_ (Y9.2 rfl);rw[hcs,Z1l hx,Z1l ht];simp[Go.builtin,hr,hrn,Lib.run_unsafeString_none]
      · rename_i id v k e _ _ _
        have hk:ti.k=TK.ptr e:=by assumption
        rw[hk]at hu;obtain⟨ob,ho2,hd⟩:=Z0 hd;split at hd
        · rename_i e' es p u
          obtain⟨hq,hdz⟩:=Z3 hd;clear hd;simp only[Bool.and_eq_true]at hq;obtain⟨⟨⟨⟨q1,q2⟩,q3⟩,q4⟩,q5⟩:=hq;obtain rfl:=Nat.eq_of_beq_eq_true q1;obtain rfl:=Nat.eq_of_beq_eq_true q2;have q3:k=(es.length:Nat):=by simpa using q3
          subst q3;have q4:0<es.length:=Nat.le_of_ble_eq_true q4;have q5:=Nat.le_of_ble_eq_true q5;obtain⟨l,hl,hdz⟩:=Z0 hdz;cases hdz;have hes:=Z9y hl;obtain⟨hdr,vals,h1,h2,h3,h4,h5,h6,h7⟩:=hh.obj id _ ho2;obtain⟨b,m,c,hv,he⟩:=Z1V.1 hr;rw[hv]at h1;cases h1;have hll:es.length=l.length:=by rw[hes];simp
          have hsz:YE E e=1:=by
            rw[←(h4 _ (List.getElem_mem q4)).1];simp only[hes,List.getElem_map];rfl
          have hcell:P.cellsOf e=1:=by
            unfold YE at hsz;cases hte:E.ty e with
            | none=>rw[hte]at hsz;cases hsz
            | some ei =>
              rw[hte]at hsz;obtain⟨i,z,k1,k2,_⟩:=(hE e ei hte).info;simp[Program.cellsOf,k1,k2];exact hsz
          rcases h2.2 with⟨hg,_⟩|⟨g,cap,cur,hg,_,hgc,hn,_,hcs2,htk⟩
          · cases hg
          · cases hg
            rw[hsz,Nat.mul_one]at htk;rw[hsz,Nat.mul_one]at hcs2;have hvals:vals=l.map fun x=>Value.int .u8 x.toNat:=by
              rw[hes]at h3;exact Z9T l vals h3
            have hcur:∀(j:Nat) (x:UInt8),l[j]? = some x→cur[j]? = some (Value.int .u8 x.toNat):=fun j x hj=>by
              have:vals[j]? = some (Value.int .u8 x.toNat):=by rw[hvals,List.getElem?_map,hj];rfl
              rw[←htk,List.getElem?_take]at this;split at this
              · simpa using this
              · cases this
            have hrun:=Lib.run_unsafeString_row (P:=P) w t t' o.type e hu hcell b cur.size (by simp[World.shape?,hgc]) l (fun hn=>by rw[hn]at hll;rw[hll]at q4;exact absurd q4 (by simp)) (by omega) (by omega) (fun j x hj=>by
              rw[Ym];simp[World.cell?,hgc,hcur j x hj])
            refine⟨.value (.string ⟨l.toArray⟩),_,w.freeze ⟨b,0,none⟩ l.length,β,G,?_,.inl rfl,fun d hd=>by cases hd;exact Y9.2 rfl,Ext.refl β G,hh.dropRow ho2 ⟨_,_,hv⟩ _,Zft ho2⟩
            rw[hcs,Z1l hx,Z1l ht];rw[ZH]at hrn;rw[hll]at hrn;have he:a.eval x=.pointer (some ⟨b,0,none⟩):=by simpa using he
            simp[Go.builtin,he,hrn,hrun]
        · cases hd
      · cases hd
    · cases hd
  · rename_i hb
    obtain⟨vs,hvs,hd⟩:=Z0 hd;split at hd
    · rename_i x xs
      obtain⟨d,hdd,hd⟩:=Z0 hd;cases hd;have hr:=Z1F hf hvs;obtain⟨v,vs',he,hr1,hr2⟩:=Zb.1 hr;obtain⟨u,h1,h2⟩:=Z4H (P:=P) (w:=w) (β:=β) (G:=G) (g:=Builtin.min2) ZdA hdd hr1 hr2;refine Yb.pure hh (v:=u) ?_ h2;obtain⟨cs,hcs⟩:=hexec _ hb;rw[hcs];simp[Go.builtin,Builtin.min_,he,h1]
    · cases hd
  · rename_i hb
    obtain⟨vs,hvs,hd⟩:=Z0 hd;split at hd
    · rename_i x xs
      obtain⟨d,hdd,hd⟩:=Z0 hd;cases hd;have hr:=Z1F hf hvs;obtain⟨v,vs',he,hr1,hr2⟩:=Zb.1 hr;obtain⟨u,h1,h2⟩:=Z4H (P:=P) (w:=w) (β:=β) (G:=G) (g:=Builtin.max2) Zdz hdd hr1 hr2;refine Yb.pure hh (v:=u) ?_ h2;obtain⟨cs,hcs⟩:=hexec _ hb;rw[hcs];simp[Go.builtin,Builtin.max_,he,h1]
    · cases hd
  · cases hd
theorem Zdr (hE:∀t ti,E.ty t=some ti→ZX P t ti) (hf:FrM β G ρ a.tmps) (hh:HR E w0 G0 D w β G h) (hfr:ZS β h nid) {r:Out}
    (hd:ZE E nid ρ h o.op=some r):Yb P E w0 G0 D o a w β G h nid r:=by
  cases ho:o.op with
  | call c=>rw[ho]at hd;exact Zfv hE hf hh hfr ho hd
  | move x =>
    rw[ho]at hd;simp only[ZE]at hd;obtain⟨d,h1,hd⟩:=Z0 hd;cases hd;exact Yb.pure hh (by unfold execOp;rw[ho];rfl) (Zr hf h1)
  | assign x =>
    rw[ho]at hd;simp only[ZE]at hd;obtain⟨d,h1,hd⟩:=Z0 hd;cases hd;exact Yb.pure hh (by unfold execOp;rw[ho];rfl) (Zr hf h1)
  | pick c x y =>
    rw[ho]at hd;simp only[ZE]at hd;obtain⟨dc,hc,hd⟩:=Z0 hd;split at hd
    · rename_i b
      have hcv:=ZM.1 (Zr hf hc);have hr:(execOp a.eval o).run P w=.ok (.value (if b then a.eval x else a.eval y)) w:=by
        unfold execOp;rw[ho];simp[hcv,asBool]
      cases b
      · obtain⟨d,h1,hd⟩:=Z0 hd
        cases hd;exact Yb.pure hh hr (Zr hf h1)
      · obtain⟨d,h1,hd⟩:=Z0 hd
        cases hd;exact Yb.pure hh hr (Zr hf h1)
    · cases hd
  | alloc t =>
    rw[ho]at hd;simp only[ZE]at hd;obtain⟨ti,hti,hd⟩:=Z0 hd;cases hd;exact ZbD hh hfr (hE t ti hti) ho
  | box t x =>
    rw[ho]at hd;simp only[ZE]at hd;obtain⟨d,h1,hd⟩:=Z0 hd;obtain⟨hq,hd⟩:=Z3 hd;cases hd;exact Zfn hh hfr ho (Zr hf h1) hq
  | build t ps =>
    rw[ho]at hd;simp only[ZE]at hd;have hrf:∃d,r=⟨some d,[]⟩:=by
      obtain⟨ti,hti,hd⟩:=Z0 hd;obtain⟨vs,hvs,hd⟩:=Z0 hd;split at hd
      · obtain⟨cs,hcs,hd⟩:=Z0 hd
        cases hd;exact⟨_,rfl⟩
      · obtain⟨ei,hei,hd⟩:=Z0 hd
        obtain⟨cs,hcs,hd⟩:=Z0 hd;cases hd;exact⟨_,rfl⟩
      · cases hd
    obtain⟨d,rfl⟩:=hrf;obtain⟨v,h1,h2⟩:=ZbK (P:=P) (w:=w) (β:=β) (G:=G) hE hf hd;exact Yb.pure hh (YO (by unfold execOp;rw[ho]) h1) h2
  | buildSlice t n ps =>
    rw[ho]at hd;obtain⟨v,w',β',G',h1,h2,h3,h4,h5⟩:=Z71 (P:=P) (a:=a) hE hf hh hfr hd;exact⟨.value v,v,w',β',G',YO (by unfold execOp;rw[ho]) h1,.inl rfl,h2,h3,h4,h5⟩
  | load t x =>
    rw[ho]at hd;simp only[ZE]at hd;obtain⟨ti,hti,hd⟩:=Z0 hd;obtain⟨dx,hx,hd⟩:=Z0 hd;obtain⟨d,h1,hd⟩:=Z0 hd;cases hd;obtain⟨v,h2,h3⟩:=Z91 hE hh (hE t ti hti) (hE t ti hti).ko (Zr hf hx) h1;exact Yb.pure hh (YO (by unfold execOp;rw[ho]) h2) h3
  | store t x y =>
    rw[ho]at hd;simp only[ZE]at hd;obtain⟨ti,hti,hd⟩:=Z0 hd;obtain⟨dx,hx,hd⟩:=Z0 hd;obtain⟨dy,hy,hd⟩:=Z0 hd;obtain⟨us,h1,hd⟩:=Z0 hd;cases hd;obtain⟨w',h2,h3,h4⟩:=ZcZ (nid:=nid) hh (hE t ti hti) (Zr hf hx) (Zr hf hy) h1;exact⟨.skip,undef,w',β,G,ZiA (by unfold execOp;rw[ho]) h2,.inr ⟨rfl,rfl⟩,fun d hd=>by cases hd;exact Z3V,Ext.refl β G,h3,h4⟩
  | nilCheck x =>
    rw[ho]at hd;simp only[ZE]at hd;obtain⟨d,h1,hd⟩:=Z0 hd;have hr:=Zr hf h1;have key:∀A,a.eval x=.pointer (some A)→(execOp a.eval o).run P w=.ok (.value (a.eval x)) w:=fun A hA=>by
      unfold execOp;rw[ho];simp[hA]
    split at hd
    · cases hd
      obtain⟨b,_,h2⟩:=Z1x.1 hr;exact Yb.pure hh (key _ h2) hr
    · cases hd
      obtain⟨b,_,_,_,h2⟩:=Z1V.1 hr;exact Yb.pure hh (key _ h2) hr
    · cases hd
      obtain⟨_,b,_,h2,_⟩:=Z5m.1 hr;exact Yb.pure hh (key _ h2) hr
    · cases hd
  | binOp op t x y z =>
    rw[ho]at hd;simp only[ZE]at hd;obtain⟨dx,hx,hd⟩:=Z0 hd;obtain⟨dy,hy,hd⟩:=Z0 hd;obtain⟨d,h1,hd⟩:=Z0 hd;cases hd;split at h1
    · have e1:=Z5l.1 (Zr hf hx)
      have e2:=Z5l.1 (Zr hf hy);obtain⟨hc,h1⟩:=Z3 h1;obtain⟨v,h2,h3⟩:=ZdB (P:=P) (w:=w) (β:=β) (G:=G) (x:=x) (y:=y) hE hc h1;exact Yb.pure hh (YO (by unfold execOp;rw[ho]) (by rw[e1,e2];exact h2)) h3
    · obtain⟨v,h2,h3⟩:=Zdi (P:=P) (w:=w) (x:=x) (y:=y) hE h1 (Zr hf hx) (Zr hf hy)
      exact Yb.pure hh (YO (by unfold execOp;rw[ho]) h2) h3
  | unOp op t x =>
    rw[ho]at hd;simp only[ZE]at hd;obtain⟨dx,hx,hd⟩:=Z0 hd;obtain⟨d,h1,hd⟩:=Z0 hd;cases hd;obtain⟨v,h2,h3⟩:=ZfY (P:=P) (w:=w) h1 (Zr hf hx);exact Yb.pure hh (YO (by unfold execOp;rw[ho]) h2) h3
  | convert s t x =>
    rw[ho]at hd;simp only[ZE]at hd;obtain⟨si,hsi,hd⟩:=Z0 hd;obtain⟨ti,hti,hd⟩:=Z0 hd;obtain⟨dx,hx,hd⟩:=Z0 hd;obtain⟨us,hus⟩:=(hE s si hsi).und;have hdesc:=(hE t ti hti).desc;have hr:=Zr hf hx;cases hk:ti.k with
    | int k =>
      rw[hk]at hd hdesc;cases dx with
      | int k' n =>
      cases hd;rw[ZH]at hr;refine Yb.pure hh (YO (v:=.int k (k.wrap n)) (by unfold execOp;rw[ho]) ?_) (ZH.2 rfl)
      simp[convert,Go.run_underlying hus,Go.run_underlying hdesc,hr,Conv.intToInt]
      | _=>cases hd
    | string =>
      rw[hk]at hd hdesc;cases dx with
      | str s' =>
      cases hd;rw[Y9]at hr;refine Yb.pure hh (YO (v:=.string s') (by unfold execOp;rw[ho]) ?_) (Y9.2 rfl)
      simp[convert,Go.run_underlying hus,Go.run_underlying hdesc,hr]
      | _=>cases hd
    | _=>rw[hk]at hd;cases hd
  | makeInterface t x =>
    rw[ho]at hd;simp only[ZE]at hd;obtain⟨ti,hti,hd⟩:=Z0 hd;obtain⟨dx,hx,hd⟩:=Z0 hd;have hk:ti.k≠.iface:=fun e=>by rw[e]at hd;cases hd
    have hd':ret (.iface t dx)=some r:=by
      cases hkk:ti.k<;>rw[hkk]at hd<;>first|exact hd|exact absurd hkk hk
    rw[Z1t hd'];obtain⟨h1,h2⟩:=Z85 (P:=P) (w:=w) (hE t ti hti) hk (Zr hf hx);exact Yb.pure hh (YO (by unfold execOp;rw[ho]) h1) h2
  | typeAssert x xt t ok =>
    rw[ho]at hd;simp only[ZE]at hd;obtain⟨ti,hti,hd⟩:=Z0 hd;obtain⟨dx,hx,hd⟩:=Z0 hd;have hk:ti.k≠.iface:=fun e=>by rw[e]at hd;cases dx<;>cases hd
    have:∃d,(match dx with
      | .nilif=>bif ok then(Z1f ti).bind fun z=>some (.tup [z,.bool false])else none
      | .iface t' v=>bif Nat.beq t' t then some (bif ok then .tup [v,.bool true]else v)else bif ok then(Z1f ti).bind fun z=>some (.tup [z,.bool false])else none
      | _=>none:Option DV)=some d∧r=⟨some d,[]⟩:=by
      cases dx with
      | nilif =>
        have hd':(bif ok then(Z1f ti).bind fun z=>ret (.tup [z,.bool false])else none)=some r:=by
          cases hkk:ti.k<;>rw[hkk]at hd<;>first|exact hd|exact absurd hkk hk
        cases ok with
        | false=>cases hd'
        | true =>
          obtain⟨z,hz,hd'⟩:=Z0 hd';exact⟨_,by simp[hz],Z1t hd'⟩
      | iface t' v =>
        have hd':(bif Nat.beq t' t then ret (bif ok then .tup [v,.bool true]else v)else bif ok then(Z1f ti).bind fun z=>ret (.tup [z,.bool false])else none)=some r:=by
          cases hkk:ti.k<;>rw[hkk]at hd<;>first|exact hd|exact absurd hkk hk
        simp only;cases hq:Nat.beq t' t with
        | true=>rw[hq]at hd';exact⟨_,rfl,Z1t hd'⟩
        | false =>
          rw[hq]at hd';cases ok with
          | false=>cases hd'
          | true =>
            obtain⟨z,hz,hd'⟩:=Z0 hd';exact⟨_,by simp[hz],Z1t hd'⟩
      | _=>cases hkk:ti.k<;>rw[hkk]at hd<;>cases hd
    obtain⟨d,h1,rfl⟩:=this;obtain⟨v,h2,h3⟩:=Z7B (P:=P) (w:=w) (xt:=xt) (hE t ti hti) hk h1 (Zr hf hx);exact Yb.pure hh (YO (by unfold execOp;rw[ho]) h2) h3
  | makeSlice t l c =>
    rw[ho]at hd;simp only[ZE]at hd;obtain⟨ti,hti,hd⟩:=Z0 hd;obtain⟨dl,hl,hd⟩:=Z0 hd;obtain⟨dc,hc,hd⟩:=Z0 hd;cases hk:ti.k with
    | slice e =>
     rw[hk]at hd;obtain⟨k1,n,rfl⟩:∃k n,dl=.int k n:=by cases dl<;>first|exact⟨_,_,rfl⟩|cases hd
     obtain⟨k2,n',rfl⟩:∃k n,dc=.int k n:=by cases dc<;>first|exact⟨_,_,rfl⟩|cases hd
     simp only at hd;obtain⟨ei,hei,hd⟩:=Z0 hd;obtain⟨hq,hd⟩:=Z3 hd;cases hd;simp only[Bool.and_eq_true,decide_eq_true_eq,beq_iff_eq]at hq;obtain⟨⟨⟨⟨q1,q2⟩,q3⟩,q4⟩,q5⟩:=hq;subst q1;have e1:=Zr hf hl;have e2:=Zr hf hc;rw[ZH]at e1 e2;obtain⟨v,w',β',h1,h2,h3,h4,h5⟩:=Z86 (P:=P) (k1:=k1) (k2:=k2) hE hh hfr (hE t ti hti) hk hei q2 (Nat.le_of_ble_eq_true q3) (Nat.le_of_ble_eq_true q4) q5;rw[←e1,←e2]at h1;exact⟨_,v,w',β',G,YO (by unfold execOp;rw[ho]) h1,.inl rfl,fun d hd=>by cases hd;exact h2,h3,h4,h5⟩
    | _=>rw[hk]at hd;cases hd
  | makeFunc f x y =>
    rw[ho]at hd;simp only[ZE]at hd;obtain⟨dx,hx,hd⟩:=Z0 hd;obtain⟨dy,hy,hd⟩:=Z0 hd;cases hd;refine Yb.pure hh (YO (v:=.func f (x.map a.eval) (y.map a.eval)) (by unfold execOp;rw[ho]) rfl) (Zbh.2 ⟨_,_,?_,Z1F hf hx,Z1F hf hy⟩)
    congr 1<;>(apply Array.ext';simp)
  | makeMap t x =>
    cases x with
    | some x=>rw[ho]at hd;simp[ZE]at hd
    | none =>
      rw[ho]at hd;simp only[ZE]at hd;cases hd;obtain⟨β',h1,h2,h3,h4⟩:=Zi9 hh hfr;refine⟨_,.map (some w.heap.size),_,β',G,YO (by unfold execOp;rw[ho]) ?_,.inl rfl,fun d hd=>by cases hd;exact Z8k.2 ⟨_,h2,rfl⟩,h1,h3,h4⟩
      simp[Instr.makeMap]
  | slice t x lo hi mx =>
    cases mx with
    | some m=>rw[ho]at hd;simp[ZE]at hd
    | none =>
      rw[ho]at hd;simp only[ZE]at hd;obtain⟨ti,hti,hd⟩:=Z0 hd;obtain⟨dx,hx,hd⟩:=Z0 hd;obtain⟨dl,hl,hd⟩:=Z0 hd;obtain⟨dh,hhi,hd⟩:=Z0 hd;have hdesc:=(hE t ti hti).desc;have hr:=Zr hf hx;have hlo:=ZeU hf hl;have hhr:=ZeU hf hhi;cases hk:ti.k with
      | string =>
        rw[hk]at hdesc hd;cases dx with
        | str s =>
          obtain⟨d,h1,hd⟩:=Z0 hd;cases hd;rw[Y9]at hr;unfold Ze3 at h1;obtain⟨m,k1,h1⟩:=Z0 h1;obtain⟨l,k2,h1⟩:=Z0 h1;cases h1;obtain⟨k3,_,_⟩:=Z2R (P:=P) (w:=w) (isSlice:=false) hlo hhr k1 k2 (Nat.le_refl _);refine Yb.pure hh (YO (v:=.string (s.extract l m)) (by unfold execOp;rw[ho]) ?_) (Y9.2 rfl)
          simp[Instr.sliceAt,Instr.slice,Go.run_underlying hdesc,hr,k3]
        | _=>cases hd
      | array n e =>
        rw[hk]at hd;cases dx with
        | ptr id off =>
          simp only at hd;obtain⟨ei,hei,hd⟩:=Z0 hd;obtain⟨ob,hob,hd⟩:=Z0 hd;cases ob with
          | cells ct cs =>
            obtain⟨hq,hd⟩:=Z3 hd;obtain⟨d,h1,hd⟩:=Z0 hd;cases hd;simp only[Bool.and_eq_true]at hq;obtain⟨v,G1,h2,h3,h4,h5⟩:=Z9s (P:=P) hE hh (hE t ti hti) hk hei hr hob (Nat.le_of_ble_eq_true hq.1.1) (Nat.le_of_ble_eq_true hq.1.2) hq.2 hlo hhr h1;exact⟨_,v,w,β,G1,YO (by unfold execOp;rw[ho]<;>rfl) h2,.inl rfl,fun d hd=>by cases hd;exact h3,h4,h5,fun i _ hq=>⟨by rw[ZV];split;exact rfl;exact hq,rfl,fun _=>rfl⟩⟩
          | _=>cases hd
        | _=>cases hd
      | slice e =>
        rw[hk]at hd;simp only at hd;obtain⟨ei,hei,hd⟩:=Z0 hd;obtain⟨es,hes,hd⟩:=Z0 hd;obtain⟨hq,hd⟩:=Z3 hd;simp only[Bool.and_eq_true,List.all_eq_true]at hq;have hql:∀c∈es,c.length=ei.size:=fun c hc=>Nat.eq_of_beq_eq_true (hq.1 c hc);cases hvw:ti.view&&Z39 h dx with
        | true =>
          rw[hvw]at hd;simp only[cond_true]at hd;obtain⟨d,h1,hd⟩:=Z0 hd;cases hd;obtain⟨v,h2,h3⟩:=Ze7 (P:=P) (w:=w) hh (hE t ti hti) hk (hE e ei hei) hes hr hlo hhr h1;exact Yb.pure hh (YO (by unfold execOp;rw[ho]<;>rfl) h2) h3
        | false =>
        rw[hvw]at hd;simp only[cond_false]at hd;obtain⟨d,h1,hd⟩:=Z0 hd;cases hd;obtain⟨G1,hx1,hh1,hs1⟩:=Z1L hh (Zj dx);have hsh:∃A c,a.eval x=.slice A es.length c∧es.length≤c∧(es=[]∨∃b off,A=some ⟨b,off,none⟩∧Yw β G1 b ei.size off es):=by
          cases dx with
          | nils=>cases hes;exact⟨none,0,Z1U.1 hr,Nat.le_refl _,.inl rfl⟩
          | sl es' =>
            cases hes;obtain⟨A,c,⟨k1,k2⟩,k3⟩:=Z4k.1 hr;refine⟨A,c,k1,k2,?_⟩;rcases k3 with k3|⟨b,off,e',k3,k4⟩
            · exact .inl k3
            · exact Z3t (Yw.mono hx1 _ _ _ _ k4) hql |>.imp (fun z=>z) fun k=>⟨b,off,k3,k⟩
          | rs id ver =>
            simp only[Y4]at hes;obtain⟨ob,hob,hes⟩:=Z0 hes;split at hes
            · rename_i t' es' p u
              obtain⟨hu,hes⟩:=Z3 hes;cases hes;have hu:u=ver:=Nat.eq_of_beq_eq_true hu;subst hu;obtain⟨p',hp'⟩:=Z29 h (Zj (.rs id u)) _ _ _ _ _ hob;obtain⟨hdr,k1,A,c,⟨k2,k3⟩,k4⟩:=hs1 id (by simp[Zj]) _ _ _ _ hp'
              obtain⟨k5,_⟩:=Z2J.1 hr;rw[k1]at k5;cases k5;refine⟨A,c,k2,k3,?_⟩;rcases k4 with k4|⟨b,k4,k6⟩
              · exact .inl k4
              · exact Z3t k6 hql |>.imp (fun z=>z) fun k=>⟨b,0,k4,k⟩
            · cases hes
          | rv id ver i n e' =>
            simp only[Y4]at hes;obtain⟨ob,hob,hes⟩:=Z0 hes;split at hes
            · rename_i t' es' p u
              obtain⟨hu,hes⟩:=Z3 hes;cases hes;simp only[Bool.and_eq_true,List.all_eq_true]at hu;obtain⟨hu,hlen⟩:=hu;have hu:u=ver:=Nat.eq_of_beq_eq_true hu;subst hu;obtain⟨p',hp'⟩:=Z29 h (Zj (.rv id u i n e')) _ _ _ _ _ hob;obtain⟨hdr,k1,A,c,⟨k2,k3⟩,k4⟩:=hs1 id (by simp[Zj]) _ _ _ _ hp'
              obtain⟨a0,m,c0,a',c',k5,k7,k8,hle,hz⟩:=Zbi.1 hr;rw[k1,k2]at k5;cases k5;have hnl:((es'.drop i).take n).length=n:=by simp;omega
              refine⟨_,c',by rw[hnl];exact k7,by rw[hnl];exact k8,?_⟩
              rcases hz with hz|⟨b,hz1,hz2⟩
              · exact .inl (by rw[hz];simp)
              rcases k4 with k4|⟨b',k4,k6⟩
              · exact .inl (by rw[k4];simp)
              · rw[hz1]at k4
                cases k4;rcases Z3t (e':=e') k6 (fun c hc=>Nat.eq_of_beq_eq_true (hlen c hc))with k|k
                · exact .inl (by rw[k];simp)
                · have:=Z3N n (Z3M i k)
                  rw[Nat.zero_add]at this;exact Z3t this hql |>.imp (fun z=>z) fun k=>⟨_,i*e',hz2,k⟩
            · cases hes
          | _=>cases hes
        obtain⟨v,h2,h3⟩:=ZcU (P:=P) (w:=w) (hE t ti hti) hk (hE e ei hei) hsh (Z6B hx1 hlo) (Z6B hx1 hhr) h1;exact⟨_,v,w,β,G1,YO (by unfold execOp;rw[ho]<;>rfl) h2,.inl rfl,fun d hd=>by cases hd;exact h3,hx1,hh1,Z7v _⟩
      | _=>rw[hk]at hd;cases hd
  | fieldAddr s x f =>
    rw[ho]at hd;simp only[ZE]at hd;obtain⟨ti,hti,hd⟩:=Z0 hd;obtain⟨dx,hx,hd⟩:=Z0 hd;split at hd
    · rename_i fs hk
      obtain⟨⟨ft,off⟩,hfs,hd⟩:=Z0 hd;obtain⟨fi,hfi,hd⟩:=Z0 hd;obtain⟨hq,hd⟩:=Z3 hd;obtain⟨d,h1,hd⟩:=Z0 hd;cases hd;obtain⟨v,h2,h3⟩:=Z9J (P:=P) (w:=w) hE (hE s ti hti) hk hfs hfi (Nat.le_of_ble_eq_true hq) (Zr hf hx) h1;exact Yb.pure hh (YO (by unfold execOp;rw[ho]) h2) h3
    · cases hd
  | field s x f =>
    rw[ho]at hd;simp only[ZE]at hd;obtain⟨ti,hti,hd⟩:=Z0 hd;obtain⟨dx,hx,hd⟩:=Z0 hd;have:∃d,(match ti.k,dx with
      | .struct fs,.agg cs=>(fs[f]?).bind fun(ft,off)=>(E.ty ft).bind fun fi=>YP fi cs off
      | _,_=>none)=some d∧r=⟨some d,[]⟩:=by
      split at hd
      · rename_i hk2
        obtain⟨⟨ft,off⟩,hfs,hd⟩:=Z0 hd;obtain⟨fi,hfi,hd⟩:=Z0 hd;obtain⟨d,h1,hd⟩:=Z0 hd;cases hd;exact⟨d,by(try rw[hk2]);simp only at hfi h1;simp[hfs,hfi,h1],rfl⟩
      · cases hd
    obtain⟨d,h1,rfl⟩:=this;obtain⟨v,h2,h3⟩:=ZbV (P:=P) (w:=w) hE (hE s ti hti) h1 (Zr hf hx);exact Yb.pure hh (YO (by unfold execOp;rw[ho]) h2) h3
  | indexAddr t x i =>
    rw[ho]at hd;simp only[ZE]at hd;obtain⟨ti,hti,hd⟩:=Z0 hd;obtain⟨dx,hx,hd⟩:=Z0 hd;obtain⟨di,hi,hd⟩:=Z0 hd;have hrx:=Zr hf hx;have hri:=Zr hf hi;cases hk:ti.k with
    | array len e =>
      rw[hk]at hd;obtain⟨ei,hei,hd⟩:=Z0 hd;obtain⟨j,hj,hd⟩:=Z0 hd;obtain⟨d,h1,hd⟩:=Z0 hd;cases hd;obtain⟨v,h2,h3⟩:=Z9K (P:=P) (w:=w) (hE t ti hti) hk (hE e ei hei) hrx hri hj h1;exact Yb.pure hh (YO (by unfold execOp;rw[ho]) h2) h3
    | slice e =>
      rw[hk]at hd;simp only at hd;obtain⟨ei,hei,hd⟩:=Z0 hd;cases dx with
      | sl es =>
        obtain⟨j,hj,hd⟩:=Z0 hd;obtain⟨c,hc,hd⟩:=Z0 hd;obtain⟨hq,hd⟩:=Z3 hd;cases hd;simp only[Bool.and_eq_true]at hq;have hcl:c.length=ei.size:=Nat.eq_of_beq_eq_true hq.1;obtain⟨A,cap,⟨k1,k2⟩,k3⟩:=Z4k.1 hrx;rcases k3 with k3|⟨b,off,e',rfl,k4⟩
        · subst k3;simp at hc
        · obtain⟨m1,m2,m3⟩:=Zcu k4 hc
          have he:e'=ei.size:=by omega
          subst he;have h2:=Z5y (P:=P) (w:=w) (c:=cap) (A:=⟨b,off,none⟩) (hE t ti hti) hk (hE e ei hei) hri hj;refine Yb.pure hh (YO (v:=.pointer (some ((⟨b,off,none⟩:Addr).add (j*ei.size)))) (by unfold execOp;rw[ho]) ?_) (Z5m.2 ⟨m1,b,off+j*ei.size,by rw[Ym],?_⟩)
          · rw[k1];exact h2
          · exact m2
      | rs id ver =>
        obtain⟨ob,hob,hd⟩:=Z0 hd;split at hd
        · rename_i t' es p u
          obtain⟨j,hj,hd⟩:=Z0 hd;obtain⟨hq,hd⟩:=Z3 hd;cases hd;simp only[Bool.and_eq_true]at hq;have hu:u=ver:=Nat.eq_of_beq_eq_true hq.1;subst hu;obtain⟨k5,_⟩:=Z2J.1 hrx;obtain⟨hdr,vals,n1,n2,_⟩:=hh.obj id _ hob;rw[n1]at k5;cases k5;obtain⟨kk,hkk,hlt⟩:=Z4L hj hri;rcases n2.2 with⟨n3,n4⟩|⟨g,cap,cur,n3,_⟩
          · omega
          · have h2:=Z5y (P:=P) (w:=w) (c:=cap) (A:=⟨g,0,none⟩) (hE t ti hti) hk (hE e ei hei) hri hj
            refine Yb.pure hh (YO (v:=.pointer (some ((⟨g,0,none⟩:Addr).add (j*ei.size)))) (by unfold execOp;rw[ho]) ?_) (Z1V.2 ⟨g,es.length,cap,by rw[n1,n3],by rw[Ym];simp⟩)
            rw[n3];exact h2
        · cases hd
      | _=>cases hd
    | _=>rw[hk]at hd;cases hd
  | index t x i =>
    rw[ho]at hd;simp only[ZE]at hd;obtain⟨ti,hti,hd⟩:=Z0 hd;obtain⟨dx,hx,hd⟩:=Z0 hd;obtain⟨di,hi,hd⟩:=Z0 hd;have:∃d,(match ti.k,dx with
      | .array len e,.agg cs=>(E.ty e).bind fun ei=>(Z3a len di).bind fun i=>YP ei cs (i*ei.size)
      | .string,.str s=>(Z3a s.size di).bind fun i=>(s[i]?).bind fun b=>some (.int .u8 b.toNat)
      | _,_=>none)=some d∧r=⟨some d,[]⟩:=by
      cases hk2:ti.k with
      | array len e =>
        rw[hk2]at hd;cases dx with
        | agg cs =>
          obtain⟨ei,hei,hd⟩:=Z0 hd;obtain⟨j,hj,hd⟩:=Z0 hd;obtain⟨d,h1,hd⟩:=Z0 hd;cases hd;exact⟨d,by simp[hei,hj,h1],rfl⟩
        | _=>cases hd
      | string =>
        rw[hk2]at hd;cases dx with
        | str s =>
          obtain⟨j,hj,hd⟩:=Z0 hd;obtain⟨d,h1,hd⟩:=Z0 hd;cases hd;exact⟨_,by simp[hj,h1],rfl⟩
        | _=>cases hd
      | _=>rw[hk2]at hd;cases hd
    obtain⟨d,h1,rfl⟩:=this;obtain⟨v,h2,h3⟩:=Zcd (P:=P) (w:=w) hE (hE t ti hti) h1 (Zr hf hx) (Zr hf hi);exact Yb.pure hh (YO (by unfold execOp;rw[ho]) h2) h3
  | lookup t m k ok =>
    rw[ho]at hd;simp only[ZE]at hd;obtain⟨ti,hti,hd⟩:=Z0 hd;obtain⟨dm,hm,hd⟩:=Z0 hd;obtain⟨dk,hk,hd⟩:=Z0 hd;split at hd
    · rename_i kt e hkk
      obtain⟨ei,hei,hd⟩:=Z0 hd;obtain⟨ki,hki,hd⟩:=Z0 hd;obtain⟨hq,hd⟩:=Z3 hd;simp only[Bool.and_eq_true,Bool.not_eq_true']at hq;obtain⟨⟨hq1,hq2⟩,hq3⟩:=hq;obtain⟨es,hes,hd⟩:=Z0 hd;obtain⟨q,hfind,hd⟩:=Z0 hd;have hz1:∃z,ei.zero=[z]:=by
        obtain⟨i,zv,_,_,_,_,hzs,hzr⟩:=(hE e ei hei).info;have:=ZQ (hzr β G);have hsz:ei.size=1:=Nat.eq_of_beq_eq_true hq2;have h1:ei.zero.length=1:=by simp at this;omega
        exact List.length_eq_one_iff.1 h1
      obtain⟨z,hz⟩:=hz1;obtain⟨v,h2,h3⟩:=Zb0 (P:=P) (w:=w) hE hh (hE t ti hti) hkk (hE e ei hei) (hE kt ki hki) (Zr hf hk) hq1 hes hfind hz (Nat.eq_of_beq_eq_true hq2) hq3 ok (Zr hf hm);rw[hz]at hd;cases q with
      | some d=>cases hd;exact Yb.pure hh (YO (by unfold execOp;rw[ho]) h2) h3
      | none=>cases hd;exact Yb.pure hh (YO (by unfold execOp;rw[ho]) h2) h3
    · cases hd
  | mapUpdate t m k x =>
    rw[ho]at hd;simp only[ZE]at hd;obtain⟨ti,hti,hd⟩:=Z0 hd;obtain⟨dm,hm,hd⟩:=Z0 hd;obtain⟨dk,hk,hd⟩:=Z0 hd;obtain⟨dx,hx,hd⟩:=Z0 hd;cases hkk:ti.k with
    | map kt e =>
      rw[hkk]at hd;cases dm with
      | map id =>
        obtain⟨ki,hki,hd⟩:=Z0 hd;obtain⟨ob,hob,hd⟩:=Z0 hd;split at hd
        · rename_i es
          obtain⟨hq,hd⟩:=Z3 hd;simp only[Bool.and_eq_true]at hq;obtain⟨es',hes,hd⟩:=Z0 hd;cases hd;obtain⟨w',h2,h3,h4⟩:=Z87 (P:=P) (nid:=nid) hh (hE t ti hti) hkk (hE kt ki hki) (Zr hf hm) (Zr hf hk) (Zr hf hx) hq.2 hq.1.1 hob hes;exact⟨.skip,undef,w',β,G,ZiA (by unfold execOp;rw[ho]) h2,.inr ⟨rfl,rfl⟩,fun d hd=>by cases hd;exact Z3V,Ext.refl β G,h3,h4⟩
        · cases hd
      | _=>cases hd
    | _=>rw[hkk]at hd;cases hd
  | range t x =>
    rw[ho]at hd;simp only[ZE]at hd;obtain⟨ti,hti,hd⟩:=Z0 hd;obtain⟨dx,hx,hd⟩:=Z0 hd;have hdesc:=(hE t ti hti).desc;have hr:=Zr hf hx;cases hk:ti.k with
    | string =>
      rw[hk]at hd hdesc;cases dx with
      | str s =>
        rw[Y9]at hr;cases hd;obtain⟨β',h1,h2,h3,h4⟩:=ZfT hh hfr s;refine⟨_,.pointer (some ⟨w.heap.size,0,none⟩),_,β',G,YO (by unfold execOp;rw[ho]) ?_,.inl rfl,fun d hd=>by cases hd;exact ZcD.2 ⟨_,h2,rfl⟩,h1,h3,h4⟩
        simp[Instr.range,Go.run_underlying hdesc,hr]
      | _=>cases hd
    | _=>rw[hk]at hd;cases hd
  | next it s =>
    cases s with
    | false=>rw[ho]at hd;simp[ZE]at hd
    | true =>
      rw[ho]at hd;simp only[ZE]at hd;obtain⟨d,h1,hd⟩:=Z0 hd;split at hd
      · rename_i id
        obtain⟨ob,hob,hd⟩:=Z0 hd;split at hd
        · rename_i s pos
          obtain⟨b,hb,hv⟩:=ZcD.1 (Zr hf h1);obtain⟨b',hb',hw⟩:=hh.obj id _ hob;rw[hb]at hb';cases hb'
          by_cases hp:pos<s.size
          · simp only[hp,decide_true,cond_true]at hd
            cases hd;have hh':=Z55 (o':=.siter s (pos+(Utf8.decode s pos).2)) (ob':=.stringIter s (pos+(Utf8.decode s pos).2)) hh hob hb hw (by simp) (fun x hx=>by simp[Yv]at hx;rw[hb]at hx;cases hx;rfl)
              ⟨b,hb,by simp[World.putObj_heap_same (Array.getElem?_eq_some_iff.1 hw).1]⟩
            refine⟨_,.tuple #[.bool true,.int .i64 (pos:Nat),.int .i32 (Utf8.decode s pos).1],_,β,G,YO (by unfold execOp;rw[ho]) ?_,.inl rfl,fun d hd=>?_,Ext.refl β G,hh',Z7b hob⟩
            · simp[Instr.next,hv,Z3Z hw,hp,goInt,Z9n (P:=P) hw (by simp),Result.andThen]
            · cases hd
              exact YN.2 ⟨[.bool true,.int .i64 (pos:Nat),.int .i32 (Utf8.decode s pos).1],rfl,Zb.2 ⟨_,_,rfl,ZM.2 rfl,Zb.2 ⟨_,_,rfl,ZH.2 rfl,Zb.2 ⟨_,_,rfl,ZH.2 rfl,Zn.2 rfl⟩⟩⟩⟩
          · simp only[hp,decide_false,cond_false]at hd
            cases hd;refine Yb.pure hh (YO (v:=.tuple #[.bool false]) (by unfold execOp;rw[ho]) ?_) (YN.2 ⟨[.bool false],rfl,Zb.2 ⟨_,_,rfl,ZM.2 rfl,Zn.2 rfl⟩⟩)
            simp[Instr.next,hv,Z3Z hw,hp,Result.andThen]
        · cases hd
      · cases hd
  | extract t i =>
    rw[ho]at hd;simp only[ZE]at hd;obtain⟨dx,hx,hd⟩:=Z0 hd;split at hd
    · rename_i vs
      obtain⟨d,h1,hd⟩:=Z0 hd;cases hd;obtain⟨us,he,hr⟩:=YN.1 (Zr hf hx);obtain⟨v,h2,h3⟩:=Z3S hr h1;refine Yb.pure hh (YO (v:=v) (by unfold execOp;rw[ho]) ?_) h3
      simp[Instr.extract,he,h2]
    · cases hd
  | _=>rw[ho]at hd;simp[ZE]at hd
end
end Go.Ab
namespace Go.Ab
namespace Tr
variable {α:Type}
theorem beq_dec (a b:Nat):Nat.beq a b=decide (a=b):=by
  by_cases h:a=b
  · subst h;simp
  · have:Nat.beq a b=false:=by
      cases hq:Nat.beq a b with
      | false=>rfl
      | true=>exact absurd (Nat.eq_of_beq_eq_true hq) h
    simp[this,h]
theorem blt_dec (a b:Nat):Nat.blt a b=decide (a<b):=by
  by_cases h:a<b
  · have h1:Nat.blt a b=true:=Nat.ble_eq_true_of_le h
    rw[h1];simp[h]
  · have:Nat.blt a b=false:=by
      cases hq:Nat.blt a b with
      | false=>rfl
      | true=>exact absurd (Nat.le_of_ble_eq_true hq) h
    simp[this,h]
theorem get_leaf (k:Nat):(leaf:Tr α).get k=none:=rfl
theorem get_node (l r:Tr α) (v:Option α) (k:Nat):(node l v r).get k=if k=0 then v else if k % 2=1 then l.get (k / 2)else r.get (k / 2-1):=by
  rw[get,beq_dec,beq_dec]
  by_cases h:k=0
  · simp[h]
  · by_cases h2:k % 2=1<;>simp[h,h2]
theorem get_setAux:∀(n:Nat) (t:Tr α) (k:Nat) (v:Option α) (k':Nat),k<n→(setAux n t k v).get k'=if k'=k then v else t.get k'
  | 0,_,_,_,_,h=>by omega
  | n+1,.leaf,k,v,k',h=>by
    rw[setAux,beq_dec,beq_dec]
    by_cases h0:k=0
    · subst h0
      simp only[decide_true,cond_true,get_node,get_leaf]
      by_cases e:k'=0<;>simp[e]
    · by_cases h1:k % 2=1
      · simp only[h0,h1,decide_true,decide_false,cond_true,cond_false,get_node,get_leaf]
        by_cases e0:k'=0
        · have:k'≠k:=by omega
          simp[e0];omega
        · by_cases e1:k' % 2=1
          · rw[if_neg e0,if_pos e1,get_setAux n .leaf (k / 2) v (k' / 2) (by omega),get_leaf]
            by_cases e:k'=k
            · subst e;simp
            · rw[if_neg e,if_neg (by omega)]
          · rw[if_neg e0,if_neg e1]
            have:k'≠k:=by omega
            simp[this]
      · simp only[h0,h1,decide_false,cond_false,get_node,get_leaf]
        by_cases e0:k'=0
        · have:k'≠k:=by omega
          simp[e0];omega
        · by_cases e1:k' % 2=1
          · rw[if_neg e0,if_pos e1]
            have:k'≠k:=by omega
            simp[this]
          · rw[if_neg e0,if_neg e1,get_setAux n .leaf (k / 2-1) v (k' / 2-1) (by omega),get_leaf]
            by_cases e:k'=k
            · subst e;simp
            · rw[if_neg e,if_neg (by omega)]
  | n+1,.node l x r,k,v,k',h=>by
    rw[setAux,beq_dec,beq_dec]
    by_cases h0:k=0
    · subst h0
      simp only[decide_true,cond_true,get_node]
      by_cases e:k'=0<;>simp[e]
    · by_cases h1:k % 2=1
      · simp only[h0,h1,decide_true,decide_false,cond_true,cond_false,get_node]
        by_cases e0:k'=0
        · have:¬(0=k):=by omega
          simp[e0,this]
        · by_cases e1:k' % 2=1
          · simp only[if_neg e0,if_pos e1,get_setAux n l (k / 2) v (k' / 2) (by omega)]
            by_cases e:k'=k
            · subst e;simp
            · rw[if_neg e,if_neg (by omega)]
          · have:k'≠k:=by omega
            simp[e0,e1,this]
      · simp only[h0,h1,decide_false,cond_false,get_node]
        by_cases e0:k'=0
        · have:¬(0=k):=by omega
          simp[e0,this]
        · by_cases e1:k' % 2=1
          · have:k'≠k:=by omega
            simp[e0,e1,this]
          · simp only[if_neg e0,if_neg e1,get_setAux n r (k / 2-1) v (k' / 2-1) (by omega)]
            by_cases e:k'=k
            · subst e;simp
            · rw[if_neg e,if_neg (by omega)]
theorem get_set (t:Tr α) (k:Nat) (v:Option α) (k':Nat):(t.set k v).get k'=if k'=k then v else t.get k':=get_setAux _ t k v k' (by omega)
theorem mkn_get (l:Tr α) (v:Option α) (r:Tr α) (k:Nat):(mkn l v r).get k=(Tr.node l v r).get k:=by
  unfold mkn;split
  · simp[get]
  · rfl
theorem tm_get (f:Nat→α→Option (Option α)):∀(t t':Tr α) (a b:Nat),tm f t a b=some t' →
    ∀k,(t.get k=none∧t'.get k=none)∨∃x y,t.get k=some x∧f (a*k+b) x=some y∧t'.get k=y
  | .leaf,t',a,b,h,k=>by
    simp only[tm,Option.some.injEq]at h;subst h;exact .inl ⟨rfl,rfl⟩
  | .node l v r,t',a,b,h,k=>by
    simp only[tm]at h;obtain⟨l',hl,h⟩:=Z0 h;obtain⟨v',hv,h⟩:=Z0 h;obtain⟨r',hr,h⟩:=Z0 h;cases h;rw[mkn_get,get_node,get_node]
    by_cases e0:k=0
    · subst e0
      simp only[if_true,Nat.mul_zero,Nat.zero_add];cases v with
      | none=>cases hv;exact .inl ⟨rfl,rfl⟩
      | some x=>exact .inr ⟨x,v',rfl,hv,rfl⟩
    · by_cases e1:k % 2=1
      · simp only[if_neg e0,if_pos e1]
        have:=tm_get f l l' _ _ hl (k / 2)
        rwa [show 2*a*(k / 2)+(a+b)=a*k+b by
          have:k=2*(k / 2)+1:=by omega
          generalize k / 2=m at this;subst this;rw[Nat.mul_add,←Nat.mul_assoc,Nat.mul_comm a 2];omega]at this
      · simp only[if_neg e0,if_neg e1]
        have:=tm_get f r r' _ _ hr (k / 2-1)
        rwa [show 2*a*(k / 2-1)+(2*a+b)=a*k+b by
          have:k=2*(k / 2-1)+2:=by omega
          generalize k / 2-1=m at this;subst this;rw[Nat.mul_add,←Nat.mul_assoc,Nat.mul_comm a 2];omega]at this
theorem filt_get (m:Nat):∀(t:Tr α) (a b k:Nat),(t.filt m a b).get k=bif Nat.testBit m (a*k+b)then t.get k else none
  | .leaf,a,b,k=>by cases Nat.testBit m (a*k+b)<;>rfl
  | .node l v r,a,b,k=>by
    simp only[filt];rw[mkn_get,get_node,get_node]
    by_cases e0:k=0
    · subst e0
      simp only[if_true,Nat.mul_zero,Nat.zero_add]
    · by_cases e1:k % 2=1
      · simp only[if_neg e0,if_pos e1]
        rw[filt_get m l,show 2*a*(k / 2)+(a+b)=a*k+b by
          have:k=2*(k / 2)+1:=by omega
          generalize k / 2=m at this;subst this;rw[Nat.mul_add,←Nat.mul_assoc,Nat.mul_comm a 2];omega]
      · simp only[if_neg e0,if_neg e1]
        rw[filt_get m r,show 2*a*(k / 2-1)+(2*a+b)=a*k+b by
          have:k=2*(k / 2-1)+2:=by omega
          generalize k / 2-1=m at this;subst this;rw[Nat.mul_add,←Nat.mul_assoc,Nat.mul_comm a 2];omega]
theorem filt_sub {m:Nat} {t:Tr α} {k:Nat} {x:α} (h:(t.filt m 1 0).get k=some x):t.get k=some x:=by
  rw[filt_get]at h;cases hm:Nat.testBit m (1*k+0)with
  | true=>rw[hm]at h;exact h
  | false=>rw[hm]at h;cases h
theorem tm_get1 {f:Nat→α→Option (Option α)} {t t':Tr α} (h:tm f t 1 0=some t') (k:Nat):(t.get k=none∧t'.get k=none)∨∃x y,t.get k=some x∧f k x=some y∧t'.get k=y:=by
  have:=tm_get f t t' 1 0 h k;simpa using this
end Tr
theorem Z2z (o:Tr Zd):∀(us:List (Nat×Option Zd)) (i:Nat),(Ya o us).get i=ZK o.get us i:=by
  intro us
  induction us generalizing o with
  | nil=>intro i;rfl
  | cons u us ih =>
    intro i;obtain⟨j,x⟩:=u;rw[Ya,ih,];unfold ZK;simp only[Zw];cases hq:Zw i us with
    | some y=>rfl
    | none =>
      rw[Tr.get_set,Tr.beq_dec]
      by_cases e:i=j
      · subst e;simp
      · have:¬j=i:=fun h=>e h.symm
        simp[e,this]
end Go.Ab
namespace Go.Ab
open Go.RowKit
def fw (ro:Option Nat):Fence:={ Fence.wide with round:=ro }
def ZgM (d:Nat):Deferred:={ target:=.collected d,args := #[] }
def Zg3 (P:Program) (g:FuncId):Prop:=∀(n:Nat) (cap:Array Value) (w:World),(invoke (.fn (.func g) cap) #[]).run P w=.ok (.enter g cap) w ∧
  CallsDIn Fence.wide n P g cap .returning w fun e u' w'=>(∃v,e=.returned v)∧u'=.returning∧w'=w
inductive Z84 (E:Env):List Nat→List Deferred→Prop where
  | nil:Z84 E [] []
  | mark {own:List Nat} {ds:List Deferred} (d:Nat):Z84 E own ds→Z84 E (d::own) (ZgM d::ds)
  | fn {own:List Nat} {ds:List Deferred} {g:Nat} (cap:Array Value):E.dfr g=true→Z84 E own ds→Z84 E own ({ target:=.fn (.func g) cap,args := #[] }::ds)
structure Go2 (nx:Nat) (β:Bi) (G:Gh) (β':Bi) (G':Gh) (h h':Nat→Option Zd):Prop where
  ext:Ext β G β' G'
  keep:∀id,id<nx→Z15 β β' h h' id
theorem Go2.refl (nx:Nat) (β:Bi) (G:Gh) (h:Nat→Option Zd):Go2 nx β G β G h h:=⟨Ext.refl β G,fun id _=>Z15.refl β h id⟩
theorem Go2.trans {nx:Nat} {β β' β'':Bi} {G G' G'':Gh} {h h' h'':Nat→Option Zd} (x:Go2 nx β G β' G' h h') (y:Go2 nx β' G' β'' G'' h' h''):Go2 nx β G β'' G'' h h'' :=
  ⟨x.ext.trans y.ext,fun id hi=>(x.keep id hi).trans (y.keep id hi)⟩
theorem Go2.less {nx nx':Nat} {β β':Bi} {G G':Gh} {h h':Nat→Option Zd} (x:Go2 nx β G β' G' h h') (hl:nx'≤nx):Go2 nx' β G β' G' h h':=⟨x.ext,fun id hi=>x.keep id (Nat.lt_of_lt_of_le hi hl)⟩
structure MI (E:Env) (w0:World) (G0:Gh) (outer:DD) (V nt:Nat) (own:List Nat) (ρ:Nat→Option DV) (base:Tr DV) (h:Nat→Option Zd) (nx:Nat) (a:Act) (w:World) (β:Bi) (G:Gh):Prop where
  fr:FrM β G ρ a.tmps
  dom:∀t d,base.get t=some d→Nat.testBit V t=true
  sz:a.tmps.size=nt
  hr:HR E w0 G0 (YR own outer) w β G h
  fresh:∀id,nx≤id→ZS β h id
  df:Z84 E own a.defers∧ZaA own outer
def Z1k (P:Program) (g:FuncId):Prop:=∀args w,(callFunc g args).run P w=.ok (.enter g args) w
def Z37 (P:Program) (E:Env) (call:Nat→List DV→Option DV):Prop:=∀g as d,call g as=some d→Z1k P g ∧
  ∀(w:World) (β:Bi) (G:Gh) (vs:Array Value),E.inv w→(∀b o v,G b o=some v→w.cell? ⟨b,o,none⟩=some v)→Zi β G as vs.toList→Zc as=true →
    Calls P g vs w fun e w'=>∃v G',e=.returned v∧Below w.heap.size w w'∧(∀b,b<w.heap.size→G' b=G b)∧(∀b o v,G' b o=some v→w'.cell? ⟨b,o,none⟩=some v)∧Zh d=true∧Rep β G' d v
def Z1p (E:Env) (w0:World) (G0:Gh) (D:DD) (β:Bi) (G:Gh) (objs:Tr Zd) (nx:Nat) (r:DV) (objs':Tr Zd) (nx':Nat) (e:Ending) (w':World):Prop :=
  ∃v β' G',e=.returned v∧nx≤nx'∧Go2 nx β G β' G' objs.get objs'.get∧HR E w0 G0 D w' β' G' objs'.get∧(∀id,nx'≤id→ZS β' objs'.get id)∧Rep β' G' r v
def YY (P:Program) (E:Env) (callH:Yj):Prop:=∀g as objs nx r objs' nx',callH g as objs nx=some (r,objs',nx')→Z1k P g ∧
  ∀(w0:World) (G0:Gh) (D:DD) (w:World) (β:Bi) (G:Gh) (vs:Array Value),HR E w0 G0 D w β G objs.get→(∀id,nx≤id→ZS β objs.get id)→Zi β G as vs.toList →
    Calls P g vs w (Z1p E w0 G0 D β G objs nx r objs' nx')
def Z1g (P:Program) (E:Env) (callY:Yj):Prop:=∀l as objs nx r objs' nx',callY l as objs nx=some (r,objs',nx') →
  ∀(w0:World) (G0:Gh) (D:DD) (w:World) (β:Bi) (G:Gh) (vs:Array Value) (b:Nat),β.blk l=some b→HR E w0 G0 D w β G objs.get→(∀id,nx≤id→ZS β objs.get id)→Zi β G as vs.toList →
    ∃lf tm as' bo,(Instr.yield b vs).run P w=.ok (.round b lf tm as' bo) w∧∀n,RoundIn Fence.wide n P b lf tm as' bo w (Z1p E w0 G0 D β G objs nx r objs' nx')
section
variable {P:Program} {E:Env} {w0:World} {G0:Gh} {D:DD} {o:Oper} {a:Act} {w:World} {β:Bi} {G:Gh} {h:Nat→Option Zd} {nid:Nat} {ρ:Nat→Option DV} {ro:Option Nat} {n:Nat}
theorem Z6h {g:FuncId} {args:Array Value} {R:Ending→World→Prop} (h:Calls P g args w R):CallsIn (fw ro) n P g args w R:=by
  have:=(callsIn_wide (n:=n)).2 h;exact this
theorem Zh7 {l:Nat} {f:FuncId} {tm:Array Value} {as bo:Code} {R:Ending→World→Prop} (h:RoundIn Fence.wide n P l f tm as bo w R):RoundIn (fw ro) n P l f tm as bo w R:=h
theorem HR.grow {w':World} {G':Gh} (hh:HR E w0 G0 D w β G h) (hb:Below w.heap.size w w') (hg:∀b,b<w.heap.size→G' b=G b) (hag:∀b o v,G' b o=some v→w'.cell? ⟨b,o,none⟩=some v) :
    HR E w0 G0 D w' β G' h∧Ext β G β G':=by
  have hx:Ext β G β G':=⟨fun b o v hq=>by
    have hlt:b<w.heap.size:=by
      rcases Nat.lt_or_ge b w.heap.size with h1|h1
      · exact h1
      · rw[glt hh h1 o]at hq;cases hq
    rw[hg b hlt];exact hq,fun _ _ h=>h,fun _ _ _ h=>h⟩
  refine⟨⟨?_,?_,hag,?_,?_,hh.inj,?_,hh.inv0⟩,hx⟩
  · exact hh.below.trans ⟨hb.os,hb.tape,hb.output,hb.size,fun k hk=>hb.block k (by have:=hh.below.size;omega)⟩
  · intro b hlt
    rw[←hh.g0 b hlt];exact hg b (by have:=hh.below.size;omega)
  · intro id ob ho
    refine Z2n.keep hx (fun _=>rfl) (fun b hown=>?_) (hh.obj id ob ho);have hlt:=(hh.own id ob b ho hown).2.1;exact⟨hb.block b hlt,fun off=>by rw[hg b hlt]⟩
  · intro id ob b ho hown
    obtain⟨k1,k2,k3⟩:=hh.own id ob b ho hown;exact⟨k1,Nat.lt_of_lt_of_le k2 hb.size,k3⟩
  · intro d x hd
    obtain⟨k1,k2,k3⟩:=hh.marks d x hd;have hlt:=(Array.getElem?_eq_some_iff.1 k2).1;exact⟨k1,(hb.block d hlt).trans k2,fun o=>by rw[hg d hlt];exact k3 o⟩
theorem Z8J {nid:Nat} {op:Op} {r:Out} (hd:ZE E nid ρ h op=some r):∀c,op≠.defer c:=fun c hc=>by
  subst hc;simp[ZE]at hd
def Zdd (P:Program) (E:Env) (w0:World) (G0:Gh) (D:DD) (ro:Option Nat) (n:Nat) (o:Oper) (a:Act) (w:World) (β:Bi) (G:Gh) (h:Nat→Option Zd) (nid:Nat) (r:Out):Prop :=
  ∀(K:Act→World→Prop) (Q:Exit→Act→World→Prop),(∀v w' β' G',(∀d,r.val=some d→Rep β' G' d v)→Ext β G β' G'→HR E w0 G0 D w' β' G' (ZK h r.upd)→Z2C β β' h (ZK h r.upd) nid→K (a.put o.dst v) w')→o.wpIn (fw ro) n P a w K Q
theorem Yb.step {r:Out} (hnd:∀c,o.op≠.defer c) (hr:Yb P E w0 G0 D o a w β G h nid r):Zdd P E w0 G0 D ro n o a w β G h nid r:=fun K Q hk=>by
  obtain⟨nx,v,w',β',G',h1,h2,h3,h4,h5,h6⟩:=hr;refine⟨fun f _=>trivial,?_⟩;rw[Oper.semAt_eq _ _ _ hnd,h1];rcases h2 with rfl|⟨rfl,rfl⟩
  · rw[Oper.uponIn_value];exact hk v w' β' G' h3 h4 h5 h6
  · rw[Oper.uponIn_skip];exact hk undef w' β' G' h3 h4 h5 h6
theorem Z2W {ds es:List DV} {as bs:List Value} (h1:Zi β G ds as) (h2:Zi β G es bs):Zi β G (ds++es) (as++bs):=Y8.2 ⟨as,bs,rfl,h1,h2⟩
theorem Z7z (hE:∀t ti,E.ty t=some ti→ZX P t ti) (hf:FrM β G ρ a.tmps) {c:Call} {g:FuncId} {x y:List DV} {as:List DV} (ho:o.op=.call c) (ht:target E ρ c=some (.fn (.func g) x y,as)) (he:Z1k P g) :
    ∃vs:Array Value,(execOp a.eval o).run P w=.ok (.enter g vs) w∧Zi β G as vs.toList:=by
  unfold target at ht;split at ht
  · rename_i f hc
    obtain⟨df,h1,ht⟩:=Z0 ht;split at ht
    · rename_i g' first caps
      obtain⟨as',h2,ht⟩:=Z0 ht;cases ht;obtain⟨vf,vc,hv,hr1,hr2⟩:=Zbh.1 (Zr hf h1);refine⟨vf.toArray++c.args.map a.eval++vc.toArray,?_,?_⟩
      · unfold execOp;rw[ho]
        have h9:=he (vf.toArray++c.args.map a.eval++vc.toArray) w;simpa[resolve,hc,hv,Deferred.ofValue,invoke]using h9
      · have:=Z2W (Z2W hr1 (Z1F hf h2)) hr2
        simpa using this
    · obtain⟨as',h2,ht⟩:=Z0 ht
      cases ht
    · cases ht
  · rename_i rv m hc
    obtain⟨df,h1,ht⟩:=Z0 ht;split at ht
    · rename_i t v
      obtain⟨ti,hti,ht⟩:=Z0 ht;obtain⟨g',hg,ht⟩:=Z0 ht;obtain⟨as',h2,ht⟩:=Z0 ht;cases ht;obtain⟨u,hu,hr⟩:=Z7p.1 (Zr hf h1);refine⟨#[u]++c.args.map a.eval,?_,?_⟩
      · unfold execOp;rw[ho]
        have h8:=(hE t ti hti).meth m g hg u (c.args.map a.eval) w;have h9:=he (#[u]++c.args.map a.eval) w;rw[h9]at h8;have h10:(#[Value.iface t u]++c.args.map a.eval).extract 1 (#[Value.iface t u]++c.args.map a.eval).size=c.args.map a.eval:=by
          rw[Array.extract_append];simp
        have h11:(#[Value.iface t u]++c.args.map a.eval)[0]? = some (.iface t u):=by
          rw[Array.getElem?_append_left (by simp)];rfl
        simp only[resolve,hc,hu];show((Pure.pure ({ target:=.fn (.method m) #[],args := #[Value.iface t u]++c.args.map a.eval }:Deferred):Sem Deferred) >>= fun d=>invoke d.target d.args).run P w=_;simp only[pure_bind];unfold invoke;simp only[h11,h10];exact h8
      · have:=Zb.2 ⟨u,_,rfl,hr,Z1F hf h2⟩
        simpa using this
    · cases ht
  · cases ht
theorem Ze5 (hf:FrM β G ρ a.tmps) {c:Call} {l:Nat} {as:List DV} (ho:o.op=.call c) (ht:target E ρ c=some (.yld l,as)) :
    ∃(vs:Array Value) (b:Nat),β.blk l=some b∧execOp a.eval o=Instr.yield b vs∧Zi β G as vs.toList:=by
  unfold target at ht;split at ht
  · rename_i f hc
    obtain⟨df,h1,ht⟩:=Z0 ht;split at ht
    · obtain⟨as',h2,ht⟩:=Z0 ht
      cases ht
    · rename_i id
      obtain⟨as',h2,ht⟩:=Z0 ht;cases ht;obtain⟨b,hb,hv⟩:=Zf4.1 (Zr hf h1);refine⟨c.args.map a.eval,b,hb,?_,by simpa using Z1F hf h2⟩
      unfold execOp;rw[ho];simp[resolve,hc,hv,Deferred.ofValue,invoke]
    · cases ht
  · obtain⟨df,h1,ht⟩:=Z0 ht
    split at ht
    · obtain⟨ti,hti,ht⟩:=Z0 ht
      obtain⟨g',hg,ht⟩:=Z0 ht;obtain⟨as',h2,ht⟩:=Z0 ht;cases ht
    · cases ht
  · cases ht
theorem Z3q {op:Op} {c:Call} (h:Z3b op=some c):op=.call c:=by
  unfold Z3b at h;split at h
  · split at h
    · cases h;rfl
    · cases h;rfl
    · cases h
  · cases h
mutual
theorem Zay {β β':Bi} {G G':Gh}:∀{d d':DV} {v:Value},Yy d=some d'→Rep β' G' d v→Rep β G d' v
  | .bool _,_,_,h,hr=>by simp only[Yy,Option.some.injEq]at h;subst h;unfold Rep at hr⊢;exact hr
  | .int _ _,_,_,h,hr=>by simp only[Yy,Option.some.injEq]at h;subst h;unfold Rep at hr⊢;exact hr
  | .str _,_,_,h,hr=>by simp only[Yy,Option.some.injEq]at h;subst h;unfold Rep at hr⊢;exact hr
  | .sl _,_,_,h,hr=>by
    simp only[Yy,Option.some.injEq]at h;subst h;obtain⟨a,c,⟨h1,h2⟩,_⟩:=Z4k.1 hr;exact ZcE.2 ⟨a,c,h1,h2⟩
  | .tup vs,_,_,h,hr=>by
    simp only[Yy]at h;obtain⟨vs',h1,h⟩:=Z0 h;cases h;obtain⟨us,rfl,h2⟩:=YN.1 hr;exact YN.2 ⟨us,rfl,Z9C h1 h2⟩
  | .nilp,_,_,h,_=>by simp[Yy]at h
  | .ptr _ _,_,_,h,_=>by simp[Yy]at h
  | .rptr _ _ _ _ _,_,_,h,_=>by simp[Yy]at h
  | .pub _,_,_,h,_=>by simp[Yy]at h
  | .nils,_,_,h,_=>by simp[Yy]at h
  | .rs _ _,_,_,h,_=>by simp[Yy]at h
  | .rv _ _ _ _ _,_,_,h,_=>by simp[Yy]at h
  | .slen _,_,_,h,_=>by simp[Yy]at h
  | .agg _,_,_,h,_=>by simp[Yy]at h
  | .fn _ _ _,_,_,h,_=>by simp[Yy]at h
  | .nilfn,_,_,h,_=>by simp[Yy]at h
  | .map _,_,_,h,_=>by simp[Yy]at h
  | .nilmap,_,_,h,_=>by simp[Yy]at h
  | .iface _ _,_,_,h,_=>by simp[Yy]at h
  | .nilif,_,_,h,_=>by simp[Yy]at h
  | .iter _,_,_,h,_=>by simp[Yy]at h
  | .yld _,_,_,h,_=>by simp[Yy]at h
theorem Z9C {β β':Bi} {G G':Gh}:∀{ds ds':List DV} {vs:List Value},Z57 ds=some ds'→Zi β' G' ds vs→Zi β G ds' vs
  | [],_,_,h,hr=>by simp only[Z57,Option.some.injEq]at h;subst h;rw[Zn]at hr⊢;exact hr
  | d::ds,_,_,h,hr=>by
    simp only[Z57]at h;obtain⟨d',h1,h⟩:=Z0 h;obtain⟨ds',h2,h⟩:=Z0 h;cases h;obtain⟨v,vs,rfl,k1,k2⟩:=Zb.1 hr;exact Zb.2 ⟨v,vs,rfl,Zay h1 k1,Z9C h2 k2⟩
end
theorem ZaM (hE:∀t ti,E.ty t=some ti→ZX P t ti) {call:Nat→List DV→Option DV} (hp:Z37 P E call) (hf:FrM β G ρ a.tmps) (hh:HR E w0 G0 D w β G h) {c:Call} (ho:o.op=.call c) {r:Out} (hd:Z4G E call ρ h c=some r) :
    Zdd P E w0 G0 D ro n o a w β G h nid r:=fun K Q hk=>by
  unfold Z4G at hd;obtain⟨tg,ht,hd⟩:=Z0 hd;split at hd
  · rename_i g x y as
    obtain⟨fs,hfs,hd⟩:=Z0 hd;obtain⟨d,hcall,hd⟩:=Z0 hd;obtain⟨hent,hcs⟩:=hp g fs d hcall;cases hrv:as.any Zgv with
    | true =>
      rw[hrv]at hd;simp only[cond_true]at hd;obtain⟨d',hwk,hd⟩:=Z0 hd;cases hd;obtain⟨vs,hrun,hrep⟩:=Z7z (w:=w) hE hf ho ht hent;obtain⟨G1,hx1,hh1,hs1⟩:=Z1L hh (Zk as);obtain⟨hr1,hid⟩:=Z79 hx1 (Z29 h _) (fun i t es p u hi c hc=>by obtain⟨_,_,_,_,_,k,_⟩:=hh.obj _ _ hi;exact(k c hc).1) hfs hs1 hrep
      have hC:=hcs w β G1 vs hh.inv hh1.agree hr1 hid;refine⟨fun f _=>trivial,?_⟩;rw[Oper.semAt_eq _ _ _ (by rw[ho];simp),hrun,Oper.uponIn_enter]
      refine⟨fun hq=>by simp[fw,Fence.wide]at hq,Z6h (Calls.mono hC fun e w' he=>?_)⟩
      obtain⟨v,G',rfl,hb,hg,hag,_,hrv⟩:=he;have hagG:∀b o v,G b o=some v→w'.cell? ⟨b,o,none⟩=some v:=fun b o v hq=>by
        have hlt:b<w.heap.size:=by
          rcases Nat.lt_or_ge b w.heap.size with h1|h1
          · exact h1
          · rw[glt hh h1 o]at hq;cases hq
        exact hag b o v (by rw[hg b hlt];exact hx1.g b o v hq)
      obtain⟨hh2,hx2⟩:=hh.grow hb (fun _ _=>rfl) hagG;exact hk v w' β G (fun d'' hd'=>by cases hd';exact Zay hwk hrv) hx2 hh2 (Z2C.refl _ _ _)
    | false =>
    rw[hrv]at hd;simp only[cond_false]at hd;cases hd;obtain⟨vs,hrun,hrep⟩:=Z7z (w:=w) hE hf ho ht hent;obtain⟨G1,hx1,hh1,hs1⟩:=Z1L hh (Zk as);obtain⟨hr1,hid⟩:=Z79 hx1 (Z29 h _) (fun i t es p u hi c hc=>by obtain⟨_,_,_,_,_,k,_⟩:=hh.obj _ _ hi;exact(k c hc).1) hfs hs1 hrep
    have hC:=hcs w β G1 vs hh.inv hh1.agree hr1 hid;refine⟨fun f _=>trivial,?_⟩;rw[Oper.semAt_eq _ _ _ (by rw[ho];simp),hrun,Oper.uponIn_enter]
    refine⟨fun hq=>by simp[fw,Fence.wide]at hq,Z6h (Calls.mono hC fun e w' he=>?_)⟩
    obtain⟨v,G',rfl,hb,hg,hag,_,hrv⟩:=he;obtain⟨hh2,hx2⟩:=hh1.grow hb hg hag;refine hk v w' β G' (fun d' hd'=>by cases hd';exact hrv) (hx1.trans hx2) hh2 (Z7v _)
  · cases hd
theorem Z7K (hE:∀t ti,E.ty t=some ti→ZX P t ti) {call:Nat→List DV→Option DV} (hp:Z37 P E call) (hf:FrM β G ρ a.tmps) (hh:HR E w0 G0 D w β G h) (hfr:ZS β h nid) {r:Out}
    (hd:Z7J E call nid ρ h o.op=some r):Zdd P E w0 G0 D ro n o a w β G h nid r:=by
  unfold Z7J at hd;split at hd
  · rename_i c hc
    exact ZaM hE hp hf hh (Z3q hc) hd
  · exact(Zdr hE hf hh hfr hd).step (Z8J hd)
end
end Go.Ab
namespace Go.Ab
open Go.RowKit
section
variable {P:Program} {E:Env} {w0:World} {G0:Gh} {D:DD} {w:World} {β:Bi} {G:Gh} {h:Nat→Option Zd}
def Z2U (h:Nat→Option Zd) (i:Nat):Bool:=match h i with|some (.row _ _ p _)=>Nat.beq p 1|_=>false
theorem ZfS (h:Nat→Option Zd) (is:List Nat):Zu h (is.filter (Z2U h))=[]:=by
  induction is with
  | nil=>rfl
  | cons i is ih =>
    rw[List.filter_cons];cases hq:Z2U h i with
    | false=>simpa using ih
    | true =>
      simp only[if_true,Zu,ih,List.append_nil];unfold Z2U at hq;split at hq
      · rename_i p _ hi
        rw[hi];simp only[hq,cond_true]
      · cases hq
theorem Zc3 {G':Gh} (hx:Ext β G β G') {is:List Nat} (hs:∀i∈is.filter (Z2U h),Z2K E β G' h i) {hv:Nat→Option Zd} (hvw:∀i∈is,∀x,hv i=some x→h i=some x) {d:DV} {v:Value} (hm:∀i∈Zj d,i∈is) (hr:Rep β G d v):Rep β G' (Z5U hv d) v:=by
  unfold Z5U;split
  · rename_i id ver
    split
    · rename_i es p u ho'
      have ho:=hvw id (hm id (by simp[Zj])) _ ho'
      cases hq:Nat.beq p 1&&Nat.beq u ver with
      | false=>exact Rep.mono hx _ _ hr
      | true =>
        simp only[Bool.and_eq_true]at hq;have hf:frz h (.rs id ver)=some (.sl es):=by simp[frz,ho,hq.2]
        refine(Z5a hx (fun i t es p u hi=>⟨p,hi⟩) hf (fun i hi=>hs i (List.mem_filter.2 ⟨hm i hi,?_⟩)) hr).1;have:i=id:=by simpa[Zj]using hi
        subst this;unfold Z2U;rw[ho];exact hq.1
    · exact Rep.mono hx _ _ hr
  · exact Rep.mono hx _ _ hr
theorem Za2 {G':Gh} (hx:Ext β G β G') {is:List Nat} (hs:∀i∈is.filter (Z2U h),Z2K E β G' h i) {hv:Nat→Option Zd} (hvw:∀i∈is,∀x,hv i=some x→h i=some x):∀{ds:List DV} {vs:List Value},(∀i∈Zk ds,i∈is)→Zi β G ds vs→Zi β G' (ds.map (Z5U hv)) vs
  | [],vs,_,hr=>by
    rw[Zn]at hr;exact Zn.2 hr
  | d::ds,vs,hm,hr=>by
    obtain⟨v,vs',rfl,h1,h2⟩:=Zb.1 hr;exact Zb.2 ⟨v,vs',rfl,Zc3 hx hs hvw (fun i hi=>hm i (by simp[Zk,hi])) h1,Za2 hx hs hvw (fun i hi=>hm i (by simp[Zk,hi])) h2⟩
theorem Zgs {G':Gh} (hx:Ext β G β G') {is:List Nat} (hs:∀i∈is.filter (Z2U h),Z2K E β G' h i) {hv:Nat→Option Zd} (hvw:∀i∈is,∀x,hv i=some x→h i=some x) {d:DV} {v:Value} (hm:∀i∈Zj d,i∈is) (hr:Rep β G d v):Rep β G' (Z3o hv d) v:=by
  unfold Z3o;split
  · rename_i cs
    obtain⟨vs,rfl,hr2⟩:=YM.1 hr;exact YM.2 ⟨vs,rfl,Za2 hx hs hvw (by simpa[Zj]using hm) hr2⟩
  · exact Zc3 hx hs hvw hm hr
theorem Za3 {G':Gh} (hx:Ext β G β G') {is:List Nat} (hs:∀i∈is.filter (Z2U h),Z2K E β G' h i) {hv:Nat→Option Zd} (hvw:∀i∈is,∀x,hv i=some x→h i=some x):∀{ds:List DV} {vs:List Value},(∀i∈Zk ds,i∈is)→Zi β G ds vs→Zi β G' (ds.map (Z3o hv)) vs
  | [],vs,_,hr=>by
    rw[Zn]at hr;exact Zn.2 hr
  | d::ds,vs,hm,hr=>by
    obtain⟨v,vs',rfl,h1,h2⟩:=Zb.1 hr;exact Zb.2 ⟨v,vs',rfl,Zgs hx hs hvw (fun i hi=>hm i (by simp[Zk,hi])) h1,Za3 hx hs hvw (fun i hi=>hm i (by simp[Zk,hi])) h2⟩
theorem Zc6 (hh:HR E w0 G0 D w β G h) {as:List DV} {vs:List Value} (hr:Zi β G as vs) {hv:Nat→Option Zd} (hvw:∀i∈Zk as,∀x,hv i=some x→h i=some x) :
    ∃G',Ext β G β G'∧HR E w0 G0 D w β G' h∧Zi β G' (as.map (Z3o hv)) vs:=by
  obtain⟨G',h1,h2,h3⟩:=Z1L hh ((Zk as).filter (Z2U h));rw[ZfS]at h2 h3;exact⟨G',h1,h2,Za3 h1 h3 hvw (fun i hi=>hi) hr⟩
open Classical in
noncomputable def Z72 (D:DD) (w:World) (β:Bi) (G:Gh) (h s:Nat→Option Zd):DD:=fun b=>match D b with
  | some x=>some x
  | none=>if ∃i x,h i=some x∧s i=none∧Yv β i x b then(w.heap[b]?).map fun ob=>(ob,G b)else none
theorem Z9X {s:Nat→Option Zd} (hh:HR E w0 G0 D w β G h) {i b:Nat} {x:Zd} (hi:h i=some x) (hs:s i=none) (ho:Yv β i x b) :
    ∃ob,w.heap[b]? = some ob∧Z72 D w β G h s b=some (ob,G b):=by
  obtain⟨_,hb,hd⟩:=hh.own i x b hi ho;refine⟨w.heap[b],by simp[hb],?_⟩
  unfold Z72;rw[hd];simp only;rw[if_pos ⟨i,x,hi,hs,ho⟩];simp[hb]
theorem Zgj {s:Nat→Option Zd} {b:Nat} (hn:Z72 D w β G h s b=none):D b=none:=by
  unfold Z72 at hn;cases hd:D b with
  | none=>rfl
  | some x=>rw[hd]at hn;cases hn
theorem Zhx {s:Nat→Option Zd} {b:Nat} {x:Obj×(Nat→Option Value)} (hd:D b=some x):Z72 D w β G h s b=some x:=by
  unfold Z72;rw[hd]
theorem Zdm {s:Nat→Option Zd} (hh:HR E w0 G0 D w β G h) (hs:∀i x,s i=some x→h i=some x):HR E w0 G0 (Z72 D w β G h s) w β G s:=by
  refine⟨hh.below,hh.g0,hh.agree,fun i o hi=>hh.obj i o (hs i o hi),fun i o b hi ho=>?_,fun i j o p b hi hj=>hh.inj i j o p b (hs i o hi) (hs j p hj),fun d x hd=>?_,hh.inv0⟩
  · obtain⟨k1,k2,k3⟩:=hh.own i o b (hs i o hi) ho
    refine⟨k1,k2,?_⟩;unfold Z72;rw[k3];simp only;rw[if_neg];rintro⟨j,y,h1,h2,h3⟩;have:=hh.inj i j o y b (hs i o hi) h1 ho h3;subst this;rw[hi]at h2;cases h2
  · unfold Z72 at hd
    cases hq:D d with
    | some y =>
      rw[hq]at hd;simp only[Option.some.injEq]at hd;subst hd;exact hh.marks d y hq
    | none =>
      rw[hq]at hd;simp only at hd;split at hd
      · rename_i he
        obtain⟨i,y,h1,h2,h3⟩:=he;obtain⟨k1,k2,k3⟩:=hh.own i y d h1 h3;simp only[k2,getElem?_pos,Option.map_some,Option.some.injEq]at hd;subst hd;exact⟨k1,by simp[k2],fun _=>rfl⟩
      · cases hd
theorem Z82 (f:Nat→Option Zd):∀(L:List Nat) (id:Nat),Zw id (L.map fun i=>(i,f i))=if id∈L then some (f id)else none
  | [],_=>rfl
  | i::L,id=>by
    simp only[List.map_cons,Zw,Z82 f L id]
    by_cases e:id∈L
    · simp[e]
    · simp only[e,if_false,List.mem_cons,or_false,Tr.beq_dec]
      by_cases e2:i=id
      · subst e2;simp
      · have:¬id=i:=fun q=>e2 q.symm
        simp[e2,this]
def Zfq (o:Tr Zd) (R:List Nat) (nx:Nat):List Nat:=R++((o.ents 1 0).map (·.1)).filter (Nat.ble nx)
theorem Zgh {o:Tr Zd} {R:List Nat} {nx i:Nat} (hi:i∈Zfq o R nx):i∈R∨nx≤i:=by
  unfold Zfq at hi;rcases List.mem_append.1 hi with h|h
  · exact .inl h
  · exact .inr (Nat.le_of_ble_eq_true (List.mem_filter.1 h).2)
theorem Z6W (h:Nat→Option Zd) (o:Tr Zd) (R:List Nat) (nx id:Nat):ZK h (Z4F o R nx) id=if id∈Zfq o R nx then o.get id else h id:=by
  unfold ZK Z4F;rw[Z82 o.get];unfold Zfq;split<;>rename_i q
  · split at q
    · rename_i e;cases q;rw[if_pos e]
    · cases q
  · split at q
    · cases q
    · rename_i e;rw[if_neg e]
def Zhl (E:Env) (w0:World) (G0:Gh) (D:DD) (β:Bi) (G:Gh) (h:Nat→Option Zd) (nx:Nat) (r:DV) (upd:List (Nat×Option Zd)) (nx':Nat) (e:Ending) (w':World):Prop :=
  ∃v β' G',e=.returned v∧nx≤nx'∧Ext β G β' G'∧(∀id,id<nx→Z15 β β' h (ZK h upd) id)∧HR E w0 G0 D w' β' G' (ZK h upd)∧(∀id,nx'≤id→ZS β' (ZK h upd) id)∧Rep β' G' r v
theorem ZaI {s:Tr Zd} {R:List Nat} {nx:Nat} (hh:HR E w0 G0 D w β G h) (hs:∀i x,s.get i=some x→h i=some x) (hsR:∀i x,s.get i=some x→i∈R) (hfr:∀id,nx≤id→ZS β h id) {r:DV} {o':Tr Zd} {nx':Nat} {e:Ending} {w':World}
    (hp:Z1p E w0 G0 (Z72 D w β G h s.get) β G s nx r o' nx' e w'):Zhl E w0 G0 D β G h nx r (Z4F o' R nx) nx' e w':=by
  obtain⟨v,β',G',rfl,hle,hgo,hhr,hf',hv⟩:=hp;have hget:∀i x,ZK h (Z4F o' R nx) i=some x→(i∈Zfq o' R nx∧o'.get i=some x)∨(h i=some x∧s.get i=none∧i<nx):=fun i x hi=>by
    rw[Z6W]at hi
    by_cases e:i∈Zfq o' R nx
    · rw[if_pos e]at hi;exact .inl ⟨e,hi⟩
    · rw[if_neg e]at hi
      refine .inr ⟨hi,?_,?_⟩
      · cases hq:s.get i with
        | none=>rfl
        | some y=>exact absurd (List.mem_append_left _ (hsR i y hq)) e
      · rcases Nat.lt_or_ge i nx with q|q
        · exact q
        · rw[(hfr i q).h]at hi;cases hi
  have hkeep:∀i,s.get i=none→i<nx→o'.get i=none∧β'.blk i=β.blk i∧∀u,β'.hdr i u=β.hdr i u:=fun i hi hlt=>hgo.keep i hlt hi;have hoth:∀i x b,h i=some x→s.get i=none→i<nx→Yv β' i x b→∃ob,w.heap[b]? = some ob∧Z72 D w β G h s.get b=some (ob,G b):=fun i x b hi hn hlt hb=>by
    obtain⟨_,k2,k3⟩:=hkeep i hn hlt;exact Z9X hh hi hn ((Z1w k2 k3 x b).1 hb)
  refine⟨v,β',G',rfl,hle,hgo.ext,fun id hid hn=>?_,⟨hhr.below,hhr.g0,hhr.agree,fun i x hi=>?_,fun i x b hi hb=>?_,fun i j x y b hi hj hb hc=>?_,fun d x hd=>hhr.marks d x (Zhx hd),hh.inv0⟩,fun id hid=>?_,hv⟩
  · have hsn:s.get id=none:=by
      cases hq:s.get id with
      | none=>rfl
      | some y=>rw[hs id y hq]at hn;cases hn
    obtain⟨k1,k2,k3⟩:=hkeep id hsn hid;refine⟨?_,k2,k3⟩;rw[Z6W];split
    · exact k1
    · exact hn
  · rcases hget i x hi with⟨_,h1⟩|⟨h1,h2,h3⟩
    · exact hhr.obj i x h1
    · obtain⟨_,k2,k3⟩:=hkeep i h2 h3
      refine Z2n.keep hgo.ext k3 (fun b hb=>?_) (hh.obj i x h1);obtain⟨ob,m1,m2⟩:=Z9X (D:=D) hh h1 h2 hb;obtain⟨_,m3,m4⟩:=hhr.marks b _ m2;exact⟨m3.trans m1.symm,m4⟩
  · rcases hget i x hi with⟨_,h1⟩|⟨h1,h2,h3⟩
    · obtain⟨k1,k2,k3⟩:=hhr.own i x b h1 hb
      exact⟨k1,k2,Zgj k3⟩
    · obtain⟨_,k2,k3⟩:=hkeep i h2 h3
      obtain⟨m1,_,m3⟩:=hh.own i x b h1 ((Z1w k2 k3 x b).1 hb);obtain⟨ob,_,m5⟩:=hoth i x b h1 h2 h3 hb;exact⟨m1,(Array.getElem?_eq_some_iff.1 (hhr.marks b _ m5).2.1).1,m3⟩
  · rcases hget i x hi with⟨_,h1⟩|⟨h1,h2,h3⟩<;>rcases hget j y hj with⟨_,g1⟩|⟨g1,g2,g3⟩
    · exact hhr.inj i j x y b h1 g1 hb hc
    · obtain⟨ob,_,m2⟩:=hoth j y b g1 g2 g3 hc
      rw[(hhr.own i x b h1 hb).2.2]at m2;cases m2
    · obtain⟨ob,_,m2⟩:=hoth i x b h1 h2 h3 hb
      rw[(hhr.own j y b g1 hc).2.2]at m2;cases m2
    · obtain⟨_,k2,k3⟩:=hkeep i h2 h3
      obtain⟨_,k4,k5⟩:=hkeep j g2 g3;exact hh.inj i j x y b h1 g1 ((Z1w k2 k3 x b).1 hb) ((Z1w k4 k5 y b).1 hc)
  · have hf:=hf' id hid
    refine⟨hf.blk,hf.hdr,?_⟩;rw[Z6W];split
    · exact hf.h
    · exact(hfr id (by omega)).h
theorem Z2a (h:Nat→Option Zd):∀(R:List Nat) (i:Nat),(Z2x h R).get i=if i∈R then h i else none
  | [],_=>rfl
  | j::R,i=>by
    simp only[Z2x,Tr.get_set,Z2a h R]
    by_cases e:i=j
    · subst e;simp
    · simp[e]
theorem Zdj {callH callY:Yj} (hv:Nat→Option Zd) (nx:Nat) (tgt:DV×List DV) (out:Out) (T:List Nat) (nx2:Nat) (hd:YZ callH callY hv nx tgt=some (out,T,nx2)):nx≤nx2:=by
  unfold YZ at hd;split at hd
  · unfold Z3w at hd
    obtain⟨x,_,hd⟩:=Z0 hd;obtain⟨hq,hd⟩:=Z3 hd;cases hd;exact Nat.le_of_ble_eq_true hq
  · unfold Z3w at hd
    obtain⟨x,_,hd⟩:=Z0 hd;obtain⟨hq,hd⟩:=Z3 hd;cases hd;exact Nat.le_of_ble_eq_true hq
  · cases hd
theorem Z5u (hE:∀t ti,E.ty t=some ti→ZX P t ti) {callH callY:Yj} (hH:YY P E callH) (hY:Z1g P E callY) {o:Oper} {a:Act} {ro:Option Nat} {n:Nat} {ρ:Nat→Option DV} (hf:FrM β G ρ a.tmps) {c:Call} (ho:Z3b o.op=some c) {tgt:DV×List DV}
    (ht:target E ρ c=some tgt) (hh:HR E w0 G0 D w β G h) {hv:Nat→Option Zd} {nx nx':Nat} {out:Out} {T:List Nat} (hd:YZ callH callY hv nx tgt=some (out,T,nx')) (hvw:∀i∈T,∀x,hv i=some x→h i=some x) (hfr:∀id,nx≤id→ZS β h id)
    {K:Act→World→Prop} {Q:Exit→Act→World→Prop}
    (hk:∀v w' β' G',(∀d,out.val=some d→Rep β' G' d v)→nx≤nx'→Ext β G β' G'→(∀id,id<nx→Z15 β β' h (ZK h out.upd) id)→HR E w0 G0 D w' β' G' (ZK h out.upd)→(∀id,nx'≤id→ZS β' (ZK h out.upd) id)→K (a.put o.dst v) w'):o.wpIn (fw ro) n P a w K Q:=by
  have hop:=Z3q ho;have hsub:∀{R:List Nat},(∀i∈R,i∈T)→(∀i x,(Z2x hv R).get i=some x→h i=some x)∧(∀i x,(Z2x hv R).get i=some x→i∈R):=fun {R} hRT=>by
    refine⟨fun i x hi=>?_,fun i x hi=>?_⟩
    · rw[Z2a]at hi
      split at hi
      · rename_i hm;exact hvw i (hRT i hm) x hi
      · cases hi
    · rw[Z2a]at hi
      split at hi
      · rename_i hm;exact hm
      · cases hi
  unfold YZ at hd;split at hd
  · rename_i g x y as
    unfold Z3w at hd;obtain⟨⟨r,o',nx2⟩,hc,hd⟩:=Z0 hd;obtain⟨_,hd⟩:=Z3 hd;cases hd;obtain⟨hent,hcs⟩:=hH _ _ _ _ _ _ _ hc;obtain⟨vs,hrun,hrep⟩:=Z7z (w:=w) hE hf hop ht hent;obtain⟨G1,hx1,hh1,hrep1⟩:=Zc6 hh hrep (hv:=hv) (fun i hi x hx=>hvw i (List.mem_append_left _ hi) x hx);obtain⟨hs,hsR⟩:=hsub (R:=Z1i hv 4096 (Z1u (as.map (Z3o hv))) []) (fun i hi=>List.mem_append_right _ hi);refine⟨fun f _=>trivial,?_⟩;rw[Oper.semAt_eq _ _ _ (by rw[hop];simp),hrun,Oper.uponIn_enter]
    have hfr1:∀id,nx≤id→ZS β (Z2x hv (Z1i hv 4096 (Z1u (as.map (Z3o hv))) [])).get id:=fun id hid=>⟨(hfr id hid).blk,(hfr id hid).hdr,by
      cases hq:(Z2x hv (Z1i hv 4096 (Z1u (as.map (Z3o hv))) [])).get id with
      | none=>rfl
      | some y=>have:=hs id y hq;rw[(hfr id hid).h]at this;cases this⟩
    refine⟨fun hq=>by simp[fw,Fence.wide]at hq,Z6h (Calls.mono (hcs w0 G0 _ w β G1 vs (Zdm hh1 hs) hfr1 hrep1) fun e w' he=>?_)⟩
    obtain⟨v,β',G',rfl,hle,hx,hkp,hh2,hf2,hv2⟩:=ZaI hh1 hs hsR hfr he;exact hk v w' β' G' (fun d hd=>by cases hd;exact hv2) hle (hx1.trans hx) hkp hh2 hf2
  · rename_i l as
    unfold Z3w at hd;obtain⟨⟨r,o',nx2⟩,hc,hd⟩:=Z0 hd;obtain⟨_,hd⟩:=Z3 hd;cases hd;obtain⟨vs,b,hb,hrun,hrep⟩:=Ze5 hf hop ht;obtain⟨G1,hx1,hh1,hrep1⟩:=Zc6 hh hrep (hv:=hv) (fun i hi x hx=>hvw i (List.mem_append_left _ hi) x hx);obtain⟨hs,hsR⟩:=hsub (R:=Z1i hv 4096 (l::Z1u (as.map (Z3o hv))) []) (fun i hi=>List.mem_append_right _ hi);have hfr1:∀id,nx≤id→ZS β (Z2x hv (Z1i hv 4096 (l::Z1u (as.map (Z3o hv))) [])).get id:=fun id hid=>⟨(hfr id hid).blk,(hfr id hid).hdr,by
      cases hq:(Z2x hv (Z1i hv 4096 (l::Z1u (as.map (Z3o hv))) [])).get id with
      | none=>rfl
      | some y=>have:=hs id y hq;rw[(hfr id hid).h]at this;cases this⟩
    obtain⟨lf,tm,as',bo,hy,hround⟩:=hY _ _ _ _ _ _ _ hc w0 G0 _ w β G1 vs b hb (Zdm hh1 hs) hfr1 hrep1;refine⟨fun f _=>trivial,?_⟩;rw[Oper.semAt_eq _ _ _ (by rw[hop];simp),hrun,hy,Oper.uponIn_round]
    refine⟨fun hq=>by simp[fw,Fence.wide]at hq,Zh7 (RoundIn.mono (hround _) fun e w' he=>?_)⟩
    obtain⟨v,β',G',rfl,hle,hx,hkp,hh2,hf2,hv2⟩:=ZaI hh1 hs hsR hfr he;exact hk v w' β' G' (fun d hd=>by cases hd;exact hv2) hle (hx1.trans hx) hkp hh2 hf2
  · cases hd
end
end Go.Ab
namespace Go.Ab
open Go.RowKit
section
variable {P:Program} {E:Env} {w0:World} {G0:Gh} {outer:DD} {own:List Nat} {V nt:Nat} {o:Oper} {a:Act} {w:World} {β:Bi} {G:Gh} {ro:Option Nat} {n:Nat}
theorem Z3O (V nt:Nat) (m:Mid) (dst:Option Tmp) (v:Option DV):(m.put V nt dst v).objs=m.objs∧(m.put V nt dst v).next=m.next:=by
  unfold Mid.put;cases dst with
  | none=>exact⟨rfl,rfl⟩
  | some d =>
    simp only;cases(!Nat.blt d nt)with
    | true=>exact⟨rfl,rfl⟩
    | false=>cases Nat.testBit V d<;>exact⟨rfl,rfl⟩
theorem ZcV (V nt:Nat) (m:Mid) (dst:Option Tmp) (v:Option DV) (t:Nat) :
    Y0 V (m.put V nt dst v).base (m.put V nt dst v).loc t=if dst=some t∧t<nt then v else Y0 V m.base m.loc t:=by
  unfold Mid.put;cases dst with
  | none=>simp
  | some d =>
    simp only[Tr.blt_dec]
    by_cases hl:d<nt
    · simp only[hl,decide_true,Bool.not_true,cond_false]
      cases hv:Nat.testBit V d with
      | true =>
        simp only[cond_true];unfold Y0
        by_cases e:d=t
        · subst e;simp[hv,hl,Tr.get_set]
        · have:¬t=d:=fun h=>e h.symm
          simp[e,Tr.get_set,this]
      | false =>
        simp only[cond_false];unfold Y0
        by_cases e:d=t
        · subst e;simp[hv,hl,Loc.find]
        · simp[e,Loc.find,Tr.beq_dec]
    · simp only[hl,decide_false,Bool.not_false,cond_true]
      by_cases e:d=t
      · subst e;simp[hl]
      · simp[e]
theorem Zf0 (V nt:Nat) (m:Mid) (dst:Option Tmp) (v:Option DV) (h:∀t d,m.base.get t=some d→Nat.testBit V t=true) :
    ∀t d,(m.put V nt dst v).base.get t=some d→Nat.testBit V t=true:=by
  unfold Mid.put;cases dst with
  | none=>exact h
  | some d =>
    simp only;cases(!Nat.blt d nt)with
    | true=>exact h
    | false =>
      cases hv:Nat.testBit V d with
      | true =>
        intro t d' ht;simp only[cond_false,cond_true,Tr.get_set]at ht
        by_cases e:t=d
        · rw[e];exact hv
        · rw[if_neg e]at ht;exact h t d' ht
      | false=>exact h
abbrev MM (E:Env) (w0:World) (G0:Gh) (outer:DD) (V nt:Nat) (own:List Nat) (m:Mid) (a:Act) (w:World) (β:Bi) (G:Gh):Prop :=
  MI E w0 G0 outer V nt own (Y0 V m.base m.loc) m.base m.objs.get m.next a w β G
theorem Zeo {ρ ρ':Nat→Option DV} {β':Bi} {G':Gh} (hx:Ext β G β' G') (hsz:a.tmps.size=nt) (hf:FrM β G ρ a.tmps) {dst:Option Tmp} {val:Option DV} {v:Value} (hv:∀d,val=some d→Rep β' G' d v)
    (hs:∀t d,ρ' t=some d→(dst=some t∧t<nt∧val=some d)∨(¬(dst=some t∧t<nt)∧ρ t=some d)):FrM β' G' ρ' (a.put dst v).tmps:=fun t d ht=>by
  rcases hs t d ht with⟨rfl,hl,hd⟩|⟨hn,hd⟩
  · refine⟨v,?_,hv d hd⟩
    simp[Act.put,hsz,hl]
  · obtain⟨u,hu,hr⟩:=hf t d hd
    refine⟨u,?_,Rep.mono hx d u hr⟩;cases dst with
    | none=>exact hu
    | some e =>
      have hlt:t<nt:=by rw[←hsz];exact(Array.getElem?_eq_some_iff.1 hu).1
      have hne:e≠t:=fun h=>hn ⟨by rw[h],hlt⟩
      simp only[Act.put];rw[Array.getElem?_setIfInBounds_ne hne];exact hu
theorem Zcv (dst:Option Tmp) (v:Value):(a.put dst v).tmps.size=a.tmps.size∧(a.put dst v).defers=a.defers:=by
  cases dst<;>simp[Act.put]
theorem MM.put {m:Mid} (hm:MM E w0 G0 outer V nt own m a w β G) {objs:Tr Zd} {nx:Nat} {dst:Option Tmp} {val:Option DV} {v:Value} {w':World} {β':Bi} {G':Gh} (hx:Ext β G β' G')
    (hv:∀d,val=some d→Rep β' G' d v) (hh:HR E w0 G0 (YR own outer) w' β' G' objs.get) (hf:∀id,nx≤id→ZS β' objs.get id) :
    MM E w0 G0 outer V nt own (({ m with objs:=objs,next:=nx }:Mid).put V nt dst val) (a.put dst v) w' β' G':=by
  obtain⟨h1,h2⟩:=Z3O V nt ({ m with objs:=objs,next:=nx }:Mid) dst val
  obtain⟨h3,h4⟩:=Zcv (a:=a) dst v;refine⟨Zeo hx hm.sz hm.fr hv fun t d ht=>?_,Zf0 V nt _ dst val hm.dom,h3.trans hm.sz,by rw[h1];exact hh,fun id hid=>?_,⟨by rw[h4];exact hm.df.1,hm.df.2⟩⟩
  · rw[ZcV]at ht
    by_cases e:dst=some t∧t<nt
    · rw[if_pos e]at ht;exact .inl ⟨e.1,e.2,ht⟩
    · rw[if_neg e]at ht;exact .inr ⟨e,ht⟩
  · rw[h1];rw[h2]at hid;exact hf id hid
theorem Z30 {ops:Array Oper} {ρ:Nat→Option DV} (hf:FrM β G ρ a.tmps) {want:Bool} (h:Z1y ops ρ o=some want):Region.wanted o (yielded ops a.tmps)=want:=by
  unfold Z1y at h;unfold Region.wanted;cases hg:o.guard with
  | none=>rw[hg]at h;simp only[Option.some.injEq]at h;exact h
  | some g =>
    obtain⟨j,wt⟩:=g;rw[hg]at h;simp only at h⊢;unfold yielded;cases hd:(ops[j]?).bind (·.dst)with
    | none=>rw[hd]at h;cases h
    | some t =>
      rw[hd]at h;simp only at h;cases hr:ρ t with
      | none=>rw[hr]at h;cases h
      | some d =>
        rw[hr]at h;obtain⟨v,h1,h2⟩:=hf t d hr;simp only[Option.bind_some,h1];cases d with
        | bool b =>
          rw[ZM]at h2;subst h2;simp only[Option.some.injEq]at h;rw[←h];cases b<;>cases wt<;>rfl
        | _ =>
          have hw:want=false:=by simpa using h.symm
          subst hw;unfold Rep at h2
          first
          | (subst h2;rfl)
          | (obtain⟨b,_,rfl⟩:=h2;rfl)
          | (obtain⟨b,n,c,_,rfl⟩:=h2;rfl)
          | (obtain⟨_,b,o,rfl,_⟩:=h2;rfl)
          | (obtain⟨a,c,⟨rfl,_⟩,_⟩:=h2;rfl)
          | (obtain⟨_,a,n,c,rfl⟩:=h2;rfl)
          | (obtain⟨_,_,rfl,_,_⟩:=h2;rfl)
          | (obtain⟨_,_,_,_,_,_,rfl,_⟩:=h2;rfl)
          | (obtain⟨_,_,rfl,_⟩:=h2;rfl)
          | (obtain⟨_,rfl,_⟩:=h2;rfl)
theorem Zap {call:Nat→List DV→Option DV} {nid:Nat} {ρ:Nat→Option DV} {h:Nat→Option Zd} {op:Op} {r:Out} (hd:Z41 E call nid ρ h op=some (some r)):Z7J E call nid ρ h op=some r:=by
  unfold Z41 at hd;unfold Z7J;split at hd
  · rename_i hc
    obtain⟨r',h1,h2⟩:=Z0 hd;cases h2;rw[hc];exact h1
  · rename_i c hc
    obtain⟨tgt,h1,h2⟩:=Z0 hd;rw[hc];cases hp:ZdK E tgt with
    | true =>
      rw[hp]at h2;obtain⟨r',h3,h4⟩:=Z0 h2;cases h4;exact h3
    | false=>rw[hp]at h2;cases h2
theorem ZaW {df:Bool} {ρ:Nat→Option DV} {op:Op} (hd:Z5e E df ρ op=true):∃c f g caps,op=.defer c∧df=true∧c.args = #[]∧c.callee=.value f∧Y1 ρ f=some (.fn (.func g) [] caps)∧E.dfr g=true:=by
  unfold Z5e at hd;split at hd
  · rename_i c
    simp only[Bool.and_eq_true]at hd;obtain⟨⟨h1,h2⟩,h3⟩:=hd;split at h3
    · rename_i f hf
      split at h3
      · rename_i g caps hg
        exact⟨c,f,g,caps,rfl,h1,by simpa using h2,hf,hg,h3⟩
      · cases h3
    · cases h3
  · cases hd
theorem Z40 (hE:∀t ti,E.ty t=some ti→ZX P t ti) {df:Bool} (hdf:df=true→ro=none) {call:Nat→List DV→Option DV} (hp:Z37 P E call) {callH callY:Yj} (hH:YY P E callH) (hY:Z1g P E callY) {ops:Array Oper} {b:Nat} {Q:Exit→Act→World→Prop} :
    ∀(os:List Oper) (k:Nat) (m mf:Mid) (a:Act) (w:World) (β:Bi) (G:Gh),Z2L E df call callH callY V nt ops b k os m=some mf→b+k+os.length≤m.next →
      (∀j,k≤j→j<k+os.length→ZS β m.objs.get (b+j))→MM E w0 G0 outer V nt own m a w β G →
      (∀a' w' β' G',m.next≤mf.next→MM E w0 G0 outer V nt own mf a' w' β' G'→Go2 b β G β' G' m.objs.get mf.objs.get→Q .normal a' w')→wpListIn (fw ro) n P ops Q os a w
  | [],k,m,mf,a,w,β,G,hd,_,_,hm,hq=>by
    simp only[Z2L,Option.some.injEq]at hd;subst hd;exact hq a w β G (Nat.le_refl _) hm (Go2.refl _ _ _ _)
  | o::os,k,m,mf,a,w,β,G,hd,hle,hfr,hm,hq=>by
    simp only[Z2L]at hd;obtain⟨want,hw,hd⟩:=Z0 hd;have hwt:=Z30 hm.fr hw;simp only[List.length_cons]at hle hfr;simp only[wpListIn];rw[hwt];cases want with
    | false =>
      simp only[cond_false]at hd;simp only[Bool.false_eq_true,if_false];obtain⟨h1,h2⟩:=Z3O V nt m o.dst (some (.tup []));have hm':MM E w0 G0 outer V nt own (m.put V nt o.dst (some (.tup []))) (a.put o.dst undef) w β G :=
        MM.put (objs:=m.objs) (nx:=m.next) hm (Ext.refl β G) (fun d hd=>by cases hd;exact Z3V) hm.hr hm.fresh
      refine⟨fun f _=>trivial,Z40 hE hdf hp hH hY os (k+1) _ mf _ w β G hd (by rw[h2];omega) (fun j hj hl=>by rw[h1];exact hfr j (by omega) (by omega)) hm' fun a' w' β' G' hn hm2 hgo=>?_⟩
      exact hq a' w' β' G' (by rw[h2]at hn;exact hn) hm2 (by rw[h1]at hgo;exact hgo)
    | true =>
      simp only[cond_true]at hd;simp only[if_true];cases hdd:Z5e E df (Y0 V m.base m.loc) o.op with
      | true =>
        rw[hdd]at hd;simp only[cond_true]at hd;obtain⟨c,f,g,caps,ho,hdt,hargs,hcal,hop,hg⟩:=ZaW hdd;have hro:(fw ro).round=none:=hdf hdt;obtain⟨as,cs,hev,has,_⟩:=Zbh.1 (Zr hm.fr hop);rw[Zn]at has;subst has;have hrun:(o.semAt (fw ro).round a.eval).run P w=.ok (.defer { target:=.fn (.func g) cs.toArray,args := #[] }) w:=by
          rw[hro,Oper.semAt_none];unfold execOp;rw[ho];simp[resolve,hcal,hargs,hev,Deferred.ofValue]
        refine⟨fun f _=>trivial,?_⟩;rw[hrun,Oper.uponIn_defer];obtain⟨h1,h2⟩:=Z3O V nt m o.dst (some (.tup []));have hm0:MM E w0 G0 outer V nt own m { a with defers:={ target:=.fn (.func g) cs.toArray,args := #[] }::a.defers } w β G:=⟨hm.fr,hm.dom,hm.sz,hm.hr,hm.fresh,⟨.fn _ hg hm.df.1,hm.df.2⟩⟩
        have hm':MM E w0 G0 outer V nt own (m.put V nt o.dst (some (.tup []))) (({ a with defers:={ target:=.fn (.func g) cs.toArray,args := #[] }::a.defers }:Act).put o.dst undef) w β G :=
          MM.put (objs:=m.objs) (nx:=m.next) hm0 (Ext.refl β G) (fun d hd=>by cases hd;exact Z3V) hm.hr hm.fresh
        refine Z40 hE hdf hp hH hY os (k+1) _ mf _ w β G hd (by rw[h2];omega) (fun j hj hl=>by rw[h1];exact hfr j (by omega) (by omega)) hm' fun a' w' β' G' hn hm2 hgo=>?_
        exact hq a' w' β' G' (by rw[h2]at hn;exact hn) hm2 (by rw[h1]at hgo;exact hgo)
      | false =>
      rw[hdd]at hd;simp only[cond_false]at hd;obtain⟨so,hso,hd⟩:=Z0 hd;cases so with
      | some r =>
        have hr:=Zap hso;refine Z7K hE hp hm.fr hm.hr (hfr k (Nat.le_refl _) (by omega)) hr _ _ fun v w' β' G' hv hx hh hkp=>?_
        obtain⟨h1,h2⟩:=Z3O V nt ({ m with objs:=Ya m.objs r.upd }:Mid) o.dst r.val
        have hget:∀id,(Ya m.objs r.upd).get id=ZK m.objs.get r.upd id:=Z2z _ _;have hfr':∀id,id≠b+k→Z15 β β' m.objs.get (Ya m.objs r.upd).get id:=fun id hid hf=>by
          obtain⟨q1,q2,q3⟩:=hkp id hid hf;exact⟨by rw[hget];exact q1,q2,q3⟩
        have hm':MM E w0 G0 outer V nt own (({ m with objs:=Ya m.objs r.upd }:Mid).put V nt o.dst r.val) (a.put o.dst v) w' β' G' :=
          MM.put (objs:=Ya m.objs r.upd) (nx:=m.next) hm hx hv (hh.eq hget) (fun id hid=>(hfr' id (by omega)).fresh (hm.fresh id hid))
        refine Z40 hE hdf hp hH hY os (k+1) _ mf _ w' β' G' hd (by rw[h2];show b+(k+1)+os.length≤m.next;omega) (fun j hj hl=>by rw[h1];exact(hfr' _ (by omega)).fresh (hfr j (by omega) (by omega))) hm' fun a' w'' β'' G'' hn hm2 hgo=>?_
        refine hq a' w'' β'' G'' (by rw[h2]at hn;exact hn) hm2 (Go2.trans ⟨hx,fun id hi=>?_⟩ hgo)
        rw[h1];exact hfr' id (by omega)
      | none =>
        obtain⟨cl,hcl,hd⟩:=Z0 hd;obtain⟨tgt,htg,hd⟩:=Z0 hd;obtain⟨⟨out,T,nx'⟩,hx1,hd⟩:=Z0 hd;refine Z5u hE hH hY hm.fr hcl htg hm.hr hx1 (fun _ _ _ h=>h) hm.fresh fun v w' β' G' hv hle' hx hkp hh hff=>?_;obtain⟨h1,h2⟩:=Z3O V nt ({ m with objs:=Ya m.objs out.upd,next:=nx' }:Mid) o.dst out.val
        have hget:∀id,(Ya m.objs out.upd).get id=ZK m.objs.get out.upd id:=Z2z _ _;have hkp':∀id,id<m.next→Z15 β β' m.objs.get (Ya m.objs out.upd).get id:=fun id hid hf=>by
          obtain⟨q1,q2,q3⟩:=hkp id hid hf;exact⟨by rw[hget];exact q1,q2,q3⟩
        have hm':MM E w0 G0 outer V nt own (({ m with objs:=Ya m.objs out.upd,next:=nx' }:Mid).put V nt o.dst out.val) (a.put o.dst v) w' β' G' :=
          MM.put (objs:=Ya m.objs out.upd) (nx:=nx') hm hx hv (hh.eq hget) (fun id hid=>by
            have:=hff id hid;exact⟨this.blk,this.hdr,by rw[hget];exact this.h⟩)
        refine Z40 hE hdf hp hH hY os (k+1) _ mf _ w' β' G' hd (by rw[h2];show b+(k+1)+os.length≤nx';omega) (fun j hj hl=>by rw[h1];exact(hkp' _ (by omega)).fresh (hfr j (by omega) (by omega))) hm' fun a'' w'' β'' G'' hn hm2 hgo2=>?_
        refine hq a'' w'' β'' G'' (by rw[h2]at hn;exact Nat.le_trans hle' hn) hm2 (Go2.trans ⟨hx,fun id hi=>?_⟩ hgo2)
        rw[h1];exact hkp' id (by omega)
end
end Go.Ab
namespace Go.Ab
open Go.RowKit
structure Z4x (n0:Nat) (β β':Bi):Prop where
  blk:∀id,id<n0→β'.blk id=β.blk id
  hdr:∀id,id<n0→∀u,β'.hdr id u=β.hdr id u
section bddm
variable {n0:Nat} {β β':Bi} {G:Gh}
mutual
theorem Rep.bd (hx:Z4x n0 β β'):∀(d:DV) (v:Value),bdd n0 d=true→Rep β G d v→Rep β' G d v
  | .bool _,_,_,h=>by unfold Rep at h⊢;exact h
  | .int _ _,_,_,h=>by unfold Rep at h⊢;exact h
  | .str _,_,_,h=>by unfold Rep at h⊢;exact h
  | .nilp,_,_,h=>by unfold Rep at h⊢;exact h
  | .ptr i _,_,hb,h=>by
    simp only[bdd,Tr.blt_dec,decide_eq_true_eq]at hb;unfold Rep at h⊢;rw[hx.blk i hb];exact h
  | .rptr i _ _ _ _,_,hb,h=>by
    simp only[bdd,Tr.blt_dec,decide_eq_true_eq]at hb;unfold Rep at h⊢;rw[hx.hdr i hb];exact h
  | .pub cs,_,_,h=>by
    unfold Rep at h⊢;obtain⟨h0,b,o,h1,h2⟩:=h;exact⟨h0,b,o,h1,Pub.free cs b o h0 h2⟩
  | .nils,_,_,h=>by unfold Rep at h⊢;exact h
  | .sl es,v,_,h=>Rep.free _ v rfl h
  | .rs i _,_,hb,h=>by
    simp only[bdd,Tr.blt_dec,decide_eq_true_eq]at hb;unfold Rep at h⊢;rw[hx.hdr i hb];exact h
  | .rv i _ _ _ _,_,hb,h=>by
    simp only[bdd,Tr.blt_dec,decide_eq_true_eq]at hb;unfold Rep at h⊢;rw[hx.hdr i hb];exact h
  | .slen _,_,_,h=>by unfold Rep at h⊢;exact h
  | .agg cs,_,hb,h=>by unfold Rep at h⊢;obtain⟨vs,h1,h2⟩:=h;exact⟨vs,h1,Zi.bd hx cs vs (by simpa[bdd]using hb) h2⟩
  | .tup cs,_,hb,h=>by unfold Rep at h⊢;obtain⟨vs,h1,h2⟩:=h;exact⟨vs,h1,Zi.bd hx cs vs (by simpa[bdd]using hb) h2⟩
  | .fn _ a c,_,hb,h=>by
    unfold Rep at h⊢;obtain⟨as,cs,h1,h2,h3⟩:=h;have hb':Z1P n0 a=true∧Z1P n0 c=true:=by simpa[bdd]using hb
    exact⟨as,cs,h1,Zi.bd hx a as hb'.1 h2,Zi.bd hx c cs hb'.2 h3⟩
  | .nilfn,_,_,h=>by unfold Rep at h⊢;exact h
  | .map i,_,hb,h=>by
    simp only[bdd,Tr.blt_dec,decide_eq_true_eq]at hb;unfold Rep at h⊢;rw[hx.blk i hb];exact h
  | .nilmap,_,_,h=>by unfold Rep at h⊢;exact h
  | .iface _ d,_,hb,h=>by unfold Rep at h⊢;obtain⟨u,h1,h2⟩:=h;exact⟨u,h1,Rep.bd hx d u (by simpa[bdd]using hb) h2⟩
  | .nilif,_,_,h=>by unfold Rep at h⊢;exact h
  | .iter i,_,hb,h=>by
    simp only[bdd,Tr.blt_dec,decide_eq_true_eq]at hb;unfold Rep at h⊢;rw[hx.blk i hb];exact h
  | .yld i,_,hb,h=>by
    simp only[bdd,Tr.blt_dec,decide_eq_true_eq]at hb;unfold Rep at h⊢;rw[hx.blk i hb];exact h
theorem Zi.bd (hx:Z4x n0 β β'):∀(ds:List DV) (vs:List Value),Z1P n0 ds=true→Zi β G ds vs→Zi β' G ds vs
  | [],_,_,h=>by unfold Zi at h⊢;exact h
  | d::ds,_,hb,h=>by
    unfold Zi at h⊢;have hb':bdd n0 d=true∧Z1P n0 ds=true:=by simpa[Z1P]using hb
    obtain⟨v,vs',h1,h2,h3⟩:=h;exact⟨v,vs',h1,Rep.bd hx d v hb'.1 h2,Zi.bd hx ds vs' hb'.2 h3⟩
end
end bddm
theorem Z5S {id v:Nat}:∀{L:List (Option (Nat×Nat))} {j0 j:Nat},Z5v id v j0 L=some j→j0≤j∧L[j-j0]? = some (some (id,v))
  | [],_,_,h=>by cases h
  | none::L,j0,j,h=>by
    simp only[Z5v]at h;obtain⟨h1,h2⟩:=Z5S h;refine⟨by omega,?_⟩
    rw[show j-j0=(j-(j0+1))+1 by omega];simpa using h2
  | some (i,u)::L,j0,j,h=>by
    simp only[Z5v]at h
    by_cases e:(Nat.beq i id&&Nat.beq u v)=true
    · rw[e]at h
      cases h;simp only[Bool.and_eq_true]at e;have e1:i=id:=Nat.eq_of_beq_eq_true e.1;have e2:u=v:=Nat.eq_of_beq_eq_true e.2;subst e1 e2;exact⟨Nat.le_refl _,by simp⟩
    · have e':(Nat.beq i id&&Nat.beq u v)=false:=Bool.eq_false_iff.2 e
      rw[e']at h;obtain⟨h1,h2⟩:=Z5S h;refine⟨by omega,?_⟩
      rw[show j-j0=(j-(j0+1))+1 by omega];simpa using h2
def Z1j (n0:Nat) (L:List (Option (Nat×Nat))) (β:Bi):Bi where
  blk i:=if i<n0 then β.blk i else none
  hdr i u:=if i<n0 then β.hdr i u else if u=0 then(match L[i-n0]? with|some (some (id,v))=>β.hdr id v|_=>none)else none
theorem Z4X (n0:Nat) (L:List (Option (Nat×Nat))) (β:Bi):Z4x n0 β (Z1j n0 L β):=⟨fun id h=>by simp[Z1j,h],fun id h u=>by simp[Z1j,h]⟩
section
variable {n0:Nat} {L:List (Option (Nat×Nat))} {β:Bi} {G:Gh}
theorem Zag {j id v:Nat} (h:L[j]? = some (some (id,v))):(Z1j n0 L β).hdr (n0+j) 0=β.hdr id v:=by
  have:¬n0+j<n0:=by omega
  simp[Z1j,h,this]
theorem Z1R {d d':DV} {v:Value} (h:(bif bdd n0 d then some d else none)=some d') (hr:Rep β G d v):Rep (Z1j n0 L β) G d' v∧ZI d'=ZI d:=by
  obtain⟨hb,h⟩:=Z3 h;cases h;exact⟨Rep.bd (Z4X n0 L β) _ v hb hr,rfl⟩
mutual
theorem Zbg:∀{d d':DV} {v:Value},ren n0 L d=some d'→Rep β G d v→Rep (Z1j n0 L β) G d' v∧ZI d'=ZI d
  | .rs id ver,d',v,h,hr=>by
    simp only[ren]at h;cases hj:Z5v id ver 0 L with
    | none =>
      rw[hj]at h;obtain⟨hl,h⟩:=Z3 h;cases h;simp only[Bool.and_eq_true,Tr.blt_dec]at hl;exact⟨Rep.bd (Z4X n0 L β) _ v (by simp only[bdd,Tr.blt_dec];exact hl.1) hr,rfl⟩
    | some j =>
      rw[hj]at h;cases h;obtain⟨_,h2⟩:=Z5S hj;rw[Z2J]at hr⊢;exact⟨⟨(Zag (by simpa using h2)).trans hr.1,hr.2⟩,rfl⟩
  | .agg cs,d',v,h,hr=>by
    simp only[ren]at h;obtain⟨cs',h1,h⟩:=Z0 h;cases h;obtain⟨vs,rfl,h2⟩:=YM.1 hr;exact⟨YM.2 ⟨vs,rfl,(Z6H h1 h2).1⟩,rfl⟩
  | .tup cs,d',v,h,hr=>by
    simp only[ren]at h;obtain⟨cs',h1,h⟩:=Z0 h;cases h;obtain⟨vs,rfl,h2⟩:=YN.1 hr;exact⟨YN.2 ⟨vs,rfl,(Z6H h1 h2).1⟩,rfl⟩
  | .bool _,d',v,h,hr=>Z1R (d:=.bool _) h hr
  | .int _ _,d',v,h,hr=>Z1R (d:=.int _ _) h hr
  | .str _,d',v,h,hr=>Z1R (d:=.str _) h hr
  | .nilp,d',v,h,hr=>Z1R (d:=.nilp) h hr
  | .ptr _ _,d',v,h,hr=>Z1R (d:=.ptr _ _) h hr
  | .rptr _ _ _ _ _,d',v,h,hr=>Z1R (d:=.rptr _ _ _ _ _) h hr
  | .pub _,d',v,h,hr=>Z1R (d:=.pub _) h hr
  | .nils,d',v,h,hr=>Z1R (d:=.nils) h hr
  | .sl _,d',v,h,hr=>Z1R (d:=.sl _) h hr
  | .rv _ _ _ _ _,d',v,h,hr=>Z1R (d:=.rv _ _ _ _ _) h hr
  | .slen _,d',v,h,hr=>Z1R (d:=.slen _) h hr
  | .fn _ _ _,d',v,h,hr=>Z1R (d:=.fn _ _ _) h hr
  | .nilfn,d',v,h,hr=>Z1R (d:=.nilfn) h hr
  | .map _,d',v,h,hr=>Z1R (d:=.map _) h hr
  | .nilmap,d',v,h,hr=>Z1R (d:=.nilmap) h hr
  | .iface _ _,d',v,h,hr=>Z1R (d:=.iface _ _) h hr
  | .nilif,d',v,h,hr=>Z1R (d:=.nilif) h hr
  | .iter _,d',v,h,hr=>Z1R (d:=.iter _) h hr
  | .yld _,d',v,h,hr=>Z1R (d:=.yld _) h hr
theorem Z6H:∀{ds ds':List DV} {vs:List Value},Z2w n0 L ds=some ds'→Zi β G ds vs→Zi (Z1j n0 L β) G ds' vs∧ds'.all ZI=ds.all ZI
  | [],ds',vs,h,hr=>by simp only[Z2w,Option.some.injEq]at h;subst h;rw[Zn]at hr;subst hr;exact⟨Zn.2 rfl,rfl⟩
  | d::ds,ds',vs,h,hr=>by
    simp only[Z2w]at h;obtain⟨c,h1,h⟩:=Z0 h;obtain⟨cs,h2,h⟩:=Z0 h;cases h;obtain⟨v,vs',rfl,hr1,hr2⟩:=Zb.1 hr;obtain⟨k1,k2⟩:=Zbg h1 hr1;obtain⟨k3,k4⟩:=Z6H h2 hr2;exact⟨Zb.2 ⟨v,vs',rfl,k1,k3⟩,by simp[k2,k4]⟩
end
theorem Z2P {o:Tr Zd}:∀{L:List (Option (Nat×Nat))} {j0:Nat} {no no':Tr Zd},Z2b o n0 j0 L no=some no'→∀i,
    (no'.get i=no.get i∧∀j id v,i=n0+j0+j→L[j]? ≠ some (some (id,v)))∨∃j id v e es p,i=n0+j0+j∧L[j]? = some (some (id,v))∧o.get id=some (.row e es p v)∧no'.get i=some (.row e es p 0)
  | [],j0,no,no',h,i=>by simp only[Z2b,Option.some.injEq]at h;subst h;exact .inl ⟨rfl,fun j id v _=>by simp⟩
  | none::L,j0,no,no',h,i=>by
    simp only[Z2b]at h;rcases Z2P h i with⟨h1,h2⟩|⟨j,id,v,e,es,p,h1,h2,h3,h4⟩
    · refine .inl ⟨h1,fun j id v hi=>?_⟩
      cases j with
      | zero=>simp
      | succ j=>simpa using h2 j id v (by omega)
    · exact .inr ⟨j+1,id,v,e,es,p,by omega,by simpa using h2,h3,h4⟩
  | some (id,v)::L,j0,no,no',h,i=>by
    simp only[Z2b]at h;split at h
    · rename_i e es p u hg
      have hu:=(Z3 h).1;replace h:=(Z3 h).2;have hu:u=v:=Nat.eq_of_beq_eq_true hu;subst hu;rcases Z2P h i with⟨h1,h2⟩|⟨j,id',v',e',es',p',h1,h2,h3,h4⟩
      · rw[Tr.get_set]at h1
        by_cases hi:i=n0+j0
        · rw[if_pos hi]at h1
          exact .inr ⟨0,id,u,e,es,p,by omega,by simp,hg,h1⟩
        · rw[if_neg hi]at h1
          refine .inl ⟨h1,fun j id' v' hj=>?_⟩;cases j with
          | zero=>omega
          | succ j=>simpa using h2 j id' v' (by omega)
      · exact .inr ⟨j+1,id',v',e',es',p',by omega,by simpa using h2,h3,h4⟩
    · cases h
theorem Z7C:∀{L:List (Option (Nat×Nat))} {j k id v w:Nat},Zd4 L=true→L[j]? = some (some (id,v))→L[k]? = some (some (id,w))→j=k
  | [],_,_,_,_,_,_,h,_=>by simp at h
  | none::L,j,k,id,v,w,hu,h1,h2=>by
    cases j with
    | zero=>simp at h1
    | succ j=>cases k with
      | zero=>simp at h2
      | succ k=>exact congrArg (· + 1) (Z7C (L:=L) (j:=j) (k:=k) (id:=id) (v:=v) (w:=w) (by simpa[Zd4]using hu) (by simpa using h1) (by simpa using h2))
  | some (i,u)::L,j,k,id,v,w,hu,h1,h2=>by
    simp only[Zd4,Bool.and_eq_true,List.all_eq_true]at hu;have hne:∀{k x:Nat},L[k]? = some (some (i,x))→False:=fun {k x} hk=>by
      have:=hu.1 _ (List.mem_of_getElem? hk);simp at this
    cases j with
    | zero =>
      have e1:i=id:=by
        have:i=id∧u=v:=by simpa using h1
        exact this.1
      subst e1;cases k with
      | zero=>rfl
      | succ k=>exact(hne (by simpa using h2)).elim
    | succ j =>
      replace h1:L[j]? = some (some (id,v)):=by simpa using h1
      cases k with
      | zero =>
        have e1:i=id:=by
          have:i=id∧u=w:=by simpa using h2
          exact this.1
        subst e1;exact(hne h1).elim
      | succ k=>rw[Z7C hu.2 h1 (by simpa using h2)]
end
section
variable {P:Program} {E:Env} {w0:World} {G0:Gh} {D:DD} {w:World} {β:Bi} {G:Gh} {n0:Nat} {L:List (Option (Nat×Nat))} {base:Nat} {h:Nat→Option Zd}
theorem Z2E:∀{es:List (List DV)},(∀c∈es,Zc c=true)→Zc es.flatten=true
  | [],_=>rfl
  | c::es,h=>by
    have happ:∀(xs ys:List DV),Zc xs=true→Zc ys=true→Zc (xs++ys)=true:=fun xs=>by
      induction xs with
      | nil=>intro ys _ h;exact h
      | cons x xs ih =>
        intro ys h1 h2;simp only[Zc,Bool.and_eq_true,List.cons_append]at h1⊢;exact⟨h1.1,ih ys h1.2 h2⟩
    rw[List.flatten_cons];exact happ _ _ (h c (by simp)) (Z2E fun x hx=>h x (by simp[hx]))
theorem Zdw {k:DV} (h:keyOk k=true):Zh k=true:=by
  cases k with
  | agg cs =>
    simp only[keyOk,List.all_eq_true]at h;simp only[Zh];exact Z1c.2 fun c hc=>by have:=h c hc;cases c<;>first|rfl|cases this
  | _=>first|rfl|cases h
theorem Z7e {β':Bi}:∀{es:List (DV×DV)} {ms:List MapEntry},Z6X β G es ms→Z6X β' G es ms
  | [],_,h=>h
  | (k,v)::es,_,⟨m,ms',h1,h2,h3,h4,h5,h6⟩=>⟨m,ms',h1,Rep.free k m.key (Zdw h4) h2,Rep.free v m.val h5 h3,h4,h5,Z7e h6⟩
theorem Zbe {id:Nat} {x x':Zd} (hid:id<n0) (h:Z3B n0 L x=some x') (ho:Z2n E base w β G id x):Z2n E base w (Z1j n0 L β) G id x'∧∀b,Yv (Z1j n0 L β) id x' b↔Yv β id x b:=by
  have hb:(Z1j n0 L β).blk id=β.blk id:=by simp[Z1j,hid]
  have hh:∀u,(Z1j n0 L β).hdr id u=β.hdr id u:=fun u=>by simp[Z1j,hid]
  cases x with
  | cells t cs =>
    simp only[Z3B]at h;obtain⟨cs',h1,h⟩:=Z0 h;cases h;obtain⟨b,vs,k1,k2,k3,k4,k5⟩:=ho;obtain⟨m1,m2⟩:=Z6H (β:=β) h1 k3;exact⟨⟨b,vs,by rw[hb];exact k1,k2,m1,by rw[m2];exact k4,k5⟩,fun b=>by simp[Yv,hb]⟩
  | row t es p u =>
    cases h;obtain⟨hdr,vals,k1,k2,k3,k4,k5,k6,k7⟩:=ho;refine⟨⟨hdr,vals,by rw[hh];exact k1,k2,Zi.free _ _ ?_ k3,k4,k5,k6,fun u' hu=>by rw[hh];exact k7 u' hu⟩,fun b=>by simp[Yv,hh]⟩
    exact Z2E fun c hc=>(k4 c hc).2.1
  | map es =>
    cases h;obtain⟨b,ms,clock,k1,k2,k3⟩:=ho;exact⟨⟨b,ms,clock,by rw[hb];exact k1,k2,Z7e k3⟩,fun b=>by simp[Yv,hb]⟩
  | siter s pos =>
    cases h;obtain⟨b,k1,k2⟩:=ho;exact⟨⟨b,by rw[hb];exact k1,k2⟩,fun b=>by simp[Yv,hb]⟩
  | loop fid bs ps as bo bid ex =>
    simp only[Z3B]at h;obtain⟨bs',h1,h⟩:=Z0 h;cases h;obtain⟨b,tmps,df,fn,F,k1,k2,k3,k4,k5,k6⟩:=ho;refine⟨⟨b,tmps,df,fn,F,by rw[hb];exact k1,k2,fun t d ht=>?_,k4,k5,fun t d ht=>?_⟩,fun b=>by simp[Yv,hb]⟩
    · rcases Tr.tm_get1 h1 t with⟨_,h3⟩|⟨x,y,h3,h4,h5⟩
      · rw[h3]at ht;cases ht
      · obtain⟨d',h6,h7⟩:=Z0 h4
        cases h7;rw[h5]at ht;cases ht;obtain⟨v,h8,h9⟩:=k3 t x h3;exact⟨v,h8,(Zbg h6 h9).1⟩
    · rcases Tr.tm_get1 h1 t with⟨_,h3⟩|⟨x,y,h3,h4,h5⟩
      · rw[h3]at ht;cases ht
      · exact k6 t x h3
theorem Z5W {id:Nat}:∀{L:List (Option (Nat×Nat))},Z3f id L=false→∀(j v:Nat),L[j]? ≠ some (some (id,v))
  | [],_,j,v=>by simp
  | none::L,h,j,v=>by
    cases j with
    | zero=>simp
    | succ j=>simpa using Z5W (L:=L) (by simpa[Z3f]using h) j v
  | some (i,w)::L,h,j,v=>by
    simp only[Z3f,Bool.or_eq_false_iff]at h;cases j with
    | zero =>
      intro e;simp only[List.getElem?_cons_zero,Option.some.injEq,Prod.mk.injEq]at e;rw[e.1,Tr.beq_dec]at h;simp at h
    | succ j=>simpa using Z5W (L:=L) h.2 j v
theorem Zh1 (hh:HR E w0 G0 D w β G h) (hu:Zd4 L=true) {h':Nat→Option Zd}
    (hs:∀i x',h' i=some x'→((i<n0∧∀(j v:Nat),L[j]? ≠ some (some (i,v)))∧∃x,h i=some x∧Z3B n0 L x=some x')∨(∃j id v e es p,i=n0+j∧L[j]? = some (some (id,v))∧h id=some (.row e es p v)∧x'=.row e es p 0)) :
    HR E w0 G0 D w (Z1j n0 L β) G h':=by
  have horig:∀i x',h' i=some x'→∃k x,h k=some x∧Z2n E w0.heap.size w (Z1j n0 L β) G i x'∧(∀b,Yv (Z1j n0 L β) i x' b→Yv β k x b)∧(((i<n0∧∀(j v:Nat),L[j]? ≠ some (some (i,v)))∧k=i)∨∃j v,i=n0+j∧L[j]? = some (some (k,v))):=fun i x' hi=>by
    rcases hs i x' hi with⟨hlt,x,hx,hr⟩|⟨j,id,v,e,es,p,rfl,hj,hx,rfl⟩
    · obtain⟨k1,k2⟩:=Zbe hlt.1 hr (hh.obj i x hx)
      exact⟨i,x,hx,k1,fun b hb=>(k2 b).1 hb,.inl ⟨hlt,rfl⟩⟩
    · obtain⟨hdr,vals,k1,k2,k3,k4,k5,k6,k7⟩:=hh.obj id _ hx
      have hnew:=Zag (n0:=n0) (β:=β) hj;refine⟨id,_,hx,⟨hdr,vals,by rw[hnew];exact k1,k2,Zi.free _ _ (Z2E fun c hc=>(k4 c hc).2.1) k3,k4,k5,k6,fun u' hu'=>?_⟩,fun b hb=>?_,.inr ⟨j,v,rfl,hj⟩⟩
      · have h1:¬n0+j<n0:=by omega
        have h2:u'≠0:=by omega
        simp[Z1j,h1,h2]
      · obtain⟨m,c,hb⟩:=hb
        exact⟨m,c,by rw[←hnew];exact hb⟩
  refine⟨hh.below,hh.g0,hh.agree,fun i x' hi=>?_,fun i x' b hi hb=>?_,fun i i' x y b hi hi' hb hb'=>?_,hh.marks,hh.inv0⟩
  · obtain⟨k,x,_,h2,_⟩:=horig i x' hi;exact h2
  · obtain⟨k,x,h1,_,h3,_⟩:=horig i x' hi
    exact hh.own k x b h1 (h3 b hb)
  · obtain⟨k,z,h1,_,h3,h4⟩:=horig i x hi
    obtain⟨k',z',h1',_,h3',h4'⟩:=horig i' y hi';have hk:k=k':=hh.inj k k' z z' b h1 h1' (h3 b hb) (h3' b hb');subst hk;rcases h4 with⟨hlt,rfl⟩|⟨j,v,rfl,hj⟩<;>rcases h4' with⟨hlt',e'⟩|⟨j',v',rfl,hj'⟩
    · exact e'
    · exact absurd hj' (hlt.2 _ _)
    · subst e';exact absurd hj (hlt'.2 _ _)
    · rw[Z7C hu hj hj']
theorem HR.rebi (hh:HR E w0 G0 D w β G h) {β':Bi} (hx:Ext β G β' G) (hs:∀i o,h i=some o→β'.blk i=β.blk i∧∀u,β'.hdr i u=β.hdr i u):HR E w0 G0 D w β' G h:=by
  refine⟨hh.below,hh.g0,hh.agree,fun i o hi=>?_,fun i o b hi hb=>?_,fun i k o p b hi hk hb hc=>?_,hh.marks,hh.inv0⟩
  · exact Z2n.keep hx (hs i o hi).2 (fun _ _=>⟨rfl,fun _=>rfl⟩) (hh.obj i o hi)
  · exact hh.own i o b hi ((Z1w (hs i o hi).1 (hs i o hi).2 o b).1 hb)
  · exact hh.inj i k o p b hi hk ((Z1w (hs i o hi).1 (hs i o hi).2 o b).1 hb) ((Z1w (hs k p hk).1 (hs k p hk).2 p b).1 hc)
theorem ZcB:∀{cs:List DV} {vs:List Value} {off:Nat} {d:DV} {v:Value},Zi β G cs vs→vs[off]? = some v→Rep β G d v→Zi β G (cs.set off d) vs
  | [],_,_,_,_,h,_,_=>h
  | c::cs,_,off,d,v,h,hv,hr=>by
    obtain⟨u,vs',rfl,h1,h2⟩:=Zb.1 h;cases off with
    | zero=>simp at hv;subst hv;exact Zb.2 ⟨u,vs',rfl,hr,h2⟩
    | succ off=>exact Zb.2 ⟨u,vs',rfl,h1,ZcB h2 (by simpa using hv) hr⟩
theorem Zed:∀{cs:List DV} {off:Nat} {d:DV},cs.all ZI=true→ZI d=true→(cs.set off d).all ZI=true
  | [],_,_,h,_=>h
  | c::cs,off,d,h,hd=>by
    simp only[List.all_cons,Bool.and_eq_true]at h;cases off with
    | zero=>simp[hd];simpa using h.2
    | succ off=>simp[h.1];simpa using Zed (off:=off) h.2 hd
theorem Z2e (tm:Array Value) (V:Nat):∀(as:List Acc) (j:Nat) (b:Tr DV) (no:Tr Zd) (β:Bi) (r:Tr DV×Tr Zd),Yl E n0 j as (b,no)=some r →
    HR E w0 G0 D w β G no.get→FrM β G b.get tm→(∀t d,b.get t=some d→Nat.testBit V t=true)→(∀i,n0≤i→no.get i=none→ZS β no.get i)→(∀i,n0+j+as.length≤i→no.get i=none) →
    ∃β',Ext β G β' G∧Z4x n0 β β'∧HR E w0 G0 D w β' G r.2.get∧FrM β' G r.1.get tm∧(∀t d,r.1.get t=some d→Nat.testBit V t=true)∧(∀i,n0+j+as.length≤i→ZS β' r.2.get i) ∧
      ∀i,i<n0→no.get i=none→r.2.get i=none
  | [],j,b,no,β,r,h,hh,hf,hd,hfr,hn=>by
    simp only[Yl,Option.some.injEq]at h;subst h;exact⟨β,Ext.refl β G,⟨fun _ _=>rfl,fun _ _ _=>rfl⟩,hh,hf,hd,fun i hi=>hfr i (by simp at hi;omega) (hn i hi),fun _ _ h=>h⟩
  | ac::as,j,b,no,β,r,h,hh,hf,hd,hfr,hn=>by
    simp only[List.length_cons]at hn⊢;have skip:Yl E n0 (j+1) as (b,no)=some r→∃β',Ext β G β' G∧Z4x n0 β β'∧HR E w0 G0 D w β' G r.2.get∧FrM β' G r.1.get tm∧(∀t d,r.1.get t=some d→Nat.testBit V t=true)∧(∀i,n0+j+(as.length+1)≤i→ZS β' r.2.get i) ∧
      ∀i,i<n0→no.get i=none→r.2.get i=none:=fun h=>by
      obtain⟨β',k1,k2,k3,k4,k5,k6,k7⟩:=Z2e tm V as (j+1) b no β r h hh hf hd hfr (fun i hi=>hn i (by omega))
      exact⟨β',k1,k2,k3,k4,k5,fun i hi=>k6 i (by omega),k7⟩
    have add:∀(b1:Tr DV) (no1:Tr Zd) (e:TypeId) (ei:TI),E.ty e=some ei→0<ei.size→no.get (n0+j)=none→Yl E n0 (j+1) as (b1,no1.set (n0+j) (some (.row e [] 0 0)))=some r →
        (∀i,i≠n0+j→(no1.get i=none↔no.get i=none)) →
        (∀β1,Ext β G β1 G→Z4x n0 β β1→(∀i,i≠n0+j→β1.blk i=β.blk i∧∀u,β1.hdr i u=β.hdr i u)→β1.hdr (n0+j) 0=some (.slice none 0 0)→FrM β1 G b1.get tm∧(∀t d,b1.get t=some d→Nat.testBit V t=true)∧HR E w0 G0 D w β1 G (fun i=>if i=n0+j then none else no1.get i)) →
        ∃β',Ext β G β' G∧Z4x n0 β β'∧HR E w0 G0 D w β' G r.2.get∧FrM β' G r.1.get tm∧(∀t d,r.1.get t=some d→Nat.testBit V t=true)∧(∀i,n0+j+(as.length+1)≤i→ZS β' r.2.get i) ∧
          ∀i,i<n0→no.get i=none→r.2.get i=none:=fun b1 no1 e ei hei hpos hnone hrec hno1 hb1=>by
      have hfresh:=hfr (n0+j) (by omega) hnone
      let β1:Bi:={ β with hdr:=fun i u=>if i=n0+j∧u=0 then some (.slice none 0 0)else β.hdr i u }
      have hx1:Ext β G β1 G:=⟨fun _ _ _ h=>h,fun _ _ h=>h,fun i u v hv=>by
        by_cases e1:i=n0+j∧u=0
        · rw[e1.1,hfresh.hdr]at hv;cases hv
        · simp only[β1,if_neg e1];exact hv⟩
      have hag1:Z4x n0 β β1:=⟨fun _ _=>rfl,fun i hi u=>by
        have:¬(i=n0+j∧u=0):=by omega
        simp only[β1,if_neg this]⟩
      have hoth:∀i,i≠n0+j→β1.blk i=β.blk i∧∀u,β1.hdr i u=β.hdr i u:=fun i hi=>⟨rfl,fun u=>by simp[β1,hi]⟩
      obtain⟨hf1,hd1,hh1⟩:=hb1 β1 hx1 hag1 hoth (by simp[β1])
      have hh2:HR E w0 G0 D w β1 G (no1.set (n0+j) (some (.row e [] 0 0))).get:=by
        refine(hh1.move (fun _=>False) (n0+j) (.row e [] 0 0) (Ext.refl _ _) hh1.below (fun _ _ _=>rfl) (fun _ _=>rfl) (Nat.le_refl _) (fun _ hf=>hf.elim) (fun _ _ _ hf=>hf.elim) (fun _ hf=>hf.elim) ?_ ?_ ?_ (fun _ _=>⟨rfl,fun _=>rfl⟩)).eq fun i=>?_
        · refine⟨.slice none 0 0,[],by simp[β1],⟨by simp,.inl ⟨rfl,rfl⟩⟩,Zn.2 rfl,by simp,⟨by rw[Z6o hei];exact hpos,Nat.le_refl _⟩,fun b hb=>by simp[Value.ownBlock]at hb,fun u' hu'=>?_⟩
          have:¬(u'=0):=by omega
          simp[β1,this,hfresh.hdr]
        · rintro x ⟨m,c,hb⟩;simp[β1]at hb
        · rintro x ⟨m,c,hb⟩;simp[β1]at hb
        · rw[ZV,Tr.get_set]
          by_cases e1:i=n0+j<;>simp[e1]
      have hs1:∀i,n0≤i→(no1.set (n0+j) (some (.row e [] 0 0))).get i=none→ZS β1 (no1.set (n0+j) (some (.row e [] 0 0))).get i:=fun i hi hq=>by
        have hq0:=hq;rw[Tr.get_set]at hq
        by_cases e1:i=n0+j
        · rw[if_pos e1]at hq;cases hq
        · rw[if_neg e1]at hq
          have:=hfr i hi ((hno1 i e1).1 hq);exact⟨(hoth i e1).1.trans this.blk,fun u=>((hoth i e1).2 u).trans (this.hdr u),hq0⟩
      have hs2:∀i,n0+(j+1)+as.length≤i→(no1.set (n0+j) (some (.row e [] 0 0))).get i=none:=fun i hi=>by
        rw[Tr.get_set,if_neg (by omega)]
        exact(hno1 i (by omega)).2 (hn i (by omega))
      obtain⟨β',k1,k2,k3,k4,k5,k6,k7⟩:=Z2e tm V as (j+1) b1 _ β1 r hrec hh2 hf1 hd1 hs1 hs2;refine⟨β',hx1.trans k1,⟨fun i hi=>(k2.blk i hi).trans (hag1.blk i hi),fun i hi u=>(k2.hdr i hi u).trans (hag1.hdr i hi u)⟩,k3,k4,k5,fun i hi=>k6 i (by omega),fun i hi hq=>k7 i hi ?_⟩
      rw[Tr.get_set,if_neg (by omega)];exact(hno1 i (by omega)).2 hq
    cases ac with
    | slot t e =>
      simp only[Yl]at h;split at h
      · rename_i hbt
        obtain⟨ei,hei,h⟩:=Z0 h;obtain⟨hq,h⟩:=Z3 h;simp only[Bool.and_eq_true,Option.isNone_iff_eq_none]at hq;refine add _ no e ei hei (Nat.le_of_ble_eq_true hq.1) hq.2 h (fun _ _=>Iff.rfl) fun β1 hx1 hag1 hoth hn1=>⟨fun t' d ht=>?_,fun t' d ht=>?_,?_⟩
        · rw[Tr.get_set]at ht
          by_cases e1:t'=t
          · subst e1
            rw[if_pos rfl]at ht;cases ht;obtain⟨v,h1,h2⟩:=hf t' _ hbt;rw[Z1U]at h2;exact⟨v,h1,Z2J.2 ⟨by rw[hn1,h2],_,_,_,h2⟩⟩
          · rw[if_neg e1]at ht
            obtain⟨v,h1,h2⟩:=hf t' d ht;exact⟨v,h1,Rep.mono hx1 d v h2⟩
        · rw[Tr.get_set]at ht
          by_cases e1:t'=t
          · subst e1;exact hd t' _ hbt
          · rw[if_neg e1]at ht;exact hd t' d ht
        · exact HR.rebi (hh.less fun i o hi=>by
            by_cases e1:i=n0+j
            · rw[if_pos e1]at hi;cases hi
            · rw[if_neg e1]at hi;exact hi) hx1 fun i o hi=>by
            by_cases e1:i=n0+j
            · rw[if_pos e1]at hi;cases hi
            · exact hoth i e1
      · exact skip h
    | cell t off e =>
      simp only[Yl]at h;split at h
      · split at h
        · split at h
          · rename_i q hbt _ ct cs hnq _ hcs
            obtain⟨ei,hei,h⟩:=Z0 h;obtain⟨hq,h⟩:=Z3 h;simp only[Bool.and_eq_true,Option.isNone_iff_eq_none]at hq;have hqn:q≠n0+j:=fun e1=>by rw[e1,hq.2]at hnq;cases hnq
            refine add b _ e ei hei (Nat.le_of_ble_eq_true hq.1) hq.2 h (fun i hi=>?_) fun β1 hx1 hag1 hoth hn1=>⟨hf.mono hx1,hd,?_⟩
            · rw[Tr.get_set]
              by_cases e1:i=q
              · subst e1;simp[hnq]
              · rw[if_neg e1]
            · have hh1:HR E w0 G0 D w β1 G (fun i=>if i=n0+j then none else no.get i):=HR.rebi (hh.less fun i o hi=>by
                by_cases e1:i=n0+j
                · rw[if_pos e1]at hi;cases hi
                · rw[if_neg e1]at hi;exact hi) hx1 fun i o hi=>by
                by_cases e1:i=n0+j
                · rw[if_pos e1]at hi;cases hi
                · exact hoth i e1
              obtain⟨bk,vs,m1,m2,m3,m4,m5⟩:=hh1.obj q (.cells ct cs) (by rw[if_neg hqn];exact hnq)
              obtain⟨v,m6,m7⟩:=Z3S m3 hcs;rw[Z1U]at m7;subst m7;refine(hh1.move (fun _=>False) q (.cells ct (cs.set off (.rs (n0+j) 0))) (Ext.refl _ _) hh1.below (fun _ _ _=>rfl) (fun _ _=>rfl) (Nat.le_refl _) (fun _ hf=>hf.elim) (fun _ _ _ hf=>hf.elim) (fun _ hf=>hf.elim) ?_ ?_ ?_ (fun _ _=>⟨rfl,fun _=>rfl⟩)).eq fun i=>?_
              · exact⟨bk,vs,m1,m2,ZcB m3 m6 (Z2J.2 ⟨hn1,_,_,_,rfl⟩),Zed m4 rfl,m5⟩
              · intro x hx
                exact .inr ⟨.cells ct cs,by rw[if_neg hqn];exact hnq,hx⟩
              · intro x hx
                exact(hh1.own q (.cells ct cs) x (by rw[if_neg hqn];exact hnq) hx).2.1
              · rw[ZV,Tr.get_set]
                by_cases e1:i=q
                · subst e1;simp[hqn]
                · simp[e1]
          · exact skip h
        · exact skip h
      · exact skip h
end
end Go.Ab
namespace Go.Ab
open Go.RowKit
section
variable {P:Program} {E:Env} {w0:World} {G0:Gh} {outer:DD} {own:List Nat} {V nt:Nat} {a:Act} {w:World} {β:Bi} {G:Gh} {n0:Nat}
abbrev SS (E:Env) (w0:World) (G0:Gh) (outer:DD) (V nt:Nat) (own:List Nat) (s:St) (a:Act) (w:World) (β:Bi) (G:Gh):Prop :=
  MI E w0 G0 outer V nt own s.base.get s.base s.objs.get s.next a w β G
theorem ZgI {id:Nat} {x:Zd} (h:Z2n E w0.heap.size w β G id x):Z2n E w0.heap.size w β G id (Z4O x):=by
  cases x with
  | row t es p u =>
    obtain⟨hdr,vals,k1,k2,k3,k4,k5,k6,k7⟩:=h;exact⟨hdr,vals,k1,k2,k3,k4,⟨k5.1,Z99 _ _⟩,fun b hb o ho=>k6 b hb o (Nat.le_trans (Nat.mul_le_mul_right _ (Z99 _ _)) ho),k7⟩
  | _=>exact h
theorem Z7d {id:Nat} {x:Zd} {b:Nat}:Yv β id (Z4O x) b↔Yv β id x b:=by cases x<;>exact Iff.rfl
theorem Tr.mapv_get1 {α γ:Type} (f:α→γ):∀(t:Tr α) (k:Nat),(t.mapv f).get k=(t.get k).map f
  | .leaf,_=>rfl
  | .node l v r,k=>by
    simp only[Tr.mapv,Tr.get];cases Nat.beq k 0 with
    | true=>rfl
    | false =>
      simp only[cond_false];cases Nat.beq (k % 2) 1 with
      | true=>exact mapv_get1 f l _
      | false=>exact mapv_get1 f r _
theorem HR.lift {h:Nat→Option Zd} {D:DD} (hh:HR E w0 G0 D w β G h) {h':Nat→Option Zd} (hl:∀i,h' i=(h i).map Z4O):HR E w0 G0 D w β G h':=by
  have key:∀i x',h' i=some x'→∃x,h i=some x∧x'=Z4O x:=fun i x' hi=>by
    rw[hl i]at hi;cases hq:h i with
    | none=>rw[hq]at hi;cases hi
    | some x=>rw[hq]at hi;cases hi;exact⟨x,rfl,rfl⟩
  refine⟨hh.below,hh.g0,hh.agree,fun i x' hi=>?_,fun i x' b hi hb=>?_,fun i j x y b hi hj hb hc=>?_,hh.marks,hh.inv0⟩
  · obtain⟨x,h1,rfl⟩:=key i x' hi
    exact ZgI (hh.obj i x h1)
  · obtain⟨x,h1,rfl⟩:=key i x' hi
    exact hh.own i x b h1 (Z7d.1 hb)
  · obtain⟨x',h1,rfl⟩:=key i x hi
    obtain⟨y',h2,rfl⟩:=key j y hj;exact hh.inj i j x' y' b h1 h2 (Z7d.1 hb) (Z7d.1 hc)
theorem Zcr {hint:Z3E} {s s':St} (hn:Zcq E hint n0 s=some s') (hm:SS E w0 G0 outer V nt own s a w β G) :
    ∃β',SS E w0 G0 outer V nt own s' a w β' G∧Z4x n0 β β'∧(∀i,i<n0→s.objs.get i=none→s'.objs.get i=none)∧n0≤s'.next:=by
  unfold Zcq at hn;simp only at hn;obtain⟨hu,hn⟩:=Z3 hn;obtain⟨b,hb,hn⟩:=Z0 hn;obtain⟨o1,ho1,hn⟩:=Z0 hn;obtain⟨o2,ho2,hn⟩:=Z0 hn;obtain⟨r,hr,hn⟩:=Z0 hn;cases hn;generalize ZaP s.objs s.base n0 hint.keep (hint.accs.map (Z5M s.objs s.base))=XL at hu hb ho1 ho2 hr;generalize hLdef:XL.map some++hint.accs.map (Z5M s.objs s.base)=L at hu hb ho1 ho2;have hLlen:L.length=XL.length+hint.accs.length:=by rw[←hLdef,List.length_append,List.length_map,List.length_map]
  have hspec:∀i x',o2.get i=some x'→((i<n0∧∀(j v:Nat),L[j]? ≠ some (some (i,v)))∧∃x,s.objs.get i=some x∧Z3B n0 L x=some x')∨(∃j id v e es p,i=n0+j∧L[j]? = some (some (id,v))∧s.objs.get id=some (.row e es p v)∧x'=.row e es p 0):=fun i x' hi=>by
    rcases Z2P ho2 i with⟨h1,h2⟩|⟨j,id,v,e,es,p,h1,h2,h3,h4⟩
    · rw[h1]at hi
      rcases Tr.tm_get1 ho1 i with⟨_,h4⟩|⟨x,y,h3,h4,h5⟩
      · rw[h4]at hi;cases hi
      · rw[h5]at hi
        cases hl:(Nat.blt i n0 && !Z3f i L)with
        | true =>
          rw[hl]at h4;simp only[cond_true]at h4;obtain⟨z,h6,h7⟩:=Z0 h4;cases h7;cases hi;simp only[Bool.and_eq_true,Bool.not_eq_true',Tr.blt_dec,decide_eq_true_eq]at hl;exact .inl ⟨⟨hl.1,Z5W hl.2⟩,x,h3,h6⟩
        | false =>
          rw[hl]at h4;simp only[cond_false]at h4;cases h4;cases hi
    · rw[h4]at hi;cases hi
      exact .inr ⟨j,id,v,e,es,p,by omega,h2,h3,rfl⟩
  have hh1:=Zh1 hm.hr hu hspec
  have hbase:∀t d',b.get t=some d'→∃d,s.base.get t=some d∧ren n0 L d=some d':=fun t d' ht=>by
    rcases Tr.tm_get1 hb t with⟨_,h4⟩|⟨x,y,h3,h4,h5⟩
    · rw[h4]at ht;cases ht
    · rw[h5]at ht
      subst ht;cases hk:Nat.testBit hint.keep t with
      | true =>
        rw[hk]at h4;simp only[cond_true]at h4;obtain⟨z,h6,h7⟩:=Z0 h4;cases h7;exact⟨x,h3,h6⟩
      | false =>
        rw[hk]at h4;simp only[cond_false]at h4;cases h4
  have hf1:FrM (Z1j n0 L β) G b.get a.tmps:=fun t d' ht=>by
    obtain⟨d,h1,h2⟩:=hbase t d' ht;obtain⟨v,h3,h4⟩:=hm.fr t d h1;exact⟨v,h3,(Zbg h2 h4).1⟩
  have hd1:∀t d,b.get t=some d→Nat.testBit V t=true:=fun t d' ht=>by
    obtain⟨d,h1,_⟩:=hbase t d' ht;exact hm.dom t d h1
  have hfr1:∀i,n0≤i→o2.get i=none→ZS (Z1j n0 L β) o2.get i:=fun i hi hq=>by
    have h1:¬i<n0:=by omega
    refine⟨by simp[Z1j,h1],fun u=>?_,hq⟩
    simp only[Z1j,h1,if_false]
    by_cases hu0:u=0
    · rw[if_pos hu0]
      split
      · rename_i id v hj
        rcases Z2P ho2 i with⟨h2,h3⟩|⟨j,id',v',e,es,p,h2,h3,h4,h5⟩
        · exact absurd hj (h3 (i-n0) id v (by omega))
        · rw[h5]at hq;cases hq
      · rfl
    · rw[if_neg hu0]
  have hn1:∀i,n0+XL.length+hint.accs.length≤i→o2.get i=none:=fun i hi=>by
    cases hq:o2.get i with
    | none=>rfl
    | some x =>
      rcases hspec i x hq with⟨h1,_⟩|⟨j,id,v,e,es,p,h1,h2,_⟩
      · have:=h1.1;omega
      · have:=(List.getElem?_eq_some_iff.1 h2).1
        omega
  obtain⟨β',k1,k2,k3,k4,k5,k6,k7⟩:=Z2e a.tmps V hint.accs XL.length b o2 _ r hr hh1 hf1 hd1 hfr1 hn1;have hag:=Z4X n0 L β;refine⟨β',⟨k4,k5,hm.sz,k3,fun i hi=>k6 i hi,hm.df⟩,⟨fun i hi=>(k2.blk i hi).trans (hag.blk i hi),fun i hi u=>(k2.hdr i hi u).trans (hag.hdr i hi u)⟩,fun i hi hq=>k7 i hi ?_,by show n0≤n0+XL.length+hint.accs.length;omega⟩
  cases hz:o2.get i with
  | none=>rfl
  | some x =>
    rcases hspec i x hz with⟨_,x',h2,_⟩|⟨j,id,v,e,es,p,h1,_⟩
    · rw[hq]at h2;cases h2
    · omega
theorem ZdE {hint:Z3E} {s s':St} (hn:Zcp E hint n0 s=some s') (hm:SS E w0 G0 outer V nt own s a w β G) :
    ∃β',SS E w0 G0 outer V nt own s' a w β' G∧Z4x n0 β β'∧(∀i,i<n0→s.objs.get i=none→s'.objs.get i=none)∧n0≤s'.next:=by
  unfold Zcp at hn;obtain⟨s1,h1,hn⟩:=Z0 hn;cases hn;obtain⟨β',k1,k2,k3,k4⟩:=Zcr h1 hm;cases hint.raw with
  | true=>exact⟨β',k1,k2,k3,k4⟩
  | false =>
    simp only[cond_false];have hg:∀i,(s1.objs.mapv Z4O).get i=(s1.objs.get i).map Z4O:=Tr.mapv_get1 Z4O _;refine⟨β',⟨k1.fr,k1.dom,k1.sz,k1.hr.lift hg,fun i hi=>?_,k1.df⟩,k2,fun i hi hq=>?_,k4⟩
    · have hf:=k1.fresh i hi
      exact⟨hf.blk,hf.hdr,by show(s1.objs.mapv Z4O).get i=none;rw[hg,hf.h];rfl⟩
    · show(s1.objs.mapv Z4O).get i=none
      rw[hg,k3 i hi hq];rfl
end
end Go.Ab
namespace Go.Ab
open Go.RowKit
theorem Z3e {i:Nat}:∀{l:List Nat},Z3A i l=true↔i∈l
  | []=>by simp[Z3A]
  | j::l=>by
    simp only[Z3A,Tr.beq_dec,List.mem_cons]
    by_cases e:i=j
    · simp[e]
    · simp[e,Z3e (l:=l)]
theorem Z5c {i:Nat}:∀{l:List Nat},i∈l→Z1Q i l<Z2r l
  | j::l,h=>by
    simp only[Z1Q,Z2r,Tr.beq_dec]
    by_cases e:i=j
    · simp[e]
    · have:=Z5c (l:=l) (by simpa[e]using h)
      simp[e,this]
theorem Z4d {d i:Nat}:∀{l:List Nat},i∈l→Z5X d (Z1Q i l) l=i
  | j::l,h=>by
    simp only[Z1Q,Tr.beq_dec]
    by_cases e:i=j
    · simp[e,Z5X]
    · have:=Z4d (d:=d) (l:=l) (by simpa[e]using h)
      simp[e,Z5X,this]
theorem Zb6 {d:Nat}:∀{l:List Nat} {j:Nat},j<Z2r l→Z5X d j l∈l
  | [],j,h=>by simp[Z2r]at h
  | i::l,0,_=>by simp[Z5X]
  | i::l,j+1,h=>by
    simp only[Z2r]at h;simp only[Z5X,List.mem_cons];exact .inr (Zb6 (by omega))
theorem Z8h {d:Nat}:∀{l:List Nat} {j:Nat},Z9z l=true→j<Z2r l→Z1Q (Z5X d j l) l=j
  | [],j,_,h=>by simp[Z2r]at h
  | i::l,0,_,_=>by simp[Z5X,Z1Q]
  | i::l,j+1,hu,h=>by
    simp only[Z2r]at h;simp only[Z9z,Bool.and_eq_true,Bool.not_eq_true']at hu;have hm:=Zb6 (d:=d) (l:=l) (j:=j) (by omega)
    have hne:¬Z5X d j l=i:=fun e=>by
      have:=Z3e.2 hm;rw[e,hu.1]at this;cases this
    simp only[Z5X,Z1Q,Tr.beq_dec,hne,decide_false,cond_false,Z8h hu.2 (by omega:j<Z2r l)]
theorem Z5h {j:Nat}:∀{n i:Nat},j∈upN i n↔i≤j∧j<i+n
  | 0,i=>by simp[upN]
  | n+1,i=>by
    simp only[upN,List.mem_cons,Z5h];omega
theorem Zb4 {k i:Nat}:∀{l:List Nat},i∈geN k l↔i∈l∧k≤i
  | []=>by simp[geN]
  | j::l=>by
    simp only[geN];cases hb:Nat.ble k j with
    | true =>
      have:=Nat.le_of_ble_eq_true hb;simp only[cond_true,List.mem_cons,Zb4 (l:=l)];constructor
      · rintro(e|⟨h1,h2⟩)
        · subst e;exact⟨.inl rfl,this⟩
        · exact⟨.inr h1,h2⟩
      · rintro⟨e|e,h2⟩
        · exact .inl e
        · exact .inr ⟨e,h2⟩
    | false =>
      have:¬k≤j:=fun h=>by rw[Nat.ble_eq_true_of_le h]at hb;cases hb
      simp only[cond_false,List.mem_cons,Zb4 (l:=l)];constructor
      · rintro⟨h1,h2⟩;exact⟨.inr h1,h2⟩
      · rintro⟨e|e,h2⟩
        · subst e;exact absurd h2 this
        · exact⟨e,h2⟩
theorem Tr.allV_get {α:Type} {p:α→Bool}:∀{t:Tr α},t.allV p=true→∀{k:Nat} {x:α},t.get k=some x→p x=true
  | .leaf,_,k,x,h=>by cases h
  | .node l v r,ha,k,x,h=>by
    simp only[Tr.allV,Bool.and_eq_true]at ha;rw[Tr.get_node]at h
    by_cases e0:k=0
    · rw[if_pos e0]at h
      subst h;exact ha.2.1
    · rw[if_neg e0]at h
      by_cases e1:k % 2=1
      · rw[if_pos e1]at h;exact Tr.allV_get ha.1 h
      · rw[if_neg e1]at h;exact Tr.allV_get ha.2.2 h
theorem Tr.mapv_get' {α β:Type} (f:α→β):∀(t:Tr α) (k:Nat),(t.mapv f).get k=(t.get k).map f
  | .leaf,_=>rfl
  | .node l v r,k=>by
    simp only[Tr.mapv];rw[Tr.get_node,Tr.get_node]
    by_cases e0:k=0
    · rw[if_pos e0,if_pos e0]
    · rw[if_neg e0,if_neg e0]
      by_cases e1:k % 2=1
      · rw[if_pos e1,if_pos e1];exact Tr.mapv_get' f l _
      · rw[if_neg e1,if_neg e1];exact Tr.mapv_get' f r _
theorem Tr.ents_get {α:Type}:∀(t:Tr α) (a b k:Nat) (x:α),t.get k=some x→(a*k+b,x)∈t.ents a b
  | .leaf,_,_,_,_,h=>by cases h
  | .node l v r,a,b,k,x,h=>by
    rw[Tr.get_node]at h;simp only[Tr.ents,List.mem_append]
    by_cases e0:k=0
    · rw[if_pos e0]at h
      subst h;subst e0;exact .inr (.inl (by simp))
    · rw[if_neg e0]at h
      by_cases e1:k % 2=1
      · rw[if_pos e1]at h
        have:=Tr.ents_get l (2*a) (a+b) _ _ h;rw[show 2*a*(k / 2)+(a+b)=a*k+b by
          have:k=2*(k / 2)+1:=by omega
          generalize k / 2=m at this;subst this;rw[Nat.mul_add,←Nat.mul_assoc,Nat.mul_comm a 2];omega]at this
        exact .inl this
      · rw[if_neg e1]at h
        have:=Tr.ents_get r (2*a) (2*a+b) _ _ h;rw[show 2*a*(k / 2-1)+(2*a+b)=a*k+b by
          have:k=2*(k / 2-1)+2:=by omega
          generalize k / 2-1=m at this;subst this;rw[Nat.mul_add,←Nat.mul_assoc,Nat.mul_comm a 2];omega]at this
        exact .inr (.inr this)
theorem Z4j (h:Nat→Option Zd):∀(n:Nat) (todo acc:List Nat) (i:Nat),i∈Z1i h n todo acc→(∀j∈acc,∃x,h j=some x)→∃x,h i=some x
  | 0,_,acc,i,hi,ha=>ha i hi
  | n+1,[],acc,i,hi,ha=>ha i hi
  | n+1,j::todo,acc,i,hi,ha=>by
    simp only[Z1i]at hi;cases hq:acc.any (Nat.beq j)with
    | true=>rw[hq]at hi;exact Z4j h n _ _ i hi ha
    | false =>
      rw[hq]at hi;simp only[cond_false]at hi;cases hj:h j with
      | none=>rw[hj]at hi;exact Z4j h n _ _ i hi ha
      | some o =>
        rw[hj]at hi;refine Z4j h n _ _ i hi fun k hk=>?_;rcases List.mem_cons.1 hk with e|e
        · exact e▸⟨o,hj⟩
        · exact ha k e
theorem Zb9 {p:Nat→Bool} {h:Nat→Option Zd}:∀{is:List Nat},okH p h is=true→∀i∈is,∀o,h i=some o→okO p o=true
  | [],_,i,hi,_,_=>by cases hi
  | j::is,hb,i,hi,o,ho=>by
    simp only[okH,Bool.and_eq_true]at hb;rcases List.mem_cons.1 hi with e|e
    · subst e;rw[ho]at hb;exact hb.1
    · exact Zb9 hb.2 i e o ho
mutual
theorem Z6A:∀d:DV,okD (fun _=>true) d=true
  | .ptr _ _ | .rptr _ _ _ _ _ | .rs _ _ | .rv _ _ _ _ _ | .map _ | .iter _ | .yld _=>by simp[okD]
  | .agg cs=>by simp only[okD];exact Z34 cs
  | .tup cs=>by simp only[okD];exact Z34 cs
  | .fn _ a b=>by simp only[okD,Z34 a,Z34 b,Bool.and_self]
  | .iface _ v=>by simp only[okD];exact Z6A v
  | .bool _ | .int _ _ | .str _ | .nilp | .pub _ | .nils | .sl _ | .slen _ | .nilfn | .nilmap | .nilif=>by simp[okD]
theorem Z34:∀ds:List DV,Z1m (fun _=>true) ds=true
  | []=>by simp[Z1m]
  | d::ds=>by simp only[Z1m,Z6A d,Z34 ds,Bool.and_self]
end
theorem Z70 {α:Type} {p:α→Bool} (hp:∀x,p x=true):∀t:Tr α,t.allV p=true
  | .leaf=>rfl
  | .node l v r=>by
    simp only[Tr.allV,Z70 hp l,Z70 hp r,Bool.true_and,Bool.and_true];cases v with
    | none=>rfl
    | some x=>exact hp x
theorem ZgV (o:Zd):okO (fun _=>true) o=true:=by
  cases o<;>simp only[okO]
  · exact Z34 _
  · exact Z70 Z6A _
def Z7E (p:Nat→Bool) (f:Nat→Nat) (β β':Bi):Prop:=∀i,p i=true→β'.blk (f i)=β.blk i∧∀u,β'.hdr (f i) u=β.hdr i u
section
variable {P:Program} {E:Env} {w0:World} {G0:Gh} {D:DD} {w:World} {β β':Bi} {G:Gh} {h:Nat→Option Zd} {p:Nat→Bool} {f:Nat→Nat}
mutual
theorem Rep.rn (hx:Z7E p f β β'):∀(d:DV) (v:Value),okD p d=true→Rep β G d v→Rep β' G (rn f d) v
  | .bool _,_,_,h=>by unfold Ab.rn;unfold Rep at h⊢;exact h
  | .int _ _,_,_,h=>by unfold Ab.rn;unfold Rep at h⊢;exact h
  | .str _,_,_,h=>by unfold Ab.rn;unfold Rep at h⊢;exact h
  | .nilp,_,_,h=>by unfold Ab.rn;unfold Rep at h⊢;exact h
  | .ptr i _,_,hb,h=>by
    unfold Ab.rn;unfold Rep at h⊢;rw[(hx i hb).1];exact h
  | .rptr i _ _ _ _,_,hb,h=>by
    unfold Ab.rn;unfold Rep at h⊢;simp only[(hx i hb).2];exact h
  | .pub cs,_,_,h=>by
    unfold Ab.rn;unfold Rep at h⊢;obtain⟨h0,b,o,h1,h2⟩:=h;exact⟨h0,b,o,h1,Pub.free cs b o h0 h2⟩
  | .nils,_,_,h=>by unfold Ab.rn;unfold Rep at h⊢;exact h
  | .sl es,v,_,h=>by unfold Ab.rn;exact Rep.free _ v rfl h
  | .rs i _,_,hb,h=>by
    unfold Ab.rn;unfold Rep at h⊢;rw[(hx i hb).2];exact h
  | .rv i _ _ _ _,_,hb,h=>by
    unfold Ab.rn;unfold Rep at h⊢;rw[(hx i hb).2];exact h
  | .slen _,_,_,h=>by unfold Ab.rn;unfold Rep at h⊢;exact h
  | .agg cs,_,hb,h=>by unfold Ab.rn;unfold Rep at h⊢;obtain⟨vs,h1,h2⟩:=h;exact⟨vs,h1,Zi.rn hx cs vs (by simpa[okD]using hb) h2⟩
  | .tup cs,_,hb,h=>by unfold Ab.rn;unfold Rep at h⊢;obtain⟨vs,h1,h2⟩:=h;exact⟨vs,h1,Zi.rn hx cs vs (by simpa[okD]using hb) h2⟩
  | .fn _ a c,_,hb,h=>by
    unfold Ab.rn;unfold Rep at h⊢;obtain⟨as,cs,h1,h2,h3⟩:=h;have hb':Z1m p a=true∧Z1m p c=true:=by simpa[okD]using hb
    exact⟨as,cs,h1,Zi.rn hx a as hb'.1 h2,Zi.rn hx c cs hb'.2 h3⟩
  | .nilfn,_,_,h=>by unfold Ab.rn;unfold Rep at h⊢;exact h
  | .map i,_,hb,h=>by
    unfold Ab.rn;unfold Rep at h⊢;rw[(hx i hb).1];exact h
  | .nilmap,_,_,h=>by unfold Ab.rn;unfold Rep at h⊢;exact h
  | .iface _ d,_,hb,h=>by unfold Ab.rn;unfold Rep at h⊢;obtain⟨u,h1,h2⟩:=h;exact⟨u,h1,Rep.rn hx d u (by simpa[okD]using hb) h2⟩
  | .nilif,_,_,h=>by unfold Ab.rn;unfold Rep at h⊢;exact h
  | .iter i,_,hb,h=>by
    unfold Ab.rn;unfold Rep at h⊢;rw[(hx i hb).1];exact h
  | .yld i,_,hb,h=>by
    unfold Ab.rn;unfold Rep at h⊢;rw[(hx i hb).1];exact h
theorem Zi.rn (hx:Z7E p f β β'):∀(ds:List DV) (vs:List Value),Z1m p ds=true→Zi β G ds vs→Zi β' G (rns f ds) vs
  | [],_,_,h=>by unfold rns;unfold Zi at h⊢;exact h
  | d::ds,_,hb,h=>by
    unfold rns;unfold Zi at h⊢;have hb':okD p d=true∧Z1m p ds=true:=by simpa[Z1m]using hb
    obtain⟨v,vs',h1,h2,h3⟩:=h;exact⟨v,vs',h1,Rep.rn hx d v hb'.1 h2,Zi.rn hx ds vs' hb'.2 h3⟩
end
theorem Zim (f:Nat→Nat) (d:DV):ZI (rn f d)=ZI d:=by cases d<;>simp[rn,ZI]
theorem ZcI (f:Nat→Nat):∀ds:List DV,(rns f ds).all ZI=ds.all ZI
  | []=>by simp[rns]
  | d::ds=>by simp only[rns,List.all_cons,Zim,ZcI f ds]
theorem Z6v:∀{es:List (List DV)},(∀c∈es,Zc c=true)→Zc es.flatten=true
  | [],_=>rfl
  | c::es,h=>by
    have happ:∀(a b:List DV),Zc a=true→Zc b=true→Zc (a++b)=true:=fun a b ha hb=>by
      induction a with
      | nil=>exact hb
      | cons x a ih =>
        simp only[Zc,Bool.and_eq_true,List.cons_append]at ha⊢;exact⟨ha.1,ih ha.2⟩
    rw[List.flatten_cons];exact happ _ _ (h c (by simp)) (Z6v fun c hc=>h c (by simp[hc]))
theorem Z2n.rn (hx:Z7E p f β β') {id base:Nat} (hid:p id=true):∀{o:Zd},okO p o=true→Z2n E base w β G id o→Z2n E base w β' G (f id) (rnO f o)
  | .cells t cs,hb,hr=>by
    obtain⟨b,vs,h1,h2,h3,h4,h5⟩:=hr;exact⟨b,vs,by rw[(hx id hid).1];exact h1,h2,Zi.rn hx cs _ hb h3,by rw[ZcI];exact h4,h5⟩
  | .row t es q u,_,hr=>by
    obtain⟨hdr,vals,h1,h2,h3,h4,h5,h6,h7⟩:=hr;exact⟨hdr,vals,by rw[(hx id hid).2];exact h1,h2,Zi.free _ _ (Z6v fun c hc=>(h4 c hc).2.1) h3,h4,h5,h6,fun u' hu=>by rw[(hx id hid).2];exact h7 u' hu⟩
  | .map es,_,hr=>by
    obtain⟨b,ms,clock,h1,h2,h3⟩:=hr;exact⟨b,ms,clock,by rw[(hx id hid).1];exact h1,h2,Z7e h3⟩
  | .siter s pos,_,hr=>by
    obtain⟨b,h1,h2⟩:=hr;exact⟨b,by rw[(hx id hid).1];exact h1,h2⟩
  | .loop fid bs ps as bo bid ex,hb,hr=>by
    obtain⟨b,tmps,df,fn,F,h1,h2,h3,h4,h5,h6⟩:=hr;refine⟨b,tmps,df,fn,F,by rw[(hx id hid).1];exact h1,h2,fun t d ht=>?_,h4,h5,fun t d ht=>?_⟩
    · rw[Tr.mapv_get']at ht
      cases hq:bs.get t with
      | none=>rw[hq]at ht;cases ht
      | some d0 =>
        rw[hq]at ht;cases ht;obtain⟨v,h7,h8⟩:=h3 t d0 hq;exact⟨v,h7,Rep.rn hx d0 v (Tr.allV_get hb hq) h8⟩
    · rw[Tr.mapv_get']at ht
      cases hq:bs.get t with
      | none=>rw[hq]at ht;cases ht
      | some d0=>exact h6 t d0 hq
theorem Zbb (hx:Z7E p f β β') {id:Nat} (hid:p id=true) (o:Zd) (b:Nat):Yv β' (f id) (rnO f o) b↔Yv β id o b:=by
  cases o<;>simp only[rnO,Yv,(hx id hid).1,(hx id hid).2]
theorem HR.rn (hx:Z7E p f β β') (hinj:∀i j,p i=true→p j=true→f i=f j→i=j) (hh:HR E w0 G0 D w β G h) {h':Nat→Option Zd}
    (hi:∀i y,h' i=some y→∃j x,p j=true∧f j=i∧h j=some x∧y=rnO f x∧okO p x=true):HR E w0 G0 D w β' G h' :=
  ⟨hh.below,hh.g0,hh.agree,fun i o ho=>by
      obtain⟨j,x,h1,rfl,h3,rfl,h5⟩:=hi i o ho;exact Z2n.rn hx h1 h5 (hh.obj j x h3),
    fun i o b ho hb=>by
      obtain⟨j,x,h1,rfl,h3,rfl,h5⟩:=hi i o ho;exact hh.own j x b h3 ((Zbb hx h1 x b).1 hb),
    fun i i' o o' b ho ho' hb hb'=>by
      obtain⟨j,x,h1,rfl,h3,rfl,h5⟩:=hi i o ho;obtain⟨j',x',g1,rfl,g3,rfl,g5⟩:=hi i' o' ho';rw[hh.inj j j' x x' b h3 g3 ((Zbb hx h1 x b).1 hb) ((Zbb hx g1 x' b).1 hb')],hh.marks,hh.inv0⟩
theorem Z3W:∀{is:List Nat} {i:Nat} {y:Zd},(Z3j f h is).get i=some y→∃j∈is,∃x,f j=i∧h j=some x∧y=rnO f x
  | [],i,y,hy=>by cases hy
  | j::is,i,y,hy=>by
    simp only[Z3j,Tr.get_set]at hy
    by_cases e:i=f j
    · rw[if_pos e]at hy
      cases hj:h j with
      | none=>rw[hj]at hy;cases hy
      | some x=>rw[hj]at hy;cases hy;exact⟨j,by simp,x,e.symm,hj,rfl⟩
    · rw[if_neg e]at hy
      obtain⟨k,h1,x,h2⟩:=Z3W hy;exact⟨k,by simp[h1],x,h2⟩
theorem Zbl:∀{is:List Nat} {j:Nat},j∈is→(∀i∈is,f i=f j→i=j)→(Z3j f h is).get (f j)=(h j).map (rnO f)
  | i::is,j,hj,hinj=>by
    simp only[Z3j,Tr.get_set]
    by_cases e:f j=f i
    · rw[if_pos e]
      rw[hinj i (by simp) e.symm]
    · rw[if_neg e]
      have hj':j∈is:=by
        rcases List.mem_cons.1 hj with q|q
        · subst q;exact absurd rfl e
        · exact q
      exact Zbl hj' fun i hi=>hinj i (by simp[hi])
theorem Z69:∀{is:List Nat} {i:Nat},(∀j∈is,f j≠i)→Zw i (Z3X f h is)=none
  | [],_,_=>rfl
  | j::is,i,hn=>by
    have h1:Zw i (Z3X f h is)=none:=Z69 fun k hk=>hn k (List.mem_cons_of_mem _ hk);have:=hn j (by simp)
    simp only[Z3X,Zw,h1,Tr.beq_dec];simp[this]
theorem ZcF:∀{is:List Nat} {j:Nat},j∈is→(∀i∈is,f i=f j→i=j)→Zw (f j) (Z3X f h is)=some ((h j).map (rnO f))
  | i::is,j,hj,hinj=>by
    simp only[Z3X,Zw]
    by_cases hm:j∈is
    · rw[ZcF hm fun i hi=>hinj i (by simp[hi])]
    · have e:j=i:=by
        rcases List.mem_cons.1 hj with q|q
        · exact q
        · exact absurd q hm
      subst e;have hn:Zw (f j) (Z3X f h is)=none:=Z69 fun k hk q=>by
        have:=hinj k (by simp[hk]) q
        subst this;exact hm hk
      rw[hn];simp
theorem Zc2 {h':Nat→Option Zd} {G':Gh} (hx:Ext β G β G') (hsame:∀i t es p u,h i=some (.row t es p u)→∃p',h' i=some (.row t es p' u)) :
    ∀{ds:List DV} {vs:List Value},(∀i∈Zk ds,Z2K E β G' h' i)→Zi β G ds vs→Zi β G' (ds.map fun d=>(frz h d).getD d) vs
  | [],vs,_,hr=>by rw[Zn]at hr;exact Zn.2 hr
  | d::ds,vs,hs,hr=>by
    obtain⟨v,vs',rfl,h1,h2⟩:=Zb.1 hr;refine Zb.2 ⟨v,vs',rfl,?_,Zc2 hx hsame (fun i hi=>hs i (by simp[Zk,hi])) h2⟩
    show Rep β G' ((frz h d).getD d) v;cases hq:frz h d with
    | none=>exact Rep.mono hx _ _ h1
    | some d'=>exact(Z5a hx hsame hq (fun i hi=>hs i (by simp[Zk,hi])) h1).1
theorem ZhD {D:DD} {s:Tr Zd} {k:Nat} {β0:Bi} {G1:Gh} {r:DV} {o:Tr Zd} {n:Nat} {e:Ending} {w':World} (hfr:∀id,k≤id→ZS β0 s.get id) (hp:Z1p E w0 G0 D β0 G1 s k r o n e w')
    {y:DV×Tr Zd×Nat} (hy:ZbU k (r,o,n)=some y):Z1p E w0 G0 D β0 G1 s k y.1 y.2.1 y.2.2 e w':=by
  obtain⟨v,β',G',rfl,hle,hgo,hhr,hf',hv⟩:=hp;unfold ZbU at hy;simp only at hy;generalize hR:geN k (Z1i o.get 4096 (rid r++upN 0 k) [])=R at hy;obtain⟨hb,hy⟩:=Z3 hy;cases hy;simp only[Bool.and_eq_true]at hb;obtain⟨hu,hr1,hr2⟩:=hb;have hge:∀i∈R,k≤i:=fun i hi=>by rw[←hR]at hi;exact(Zb4.1 hi).2
  have hok:∀j,(Nat.blt j k||Z3A j R)=true↔j<k∨j∈R:=fun j=>by
    simp only[Bool.or_eq_true,Tr.blt_dec,decide_eq_true_eq,Z3e]
  have hF1:∀j,j<k→Z2M k R j=j:=fun j hj=>by simp[Z2M,Tr.blt_dec,hj]
  have hF2:∀j,j∈R→Z2M k R j=k+Z1Q j R:=fun j hj=>by
    have:=hge j hj;simp[Z2M,Tr.blt_dec,show ¬j<k by omega]
  have hinj:∀i j,(Nat.blt i k||Z3A i R)=true→(Nat.blt j k||Z3A j R)=true→Z2M k R i=Z2M k R j→i=j:=fun i j hi hj he=>by
    rcases(hok i).1 hi with hi|hi<;>rcases(hok j).1 hj with hj|hj
    · rw[hF1 i hi,hF1 j hj]at he;exact he
    · rw[hF1 i hi,hF2 j hj]at he;omega
    · rw[hF2 i hi,hF1 j hj]at he;omega
    · rw[hF2 i hi,hF2 j hj]at he
      have:Z1Q i R=Z1Q j R:=by omega
      rw[←Z4d (d:=0) hi,this,Z4d hj]
  have hin:∀j,j∈upN 0 k++R↔j<k∨j∈R:=fun j=>by
    rw[List.mem_append,Z5h];simp
  have hsome:∀i y,(Z3j (Z2M k R) o.get (upN 0 k++R)).get i=some y→∃j x,(Nat.blt j k||Z3A j R)=true∧Z2M k R j=i∧o.get j=some x∧y=rnO (Z2M k R) x∧okO (fun j=>Nat.blt j k||Z3A j R) x=true:=fun i y hy=>by
    obtain⟨j,hj,x,h1,h2,h3⟩:=Z3W hy;exact⟨j,x,(hok j).2 ((hin j).1 hj),h1,h2,h3,Zb9 hr2 j hj x h2⟩
  let β3:Bi:=⟨fun i=>if i<k then β'.blk i else if i<k+Z2r R then β'.blk (Z5X 0 (i-k) R)else none,fun i u=>if i<k then β'.hdr i u else if i<k+Z2r R then β'.hdr (Z5X 0 (i-k) R) u else none⟩
  have hrel:Z7E (fun j=>Nat.blt j k||Z3A j R) (Z2M k R) β' β3:=fun j hj=>by
    rcases(hok j).1 hj with hj|hj
    · rw[hF1 j hj]
      simp only[β3,if_pos hj];exact⟨trivial,fun _=>trivial⟩
    · rw[hF2 j hj]
      have:=Z5c hj;simp only[β3,show ¬k+Z1Q j R<k by omega,if_false,show k+Z1Q j R<k+Z2r R by omega,if_true,show k+Z1Q j R-k=Z1Q j R by omega,Z4d hj]
      exact⟨trivial,fun _=>trivial⟩
  refine⟨v,β3,G',rfl,Nat.le_add_right _ _,⟨⟨hgo.ext.g,fun id b hid=>?_,fun id u x hid=>?_⟩,fun id hid hn=>?_⟩,HR.rn hrel hinj hhr hsome,fun id hid=>⟨?_,fun u=>?_,?_⟩,Rep.rn hrel r v hr1 hv⟩
  · by_cases q:id<k
    · simp only[β3,if_pos q];exact hgo.ext.blk id b hid
    · rw[(hfr id (by omega)).blk]at hid;cases hid
  · by_cases q:id<k
    · simp only[β3,if_pos q];exact hgo.ext.hdr id u x hid
    · rw[(hfr id (by omega)).hdr]at hid;cases hid
  · obtain⟨k1,k2,k3⟩:=hgo.keep id hid hn
    refine⟨?_,?_,fun u=>?_⟩
    · have:=Zbl (f:=Z2M k R) (h:=o.get) (is:=upN 0 k++R) (j:=id) ((hin id).2 (.inl hid)) (fun i hi he=>hinj i id ((hok i).2 ((hin i).1 hi)) ((hok id).2 (.inl hid)) he)
      rw[hF1 id hid,k1]at this;exact this
    · simp only[β3,if_pos hid];exact k2
    · simp only[β3,if_pos hid];exact k3 u
  · have q:k+Z2r R≤id:=hid
    simp only[β3,show ¬id<k by omega,if_false,show ¬id<k+Z2r R by omega]
  · have q:k+Z2r R≤id:=hid
    simp only[β3,show ¬id<k by omega,if_false,show ¬id<k+Z2r R by omega]
  · have q:k+Z2r R≤id:=hid
    cases hq:(Z3j (Z2M k R) o.get (upN 0 k++R)).get id with
    | none=>rfl
    | some y =>
      obtain⟨j,x,h1,h2,_⟩:=hsome id y hq;rcases(hok j).1 h1 with hj|hj
      · rw[hF1 j hj]at h2;omega
      · rw[hF2 j hj]at h2
        have:=Z5c hj;omega
theorem Zfo {callH:Yj} (hH:YY P E callH):YY P E (Z45 E callH):=fun g as o nx r o' nx' hd=>by
  unfold Z45 at hd;obtain⟨F,hF,hd⟩:=Z0 hd;cases hc:F.can with
  | false=>rw[hc]at hd;exact hH g as o nx r o' nx' hd
  | true =>
    rw[hc]at hd;simp only[cond_true]at hd;generalize hfs:(as.map fun d=>(frz o.get d).getD d)=fs at hd;generalize ho1:Ya o (Zu o.get (Zk as))=o1 at hd;generalize hR:Z1i o1.get 4096 (Z1u fs) []=R at hd;generalize hk:Z2r R=k at hd;obtain⟨hb,hd⟩:=Z3 hd;obtain⟨⟨r1,o2,n2⟩,hcall,hd⟩:=Z0 hd;obtain⟨⟨r3,o3,n3⟩,hexit,hd⟩:=Z0 hd;cases hd;simp only[Bool.and_eq_true]at hb;obtain⟨hu,hb1,hb2⟩:=hb;obtain⟨hent,hcs⟩:=hH _ _ _ _ _ _ _ hcall;refine⟨hent,fun w0 G0 D w β G vs hh hfr hrep=>?_⟩
    obtain⟨G1,hx1,hh1,hs1⟩:=Z1L hh (Zk as);have hrep1:Zi β G1 fs vs.toList:=by rw[←hfs];exact Zc2 hx1 (Z29 _ _) hs1 hrep
    have hget1:∀i,o1.get i=ZK o.get (Zu o.get (Zk as)) i:=fun i=>by rw[←ho1];exact Z2z _ _ _
    have hh1:HR E w0 G0 D w β G1 o1.get:=hh1.eq hget1;have hk1:∀i,o.get i=none→o1.get i=none:=fun i hi=>by
      rw[hget1];unfold ZK;cases hq:Zw i (Zu o.get (Zk as))with
      | none=>exact hi
      | some y =>
        obtain⟨t',es',p',u',k1,_⟩:=Ye o.get _ i y hq;rw[hi]at k1;cases k1
    have hfr1:∀id,nx≤id→ZS β o1.get id:=fun id hid=>⟨(hfr id hid).blk,(hfr id hid).hdr,hk1 id (hfr id hid).h⟩;have hRs:∀i∈R,∃x,o1.get i=some x:=fun i hi=>Z4j _ _ _ _ _ (by rw[←hR]at hi;exact hi) (fun _ hq=>by cases hq)
    have hRlt:∀i∈R,i<nx:=fun i hi=>by
      obtain⟨x,hx⟩:=hRs i hi;rcases Nat.lt_or_ge i nx with q|q
      · exact q
      · rw[(hfr1 i q).h]at hx;cases hx
    have hs:∀i x,(Z2x o1.get R).get i=some x→o1.get i=some x:=fun i x hi=>by
      rw[Z2a]at hi;split at hi
      · exact hi
      · cases hi
    have hsR:∀i x,(Z2x o1.get R).get i=some x→i∈R:=fun i x hi=>by
      rw[Z2a]at hi;split at hi
      · assumption
      · cases hi
    have hcut:=Zdm (D:=D) hh1 hs
    have hP1:∀j,j<k→ZN k nx R j=Z5X 0 j R:=fun j hj=>by simp[ZN,Tr.blt_dec,hj]
    have hP2:∀j,k≤j→ZN k nx R j=nx+(j-k):=fun j hj=>by simp[ZN,Tr.blt_dec,show ¬j<k by omega]
    have hP3:∀i,i∈R→ZN k nx R (Z1Q i R)=i:=fun i hi=>by
      rw[hP1 _ (by rw[←hk];exact Z5c hi),Z4d hi]
    let β0:Bi:=⟨fun j=>β.blk (ZN k nx R j),fun j u=>β.hdr (ZN k nx R j) u⟩
    have hrel0:Z7E (fun i=>Z3A i R) (Z4u R) β β0:=fun i hi=>by
      have hi:=Z3e.1 hi;show β.blk (ZN k nx R (Z1Q i R))=_∧∀u,β.hdr (ZN k nx R (Z1Q i R)) u=_;rw[hP3 i hi];exact⟨rfl,fun _=>rfl⟩
    have hinj0:∀i j,Z3A i R=true→Z3A j R=true→Z4u R i=Z4u R j→i=j:=fun i j hi hj he=>by
      have hi:=Z3e.1 hi;have hj:=Z3e.1 hj;have he:Z1Q i R=Z1Q j R:=he;rw[←Z4d (d:=0) hi,he,Z4d hj]
    have hh0:HR E w0 G0 (Z72 D w β G1 o1.get (Z2x o1.get R).get) w β0 G1 (Z3j (Z4u R) o1.get R).get:=HR.rn hrel0 hinj0 hcut fun i y hy=>by
      obtain⟨j,hj,x,h1,h2,h3⟩:=Z3W hy;exact⟨j,x,Z3e.2 hj,h1,by rw[Z2a,if_pos hj];exact h2,h3,Zb9 hb2 j hj x h2⟩
    have hfr0:∀j,k≤j→ZS β0 (Z3j (Z4u R) o1.get R).get j:=fun j hj=>by
      have hq:=hfr (nx+(j-k)) (by omega)
      refine⟨?_,fun u=>?_,?_⟩
      · show β.blk (ZN k nx R j)=none
        rw[hP2 j hj];exact hq.blk
      · show β.hdr (ZN k nx R j) u=none
        rw[hP2 j hj];exact hq.hdr u
      · cases hq:(Z3j (Z4u R) o1.get R).get j with
        | none=>rfl
        | some y =>
          obtain⟨i,hi,x,h1,_⟩:=Z3W hq;have:Z1Q i R<Z2r R:=Z5c hi;have h1:Z1Q i R=j:=h1;omega
    refine Calls.mono (hcs w0 G0 _ w β0 G1 vs hh0 hfr0 (Zi.rn hrel0 _ _ hb1 hrep1)) fun e w' he=>?_;obtain⟨v,β3,G',rfl,hle,hgo,hhr,hf3,hv⟩:=ZhD hfr0 he hexit;simp only at hle hgo hhr hf3 hv
    let β4:Bi:=⟨fun i=>if i∈R then β3.blk (Z1Q i R)else if nx≤i then β3.blk (i-nx+k)else β.blk i,fun i u=>if i∈R then β3.hdr (Z1Q i R) u else if nx≤i then β3.hdr (i-nx+k) u else β.hdr i u⟩
    have hP1m:∀j,j<k→ZN k nx R j∈R:=fun j hj=>by rw[hP1 j hj];exact Zb6 (by omega)
    have hP2m:∀j,k≤j→ZN k nx R j∉R:=fun j hj hm=>by
      rw[hP2 j hj]at hm;have:=hRlt _ hm;omega
    have hrel4:Z7E (fun _=>true) (ZN k nx R) β3 β4:=fun j _=>by
      by_cases q:j<k
      · have hm:=hP1m j q
        simp only[β4,if_pos hm];rw[hP1 j q,Z8h hu (by omega)]
        exact⟨rfl,fun _=>rfl⟩
      · have hm:=hP2m j (by omega)
        simp only[β4,if_neg hm];rw[hP2 j (by omega),if_pos (by omega),show nx+(j-k)-nx+k=j by omega]
        refine⟨rfl,fun u=>?_⟩;rw[if_pos (by omega)]
    have hinj4:∀i j,ZN k nx R i=ZN k nx R j→i=j:=fun i j he=>by
      by_cases qi:i<k<;>by_cases qj:j<k
      · have h1:=Z8h (d:=0) hu (by omega:i<Z2r R)
        rw[←hP1 i qi,he,hP1 j qj,Z8h hu (by omega)]at h1
        exact h1.symm
      · have:=hP1m i qi
        rw[he]at this;exact absurd this (hP2m j (by omega))
      · have:=hP1m j qj
        rw[←he]at this;exact absurd this (hP2m i (by omega))
      · rw[hP2 i (by omega),hP2 j (by omega)]at he
        omega
    have hsome4:∀i y,(Z3j (ZN k nx R) o3.get (upN 0 n3)).get i=some y→∃j x,j<n3∧ZN k nx R j=i∧o3.get j=some x∧y=rnO (ZN k nx R) x:=fun i y hy=>by
      obtain⟨j,hj,x,h1,h2,h3⟩:=Z3W hy;exact⟨j,x,by rw[Z5h]at hj;omega,h1,h2,h3⟩
    have hat4:∀j,j<n3→(Z3j (ZN k nx R) o3.get (upN 0 n3)).get (ZN k nx R j)=(o3.get j).map (rnO (ZN k nx R)):=fun j hj =>
      Zbl (Z5h.2 ⟨by omega,by omega⟩) fun i _ he=>hinj4 i j he
    have hpost:Z1p E w0 G0 (Z72 D w β G1 o1.get (Z2x o1.get R).get) β G1 (Z2x o1.get R) nx (rn (ZN k nx R) r3) (Z3j (ZN k nx R) o3.get (upN 0 n3)) (nx+(n3-k)) (.returned v) w':=by
      refine⟨v,β4,G',rfl,Nat.le_add_right _ _,⟨⟨hgo.ext.g,fun id b hid=>?_,fun id u x hid=>?_⟩,fun id hid hn=>?_⟩,?_,fun id hid=>?_,Rep.rn hrel4 _ _ (Z6A _) hv⟩
      · simp only[β4]
        by_cases q:id∈R
        · rw[if_pos q]
          refine hgo.ext.blk _ b ?_;show β.blk (ZN k nx R (Z1Q id R))=some b;rw[hP3 id q];exact hid
        · rw[if_neg q]
          by_cases q2:nx≤id
          · rw[(hfr id q2).blk]at hid;cases hid
          · rw[if_neg q2];exact hid
      · simp only[β4]
        by_cases q:id∈R
        · rw[if_pos q]
          refine hgo.ext.hdr _ u x ?_;show β.hdr (ZN k nx R (Z1Q id R)) u=some x;rw[hP3 id q];exact hid
        · rw[if_neg q]
          by_cases q2:nx≤id
          · rw[(hfr id q2).hdr]at hid;cases hid
          · rw[if_neg q2];exact hid
      · by_cases q:id∈R
        · rw[Z2a,if_pos q]at hn
          obtain⟨x,hx⟩:=hRs id q;rw[hn]at hx;cases hx
        · refine⟨?_,?_,fun u=>?_⟩
          · cases hq:(Z3j (ZN k nx R) o3.get (upN 0 n3)).get id with
            | none=>rfl
            | some y =>
              obtain⟨j,x,_,h1,_⟩:=hsome4 id y hq
              by_cases qj:j<k
              · exact absurd (h1▸hP1m j qj) q
              · rw[hP2 j (by omega)]at h1;omega
          · simp only[β4,if_neg q,show ¬nx≤id by omega,if_false]
          · simp only[β4,if_neg q,show ¬nx≤id by omega,if_false]
      · refine HR.rn hrel4 (fun i j _ _ he=>hinj4 i j he) hhr fun i y hy=>?_
        obtain⟨j,x,_,h1,h2,h3⟩:=hsome4 i y hy;exact⟨j,x,rfl,h1,h2,h3,ZgV x⟩
      · have hm:id∉R:=fun hm=>by have:=hRlt id hm;omega
        have hf:=hf3 (id-nx+k) (by omega)
        refine⟨?_,fun u=>?_,?_⟩
        · simp only[β4,if_neg hm,show nx≤id by omega,if_true];exact hf.blk
        · simp only[β4,if_neg hm,show nx≤id by omega,if_true];exact hf.hdr u
        · cases hq:(Z3j (ZN k nx R) o3.get (upN 0 n3)).get id with
          | none=>rfl
          | some y =>
            obtain⟨j,x,h0,h1,_⟩:=hsome4 id y hq
            by_cases qj:j<k
            · exact absurd (h1▸hP1m j qj) hm
            · rw[hP2 j (by omega)]at h1;omega
    obtain⟨v2,β2,G2,e2,hle2,hx2,hkp,hh2,hf2,hv2⟩:=ZaI hh1 hs hsR hfr1 hpost;have heq:∀i,(Ya o1 (Z3X (ZN k nx R) o3.get (upN 0 n3))).get i=ZK o1.get (Z4F (Z3j (ZN k nx R) o3.get (upN 0 n3)) R nx) i:=fun i=>by
      rw[Z2z,Z6W]
      by_cases hi:∃j,j<n3∧ZN k nx R j=i
      · obtain⟨j,hj,rfl⟩:=hi
        have h1:ZK o1.get (Z3X (ZN k nx R) o3.get (upN 0 n3)) (ZN k nx R j)=(o3.get j).map (rnO (ZN k nx R)):=by
          unfold ZK;rw[ZcF (Z5h.2 ⟨by omega,by omega⟩) fun i _ he=>hinj4 i j he]
        rw[h1,←hat4 j hj];split
        · rfl
        · rename_i hm
          have hm1:ZN k nx R j∉R:=fun q=>hm (List.mem_append_left _ q);have hkj:¬j<k:=fun q=>hm1 (hP1m j q);have hge:nx≤ZN k nx R j:=by rw[hP2 j (by omega)];omega
          rw[(hfr1 _ hge).h];cases hq:(Z3j (ZN k nx R) o3.get (upN 0 n3)).get (ZN k nx R j)with
          | none=>rfl
          | some y =>
            refine absurd ?_ hm;refine List.mem_append_right _ (List.mem_filter.2 ⟨List.mem_map.2 ⟨(1*ZN k nx R j+0,y),Tr.ents_get _ 1 0 _ y hq,by simp⟩,Nat.ble_eq_true_of_le hge⟩)
      · have h1:ZK o1.get (Z3X (ZN k nx R) o3.get (upN 0 n3)) i=o1.get i:=by
          unfold ZK;rw[Z69 fun j hj he=>hi ⟨j,by rw[Z5h]at hj;omega,he⟩]
        have h2:(Z3j (ZN k nx R) o3.get (upN 0 n3)).get i=none:=by
          cases hq:(Z3j (ZN k nx R) o3.get (upN 0 n3)).get i with
          | none=>rfl
          | some y =>
            obtain⟨j,x,h0,h1,_⟩:=hsome4 i y hq;exact absurd ⟨j,h0,h1⟩ hi
        rw[h1,h2];split
        · rename_i hm
          rcases Zgh hm with q|q
          · refine absurd ⟨Z1Q i R,?_,hP3 i q⟩ hi
            have:=Z5c q;omega
          · exact(hfr1 i q).h
        · rfl
    refine⟨v2,β2,G2,e2,hle2,⟨hx1.trans hx2,fun id hid hn=>?_⟩,hh2.eq heq,fun id hid=>?_,hv2⟩
    · obtain⟨k1,k2,k3⟩:=hkp id hid (hk1 id hn)
      exact⟨by rw[heq];exact k1,k2,k3⟩
    · have:=hf2 id hid
      exact⟨this.blk,this.hdr,by rw[heq];exact this.h⟩
end
end Go.Ab
namespace Go.Ab
def Le (h h':Nat→Option Zd) (d:DV):Prop:=∀id,id∈ZA d→∀o,h id=some o→h' id=some o
section
variable {E:Env} {ρ ρ':Nat→Option DV} {h h':Nat→Option Zd} {nid:Nat}
def OkX (ρ ρ':Nat→Option DV) (h h':Nat→Option Zd) (x:Operand):Prop:=∀d,Y1 ρ x=some d→Y1 ρ' x=some d∧Le h h' d
mutual
theorem Z9j:∀(d:DV) (i:Nat),i∈Zj d→i∈ZA d
  | .rs _ _,_,h=>by simpa[Zj,ZA]using h
  | .rv _ _ _ _ _,_,h=>by simpa[Zj,ZA]using h
  | .slen _,_,h=>by simp[Zj]at h
  | .agg cs,i,h=>by simp only[Zj,ZA]at h⊢;exact Z35 cs i h
  | .tup cs,i,h=>by simp only[Zj,ZA]at h⊢;exact Z35 cs i h
  | .iface _ v,i,h=>by simp only[Zj,ZA]at h⊢;exact Z9j v i h
  | .bool _,_,h=>by simp[Zj]at h
  | .int _ _,_,h=>by simp[Zj]at h
  | .str _,_,h=>by simp[Zj]at h
  | .nilp,_,h=>by simp[Zj]at h
  | .ptr _ _,_,h=>by simp[Zj]at h
  | .rptr _ _ _ _ _,_,h=>by simp[Zj]at h
  | .pub _,_,h=>by simp[Zj]at h
  | .nils,_,h=>by simp[Zj]at h
  | .sl _,_,h=>by simp[Zj]at h
  | .fn _ _ _,_,h=>by simp[Zj]at h
  | .nilfn,_,h=>by simp[Zj]at h
  | .map _,_,h=>by simp[Zj]at h
  | .nilmap,_,h=>by simp[Zj]at h
  | .nilif,_,h=>by simp[Zj]at h
  | .iter _,_,h=>by simp[Zj]at h
  | .yld _,_,h=>by simp[Zj]at h
theorem Z35:∀(ds:List DV) (i:Nat),i∈Zk ds→i∈ZJ ds
  | [],_,h=>by simp[Zk]at h
  | d::ds,i,h=>by
    simp only[Zk,ZJ,List.mem_append]at h⊢;rcases h with h|h
    · exact .inl (Z9j d i h)
    · exact .inr (Z35 ds i h)
end
mutual
theorem Z76:∀(d d':DV),frz h d=some d'→∀i∈Zj d,∃o,h i=some o
  | .rs id v,_,hd,i,hi=>by
    simp only[frz]at hd;obtain⟨o,ho,_⟩:=Z0 hd;simp only[Zj,List.mem_singleton]at hi;subst hi;exact⟨o,ho⟩
  | .rv _ _ _ _ _,_,hd,_,_=>by simp[frz,Zh]at hd
  | .slen _,_,hd,i,hi=>by simp[Zj]at hi
  | .agg cs,_,hd,i,hi=>by
    simp only[frz]at hd;obtain⟨cs',h1,_⟩:=Z0 hd;exact Z4b cs cs' h1 i (by simpa[Zj]using hi)
  | .tup cs,_,hd,i,hi=>by
    simp only[frz]at hd;obtain⟨cs',h1,_⟩:=Z0 hd;exact Z4b cs cs' h1 i (by simpa[Zj]using hi)
  | .iface _ v,_,hd,i,hi=>by
    simp only[frz]at hd;obtain⟨v',h1,_⟩:=Z0 hd;exact Z76 v v' h1 i (by simpa[Zj]using hi)
  | .bool _,_,_,_,h=>by simp[Zj]at h
  | .int _ _,_,_,_,h=>by simp[Zj]at h
  | .str _,_,_,_,h=>by simp[Zj]at h
  | .nilp,_,_,_,h=>by simp[Zj]at h
  | .ptr _ _,_,_,_,h=>by simp[Zj]at h
  | .rptr _ _ _ _ _,_,_,_,h=>by simp[Zj]at h
  | .pub _,_,_,_,h=>by simp[Zj]at h
  | .nils,_,_,_,h=>by simp[Zj]at h
  | .sl _,_,_,_,h=>by simp[Zj]at h
  | .fn _ _ _,_,_,_,h=>by simp[Zj]at h
  | .nilfn,_,_,_,h=>by simp[Zj]at h
  | .map _,_,_,_,h=>by simp[Zj]at h
  | .nilmap,_,_,_,h=>by simp[Zj]at h
  | .nilif,_,_,_,h=>by simp[Zj]at h
  | .iter _,_,_,_,h=>by simp[Zj]at h
  | .yld _,_,_,_,h=>by simp[Zj]at h
theorem Z4b:∀(ds ds':List DV),Z1N h ds=some ds'→∀i∈Zk ds,∃o,h i=some o
  | [],_,_,i,hi=>by simp[Zk]at hi
  | d::ds,_,hd,i,hi=>by
    simp only[Z1N]at hd;obtain⟨c,h1,hd⟩:=Z0 hd;obtain⟨cs,h2,_⟩:=Z0 hd;simp only[Zk,List.mem_append]at hi;rcases hi with hi|hi
    · exact Z76 d c h1 i hi
    · exact Z4b ds cs h2 i hi
end
mutual
theorem Z8S:∀(d d':DV),Le h h' d→frz h d=some d'→frz h' d=some d'
  | .rs id v,d',hl,hd=>by
    simp only[frz]at hd⊢;obtain⟨o,ho,h2⟩:=Z0 hd;rw[hl id (by simp[ZA]) o ho];exact h2
  | .rv _ _ _ _ _,_,_,hd=>by simpa only[frz]using hd
  | .slen _,_,_,hd=>by simpa only[frz]using hd
  | .agg cs,d',hl,hd=>by
    simp only[frz]at hd⊢;obtain⟨cs',h1,h2⟩:=Z0 hd;rw[Z5b cs cs' (fun id hid=>hl id (by simpa[ZA]using hid)) h1];exact h2
  | .tup cs,d',hl,hd=>by
    simp only[frz]at hd⊢;obtain⟨cs',h1,h2⟩:=Z0 hd;rw[Z5b cs cs' (fun id hid=>hl id (by simpa[ZA]using hid)) h1];exact h2
  | .iface _ v,d',hl,hd=>by
    simp only[frz]at hd⊢;obtain⟨v',h1,h2⟩:=Z0 hd;rw[Z8S v v' (fun id hid=>hl id (by simpa[ZA]using hid)) h1];exact h2
  | .bool _,_,_,hd=>by simpa only[frz]using hd
  | .int _ _,_,_,hd=>by simpa only[frz]using hd
  | .str _,_,_,hd=>by simpa only[frz]using hd
  | .nilp,_,_,hd=>by simpa only[frz]using hd
  | .ptr _ _,_,_,hd=>by simpa only[frz]using hd
  | .rptr _ _ _ _ _,_,_,hd=>by simpa only[frz]using hd
  | .pub _,_,_,hd=>by simpa only[frz]using hd
  | .nils,_,_,hd=>by simpa only[frz]using hd
  | .sl _,_,_,hd=>by simpa only[frz]using hd
  | .fn _ _ _,_,_,hd=>by simpa only[frz]using hd
  | .nilfn,_,_,hd=>by simpa only[frz]using hd
  | .map _,_,_,hd=>by simpa only[frz]using hd
  | .nilmap,_,_,hd=>by simpa only[frz]using hd
  | .nilif,_,_,hd=>by simpa only[frz]using hd
  | .iter _,_,_,hd=>by simpa only[frz]using hd
  | .yld _,_,_,hd=>by simpa only[frz]using hd
theorem Z5b:∀(ds ds':List DV),(∀id,id∈ZJ ds→∀o,h id=some o→h' id=some o)→Z1N h ds=some ds'→Z1N h' ds=some ds'
  | [],_,_,hd=>hd
  | d::ds,d',hl,hd=>by
    simp only[Z1N]at hd⊢;obtain⟨c,h1,h2⟩:=Z0 hd;obtain⟨cs,h3,h4⟩:=Z0 h2;rw[Z8S d c (fun id hid=>hl id (by simp[ZJ,hid])) h1]
    simp only[Option.bind_some];rw[Z5b ds cs (fun id hid=>hl id (by simp[ZJ,hid])) h3]
    exact h4
end
theorem Zds {d d':DV} (hd:Z8R E h d=some d'):∀i∈Zj d,∃o,h i=some o:=by
  unfold Z8R at hd;split at hd
  · obtain⟨o,ho,_⟩:=Z0 hd
    intro i hi;simp only[Zj,List.mem_singleton]at hi;subst hi;exact⟨o,ho⟩
  · exact Z76 _ _ hd
theorem Z7N:∀(ds ds':List DV),Z3K E h ds=some ds'→∀i∈Zk ds,∃o,h i=some o
  | [],_,_,i,hi=>by simp[Zk]at hi
  | d::ds,_,hd,i,hi=>by
    simp only[Z3K]at hd;obtain⟨c,h1,hd⟩:=Z0 hd;obtain⟨cs,h2,_⟩:=Z0 hd;simp only[Zk,List.mem_append]at hi;rcases hi with hi|hi
    · exact Zds h1 i hi
    · exact Z7N ds cs h2 i hi
theorem Zfy {d d':DV} (hl:Le h h' d) (hd:Z8R E h d=some d'):Z8R E h' d=some d':=by
  unfold Z8R at hd⊢;split at hd
  · obtain⟨o,ho,h2⟩:=Z0 hd
    rw[hl _ (by simp[ZA]) o ho];exact h2
  · exact Z8S _ _ hl hd
theorem Z8T:∀(ds ds':List DV),(∀id,id∈ZJ ds→∀o,h id=some o→h' id=some o)→Z3K E h ds=some ds'→Z3K E h' ds=some ds'
  | [],_,_,hd=>hd
  | d::ds,d',hl,hd=>by
    simp only[Z3K]at hd⊢;obtain⟨c,h1,hd⟩:=Z0 hd;obtain⟨cs,h2,hd⟩:=Z0 hd;rw[Zfy (fun id hid=>hl id (by simp[ZJ,hid])) h1,Z8T ds cs (fun id hid=>hl id (by simp[ZJ,hid])) h2];exact hd
theorem Z52:∀(is:List Nat),(∀i∈is,h i=h' i)→Zu h is=Zu h' is
  | [],_=>rfl
  | i::is,hs=>by
    simp only[Zu];rw[hs i (by simp),Z52 is (fun j hj=>hs j (by simp[hj]))]
theorem Z2X:∀(is:List Nat) (u:Nat×Option Zd),u∈Zu h is→u.1∈is
  | [],u,hu=>by simp[Zu]at hu
  | i::is,u,hu=>by
    simp only[Zu,List.mem_append]at hu;rcases hu with hu|hu
    · split at hu
      · rename_i p _ _
        cases hp:Nat.beq p 1 with
        | true=>rw[hp]at hu;cases hu
        | false=>rw[hp]at hu;simp only[cond_false,List.mem_singleton]at hu;subst hu;simp
      · cases hu
    · exact List.mem_cons_of_mem _ (Z2X is u hu)
theorem Z7w {ds:List DV} (hl:∀id,id∈ZJ ds→∀o,h id=some o→h' id=some o) (hk:∀i∈Zk ds,∃o,h i=some o):Zu h' (Zk ds)=Zu h (Zk ds) :=
  (Z52 _ fun i hi=>by
    obtain⟨o,ho⟩:=hk i hi;rw[ho,hl i (Z35 ds i hi) o ho]).symm
theorem Zc9 {d:DV} {es:List (List DV)} (hl:Le h h' d) (hd:Y4 h d=some es):Z39 h' d=Z39 h d:=by
  cases d with
  | rs id v =>
    simp only[Y4]at hd;obtain⟨o,ho,_⟩:=Z0 hd;simp only[Z39,ho,hl id (by simp[ZA]) o ho]
  | _=>rfl
theorem Z5R {d:DV} {es:List (List DV)} (hl:Le h h' d) (hd:Y4 h d=some es):Y4 h' d=some es:=by
  cases d with
  | rs id v =>
    simp only[Y4]at hd⊢;obtain⟨o,ho,h2⟩:=Z0 hd;rw[hl id (by simp[ZA]) o ho];exact h2
  | rv id v i n e =>
    simp only[Y4]at hd⊢;obtain⟨o,ho,h2⟩:=Z0 hd;rw[hl id (by simp[ZA]) o ho];exact h2
  | nils=>exact hd
  | sl es=>exact hd
  | _=>cases hd
theorem ZbP {d:DV} {es:List (List DV)} (hd:Y4 h d=some es):∀i∈Zk [d],∃o,h i=some o:=fun i hi=>by
  cases d with
  | rs id v =>
    simp only[Y4]at hd;obtain⟨o,ho,_⟩:=Z0 hd;simp[Zk,Zj]at hi;subst hi;exact⟨o,ho⟩
  | rv id v i n e =>
    simp only[Y4]at hd;obtain⟨o,ho,_⟩:=Z0 hd;simp[Zk,Zj]at hi;subst hi;exact⟨o,ho⟩
  | nils=>simp[Zk,Zj]at hi
  | sl es=>simp[Zk,Zj]at hi
  | _=>cases hd
theorem ZfF {ti:TI} {a d:DV} (hl:Le h h' a) (hd:Z3d ti h a=some d):Z3d ti h' a=some d:=by
  cases a with
  | ptr id off =>
    simp only[Z3d]at hd⊢;obtain⟨o,ho,h2⟩:=Z0 hd;rw[hl id (by simp[ZA]) o ho];exact h2
  | rptr id v i e off =>
    simp only[Z3d]at hd⊢;obtain⟨o,ho,h2⟩:=Z0 hd;rw[hl id (by simp[ZA]) o ho];exact h2
  | pub cs=>exact hd
  | _=>cases hd
theorem Ze1 {ti:TI} {a v:DV} {us:List (Nat×Option Zd)} (hl:Le h h' a) (hd:Z54 ti h a v=some us):Z54 ti h' a v=some us∧∀u∈us,u.1∈ZA a:=by
  unfold Z54 at hd⊢;obtain⟨hq,hd⟩:=Z3 hd;rw[hq];cases a with
  | ptr id off =>
    simp only[cond_true]at hd⊢;obtain⟨o,ho,h2⟩:=Z0 hd;rw[hl id (by simp[ZA]) o ho]
    refine⟨h2,?_⟩;split at h2
    · obtain⟨_,h3⟩:=Z3 h2
      cases h3;intro u hu;simp only[List.mem_singleton]at hu;subst hu;simp[ZA]
    · cases h2
  | rptr id v i e off =>
    simp only[cond_true]at hd⊢;obtain⟨o,ho,h2⟩:=Z0 hd;rw[hl id (by simp[ZA]) o ho]
    refine⟨h2,?_⟩;split at h2
    · obtain⟨_,_,h2⟩:=Z0 h2
      obtain⟨_,h3⟩:=Z3 h2;cases h3;intro u hu;simp only[List.mem_singleton]at hu;subst hu;simp[ZA]
    · cases h2
  | _=>cases hd
theorem ZgF {k:TK} {d r:DV} (hl:Le h h' d) (hd:Z5p k h d=some r):Z5p k h' d=some r:=by
  unfold Z5p at hd⊢;split at hd
  · exact hd
  · exact hd
  · rename_i id
    obtain⟨o,ho,h2⟩:=Z0 hd;rw[hl id (by simp[ZA]) o ho];exact h2
  · exact hd
  · obtain⟨es,h1,h2⟩:=Z0 hd
    rw[Z5R hl h1];exact h2
  · exact hd
  · cases hd
theorem Zdf {t t':TypeId} {x:DV} {xs:List (List DV)} (hx:Le h h' x) (hd:Z8s E h t t' x=some xs):Z8s E h' t t' x=some xs:=by
  unfold Z8s at hd⊢;cases hq:Nat.beq t t' with
  | true=>rw[hq]at hd;exact Z5R hx hd
  | false=>rw[hq]at hd;exact hd
theorem ZbE {t t':TypeId} {s x:DV} {r:Out} (hs:Le h h' s) (hx:Le h h' x) (hd:Z3p E nid h t t' s x=some r):Z3p E nid h' t t' s x=some r∧∀u∈r.upd,u.1=nid∨u.1∈ZA s:=by
  unfold Z3p at hd⊢;obtain⟨ti,hti,hd⟩:=Z0 hd;rw[hti];simp only[Option.bind_some];split at hd
  · obtain⟨ei,hei,hd⟩:=Z0 hd
    obtain⟨xs,hxs,hd⟩:=Z0 hd;rw[hei];simp only[Option.bind_some,Zdf hx hxs];obtain⟨hq,hd⟩:=Z3 hd;rw[hq];simp only[cond_true];cases s with
    | nils =>
      refine⟨hd,?_⟩;cases xs with
      | nil=>cases hd;simp
      | cons c cs =>
        obtain⟨_,hd⟩:=Z3 hd;cases hd;intro u hu;simp only[List.mem_singleton]at hu;subst hu;exact .inl rfl
    | rs id v =>
      simp only at hd⊢;obtain⟨o,ho,h2⟩:=Z0 hd;rw[hs id (by simp[ZA]) o ho]
      refine⟨h2,?_⟩;split at h2
      · obtain⟨_,h3⟩:=Z3 h2
        cases h3;intro u hu;simp only[List.mem_singleton]at hu;subst hu;exact .inr (by simp[ZA])
      · cases h2
    | _=>cases hd
  · cases hd
theorem Z1A:∀{xs:List Operand} {ds:List DV},(∀x∈xs,OkX ρ ρ' h h' x)→Z1s ρ xs=some ds→Z1s ρ' xs=some ds∧∀id,id∈ZJ ds→(∀o,h id=some o→h' id=some o)∧∃x∈xs,∃d,Y1 ρ x=some d∧id∈ZA d
  | [],ds,_,hd=>by simp only[Z1s,Option.some.injEq]at hd;subst hd;exact⟨rfl,fun id hid=>by simp[ZJ]at hid⟩
  | x::xs,ds,ho,hd=>by
    simp only[Z1s]at hd⊢;obtain⟨d,h1,hd⟩:=Z0 hd;obtain⟨ds',h2,hd⟩:=Z0 hd;cases hd;obtain⟨k1,k2⟩:=ho x (by simp) d h1
    obtain⟨k3,k4⟩:=Z1A (fun y hy=>ho y (by simp[hy])) h2
    refine⟨by rw[k1,k3];rfl,fun id hid=>?_⟩
    simp only[ZJ,List.mem_append]at hid;rcases hid with hid|hid
    · exact⟨k2 id hid,x,by simp,d,h1,hid⟩
    · obtain⟨m1,y,m2,m3⟩:=k4 id hid
      exact⟨m1,y,by simp[m2],m3⟩
theorem Z5Y:∀{ps:List (Nat×Operand)} {vs:List (Nat×DV)},(∀x∈ps.map (·.2),OkX ρ ρ' h h' x)→Z26 ρ ps=some vs→Z26 ρ' ps=some vs∧∀id,id∈ZJ (vs.map (·.2))→(∀o,h id=some o→h' id=some o)∧∃x∈ps.map (·.2),∃d,Y1 ρ x=some d∧id∈ZA d
  | [],vs,_,hd=>by simp only[Z26,Option.some.injEq]at hd;subst hd;exact⟨rfl,fun id hid=>by simp[ZJ]at hid⟩
  | (i,x)::ps,vs,ho,hd=>by
    simp only[Z26]at hd⊢;obtain⟨d,h1,hd⟩:=Z0 hd;obtain⟨vs',h2,hd⟩:=Z0 hd;cases hd;obtain⟨k1,k2⟩:=ho x (by simp) d h1
    obtain⟨k3,k4⟩:=Z5Y (fun y hy=>ho y (by simp at hy⊢;exact .inr hy)) h2
    refine⟨by rw[k1,k3];rfl,fun id hid=>?_⟩
    simp only[List.map_cons,ZJ,List.mem_append]at hid;rcases hid with hid|hid
    · exact⟨k2 id hid,x,by simp,d,h1,hid⟩
    · obtain⟨m1,y,m2,m3⟩:=k4 id hid
      exact⟨m1,y,by simp at m2⊢;exact .inr m2,m3⟩
theorem ZfA (d:DV):ZJ (cellsOf d)=ZA d:=by
  cases d<;>simp[cellsOf,ZJ,ZA]
theorem Z9i {size:Nat}:∀{ps:List (Nat×DV)} {k:Nat} {es:List (List DV)},(∀id,id∈ZJ (ps.map (·.2))→∀o,h id=some o→h' id=some o)→Z5D h size k ps=some es→Z5D h' size k ps=some es∧∀i∈Zk (ps.map (·.2)),∃o,h i=some o
  | [],k,es,_,hd=>⟨hd,fun i hi=>by simp[Zk]at hi⟩
  | (i,v)::ps,k,es,hl,hd=>by
    simp only[Z5D]at hd⊢;obtain⟨hq,hd⟩:=Z3 hd;obtain⟨c,h1,hd⟩:=Z0 hd;obtain⟨hq2,hd⟩:=Z3 hd;obtain⟨r,h2,hd⟩:=Z0 hd;obtain⟨k1,k2⟩:=Z9i (fun id hid=>hl id (by simp[ZJ,hid])) h2
    refine⟨?_,fun j hj=>?_⟩
    · rw[hq]
      simp only[cond_true];rw[Z5b _ _ (fun id hid=>hl id (by rw[ZfA]at hid;simp[ZJ,hid])) h1]
      simp only[Option.bind_some,hq2,cond_true];rw[k1];exact hd
    · simp only[List.map_cons,Zk,List.mem_append]at hj
      rcases hj with hj|hj
      · exact Z4b _ _ h1 j (by rw[Z6M];exact hj)
      · exact k2 j hj
end
end Go.Ab
namespace Go.Ab
section
variable {E:Env} {ρ ρ':Nat→Option DV} {h h':Nat→Option Zd} {nid:Nat}
theorem YG {x:Option DV} {r:Out} (hd:x.bind ret=some r):r.upd=[]:=by
  obtain⟨d,_,h⟩:=Z0 hd;cases h;rfl
def Ups (ρ:Nat→Option DV) (nid:Nat) (xs:Array Operand) (r:Out):Prop:=∀u∈r.upd,u.1=nid∨∃x∈xs,∃d,Y1 ρ x=some d∧u.1∈ZA d
theorem ZP {xs:Array Operand} {r:Out} (h:r.upd=[]):Ups ρ nid xs r:=fun u hu=>by rw[h]at hu;cases hu
theorem ZfG {c:Call} {r:Out} (hx:∀x∈c.operands,OkX ρ ρ' h h' x) (hd:ZE E nid ρ h (.call c)=some r):ZE E nid ρ' h' (.call c)=some r∧Ups ρ nid c.operands r:=by
  have hargs:∀x∈c.args.toList,x∈c.operands:=fun x hm=>by simp[Call.operands];exact .inr (by simpa using hm)
  simp only[ZE]at hd⊢;split at hd
  · split at hd
    · rename_i x t ts hxx _
      obtain⟨ti,hti,hd⟩:=Z0 hd;obtain⟨d,h1,hd⟩:=Z0 hd;have hm:=hargs x (by rw[hxx];simp)
      obtain⟨k1,k2⟩:=hx x hm d h1;obtain⟨q,h2,h3⟩:=Z0 hd;rw[hti];simp only[Option.bind_some];rw[k1];simp only[Option.bind_some];rw[ZgF k2 h2];exact⟨h3,ZP (YG hd)⟩
    · cases hd
  · split at hd
    · rename_i s x t t' hxx _
      obtain⟨ds,h1,hd⟩:=Z0 hd;obtain⟨dx,h2,hd⟩:=Z0 hd;have hms:=hargs s (by rw[hxx];simp)
      obtain⟨k1,k2⟩:=hx s hms ds h1;obtain⟨k3,k4⟩:=hx x (hargs x (by rw[hxx];simp)) dx h2
      obtain⟨k5,k6⟩:=ZbE k2 k4 hd;simp only[cond_true,k1,k3,Option.bind_some];refine⟨k5,fun u hu=>?_⟩;rcases k6 u hu with e|e
      · exact .inl e
      · exact .inr ⟨s,hms,ds,h1,e⟩
    · cases hd
  · split at hd
    · rename_i x hxx
      obtain⟨d,h1,hd⟩:=Z0 hd;obtain⟨k1,k2⟩:=hx x (hargs x (by rw[hxx];simp)) d h1
      rw[k1];simp only[Option.bind_some];split at hd
      · exact⟨hd,ZP (by obtain rfl:=Z1t hd;rfl)⟩
      · rename_i id v
        obtain⟨o,ho,h2⟩:=Z0 hd;simp only[k2 id (by simp[ZA]) o ho,Option.bind_some]
        refine⟨h2,?_⟩;split at h2
        · obtain⟨_,h3⟩:=Z3 h2
          obtain rfl:=Z1t h3;exact ZP rfl
        · cases h2
      · cases hd
    · cases hd
  · split at hd
    · rename_i x n t t' hxx _
      obtain⟨dx,h1,hd⟩:=Z0 hd;obtain⟨dn,h2,hd⟩:=Z0 hd;obtain⟨ti,hti,hd⟩:=Z0 hd;have hmx:=hargs x (by rw[hxx];simp)
      obtain⟨k1,k2⟩:=hx x hmx dx h1;obtain⟨k3,_⟩:=hx n (hargs n (by rw[hxx];simp)) dn h2
      simp only[k1,k3,hti,Option.bind_some];split at hd
      · exact⟨hd,ZP (by obtain rfl:=Z1t hd;rfl)⟩
      · rename_i id v k e _ _ _ _
        obtain⟨o,ho,h3⟩:=Z0 hd;simp only[k2 id (by simp[ZA]) o ho,Option.bind_some]
        refine⟨h3,?_⟩;split at h3
        · obtain⟨_,h4⟩:=Z3 h3
          obtain⟨l,_,h5⟩:=Z0 h4;cases h5;intro u hu;simp only[List.mem_singleton]at hu;subst hu;exact .inr ⟨x,hmx,_,h1,by simp[ZA]⟩
        · cases h3
      · cases hd
    · cases hd
  · obtain⟨vs,h1,hd⟩:=Z0 hd
    obtain⟨k1,_⟩:=Z1A (h:=h) (h':=h') (fun x hm=>hx x (hargs x hm)) h1;rw[k1];refine⟨hd,?_⟩;split at hd
    · exact ZP (YG hd)
    · cases hd
  · obtain⟨vs,h1,hd⟩:=Z0 hd
    obtain⟨k1,_⟩:=Z1A (h:=h) (h':=h') (fun x hm=>hx x (hargs x hm)) h1;rw[k1];refine⟨hd,?_⟩;split at hd
    · exact ZP (YG hd)
    · cases hd
  · cases hd
theorem Zaa {x:Option Operand} {d:Option DV} (hx:∀y,x=some y→OkX ρ ρ' h h' y) (hd:Z2f ρ x=some d):Z2f ρ' x=some d:=by
  cases x with
  | none=>exact hd
  | some y =>
    simp only[Z2f]at hd⊢;obtain⟨v,h1,h2⟩:=Z0 hd;rw[(hx y rfl v h1).1];exact h2
theorem Zic {op:Op} {r:Out} (hx:∀x∈op.operands,OkX ρ ρ' h h' x) (hd:ZE E nid ρ h op=some r):ZE E nid ρ' h' op=some r∧Ups ρ nid op.operands r:=by
  cases op with
  | call c=>exact ZfG hx hd
  | move x =>
    simp only[ZE]at hd⊢;obtain⟨d,h1,h2⟩:=Z0 hd;rw[(hx x (by simp[Op.operands]) d h1).1]
    exact⟨h2,ZP (YG hd)⟩
  | assign x =>
    simp only[ZE]at hd⊢;obtain⟨d,h1,h2⟩:=Z0 hd;rw[(hx x (by simp[Op.operands]) d h1).1]
    exact⟨h2,ZP (YG hd)⟩
  | pick c x y =>
    simp only[ZE]at hd⊢;obtain⟨d,h1,h2⟩:=Z0 hd;rw[(hx c (by simp[Op.operands]) d h1).1]
    simp only[Option.bind_some];split at h2
    · rename_i b
      cases b
      · obtain⟨e,h3,h4⟩:=Z0 h2
        simp only[cond_false];rw[show Y1 ρ' y=some e from(hx y (by simp[Op.operands]) e h3).1]
        exact⟨h4,ZP (YG h2)⟩
      · obtain⟨e,h3,h4⟩:=Z0 h2
        simp only[cond_true];rw[show Y1 ρ' x=some e from(hx x (by simp[Op.operands]) e h3).1]
        exact⟨h4,ZP (YG h2)⟩
    · cases h2
  | alloc t =>
    simp only[ZE]at hd⊢;refine⟨hd,?_⟩;obtain⟨ti,_,h2⟩:=Z0 hd;cases h2;intro u hu;simp only[List.mem_singleton]at hu;subst hu;exact .inl rfl
  | box t x =>
    simp only[ZE]at hd⊢;obtain⟨d,h1,h2⟩:=Z0 hd;rw[(hx x (by simp[Op.operands]) d h1).1]
    refine⟨h2,?_⟩;obtain⟨_,h3⟩:=Z3 h2;cases h3;intro u hu;simp only[List.mem_singleton]at hu;subst hu;exact .inl rfl
  | build t ps =>
    simp only[ZE]at hd⊢;obtain⟨ti,hti,h1⟩:=Z0 hd;obtain⟨vs,h2,h3⟩:=Z0 h1;rw[hti];simp only[Option.bind_some];rw[(Z5Y (h:=h) (h':=h') (fun x hm=>hx x (by simpa[Op.operands]using hm)) h2).1]
    refine⟨h3,?_⟩;split at h3
    · obtain⟨cs,_,h5⟩:=Z0 h3
      cases h5;exact ZP rfl
    · obtain⟨ei,_,h4⟩:=Z0 h3
      obtain⟨cs,_,h5⟩:=Z0 h4;cases h5;exact ZP rfl
    · cases h3
  | buildSlice t n ps =>
    simp only[ZE]at hd⊢;obtain⟨ti,hti,h1⟩:=Z0 hd;rw[hti];simp only[Option.bind_some];cases hk:ti.k with
    | slice e =>
      rw[hk]at h1;simp only at h1⊢;obtain⟨ei,hei,h2⟩:=Z0 h1;obtain⟨vs,h3,h4⟩:=Z0 h2;obtain⟨es,h5,h6⟩:=Z0 h4;obtain⟨k1,k2⟩:=Z5Y (h:=h) (h':=h') (fun x hm=>hx x (by simpa[Op.operands]using hm)) h3
      obtain⟨k3,k4⟩:=Z9i (fun id hid=>(k2 id hid).1) h5;have k5:=Z7w (fun id hid=>(k2 id hid).1) k4;rw[hei];simp only[Option.bind_some];rw[k1];simp only[Option.bind_some];rw[k3];simp only[Option.bind_some];rw[k5];refine⟨h6,?_⟩;obtain⟨_,h7⟩:=Z3 h6;cases h7;intro u hu;rcases List.mem_cons.1 hu with rfl|hu
      · exact .inl rfl
      · obtain⟨_,x,m1,d,m2,m3⟩:=k2 u.1 (Z35 _ _ (Z2X _ u hu))
        exact .inr ⟨x,by simpa[Op.operands]using m1,d,m2,m3⟩
    | _=>rw[hk]at h1;cases h1
  | load t x =>
    simp only[ZE]at hd⊢;obtain⟨ti,hti,h1⟩:=Z0 hd;obtain⟨d,h2,h3⟩:=Z0 h1;obtain⟨v,h4,h5⟩:=Z0 h3;obtain⟨k1,k2⟩:=hx x (by simp[Op.operands]) d h2
    rw[hti];simp only[Option.bind_some];rw[k1];simp only[Option.bind_some];rw[ZfF k2 h4];exact⟨h5,ZP (YG h3)⟩
  | store t x y =>
    simp only[ZE]at hd⊢;obtain⟨ti,hti,h1⟩:=Z0 hd;obtain⟨d,h2,h3⟩:=Z0 h1;obtain⟨v,h4,h5⟩:=Z0 h3;obtain⟨us,h6,h7⟩:=Z0 h5;obtain⟨k1,k2⟩:=hx x (by simp[Op.operands]) d h2
    obtain⟨k3,_⟩:=hx y (by simp[Op.operands]) v h4
    obtain⟨k5,k6⟩:=Ze1 k2 h6;rw[hti];simp only[Option.bind_some];rw[k1];simp only[Option.bind_some];rw[k3];simp only[Option.bind_some];rw[k5];refine⟨h7,?_⟩;cases h7;intro u hu;exact .inr ⟨x,by simp[Op.operands],d,h2,k6 u hu⟩
  | nilCheck x =>
    simp only[ZE]at hd⊢;obtain⟨d,h1,h2⟩:=Z0 hd;rw[(hx x (by simp[Op.operands]) d h1).1]
    refine⟨h2,?_⟩;split at h2<;>first|(cases h2;exact ZP rfl)|cases h2
  | binOp op t x y z =>
    simp only[ZE]at hd⊢;obtain⟨d,h1,h2⟩:=Z0 hd;obtain⟨e,h3,h4⟩:=Z0 h2;rw[(hx x (by simp[Op.operands]) d h1).1];simp only[Option.bind_some];rw[(hx y (by simp[Op.operands]) e h3).1]
    exact⟨h4,ZP (YG h4)⟩
  | unOp op t x =>
    simp only[ZE]at hd⊢;obtain⟨d,h1,h2⟩:=Z0 hd;rw[(hx x (by simp[Op.operands]) d h1).1]
    exact⟨h2,ZP (YG h2)⟩
  | convert s t x =>
    simp only[ZE]at hd⊢;obtain⟨si,hsi,h0⟩:=Z0 hd;obtain⟨ti,hti,h1⟩:=Z0 h0;obtain⟨d,h2,h3⟩:=Z0 h1;rw[hsi];simp only[Option.bind_some];rw[hti];simp only[Option.bind_some];rw[(hx x (by simp[Op.operands]) d h2).1]
    refine⟨h3,?_⟩;split at h3<;>first|(cases h3;exact ZP rfl)|cases h3
  | makeInterface t x =>
    simp only[ZE]at hd⊢;obtain⟨ti,hti,h1⟩:=Z0 hd;obtain⟨d,h2,h3⟩:=Z0 h1;rw[hti];simp only[Option.bind_some];rw[(hx x (by simp[Op.operands]) d h2).1]
    refine⟨h3,?_⟩;cases hk:ti.k<;>rw[hk]at h3<;>first|(cases h3;exact ZP rfl)|cases h3
  | typeAssert x xt t ok =>
    simp only[ZE]at hd⊢;obtain⟨ti,hti,h1⟩:=Z0 hd;obtain⟨d,h2,h3⟩:=Z0 h1;rw[hti];simp only[Option.bind_some];rw[(hx x (by simp[Op.operands]) d h2).1]
    refine⟨h3,?_⟩;have fin:∀{r:Out},(bif ok then(Z1f ti).bind fun z=>ret (.tup [z,.bool false])else none)=some r→r.upd=[]:=fun h=>by
      obtain⟨_,h⟩:=Z3 h;obtain⟨z,_,h⟩:=Z0 h;cases h;rfl
    have fin2:∀{v:DV} {q:Bool} {r:Out},(bif q then ret v else bif ok then(Z1f ti).bind fun z=>ret (.tup [z,.bool false])else none)=some r→r.upd=[]:=fun {v q r} h=>by
      cases q with
      | true=>cases h;rfl
      | false=>exact fin h
    cases d with
    | nilif=>cases hk:ti.k<;>rw[hk]at h3<;>first|exact ZP (fin h3)|cases h3
    | iface t' v=>cases hk:ti.k<;>rw[hk]at h3<;>first|exact ZP (fin2 h3)|cases h3
    | _=>cases hk:ti.k<;>rw[hk]at h3<;>cases h3
  | makeSlice t l c =>
    simp only[ZE]at hd⊢;obtain⟨ti,hti,h1⟩:=Z0 hd;obtain⟨dl,h2,h3⟩:=Z0 h1;obtain⟨dc,h4,h5⟩:=Z0 h3;rw[hti];simp only[Option.bind_some];rw[(hx l (by simp[Op.operands]) dl h2).1];simp only[Option.bind_some];rw[(hx c (by simp[Op.operands]) dc h4).1]
    refine⟨h5,?_⟩;split at h5
    · obtain⟨ei,_,h6⟩:=Z0 h5
      obtain⟨_,h7⟩:=Z3 h6;cases h7;intro u hu;simp only[List.mem_singleton]at hu;subst hu;exact .inl rfl
    · cases h5
  | makeFunc f x y =>
    simp only[ZE]at hd⊢;obtain⟨d,h1,h2⟩:=Z0 hd;obtain⟨e,h3,h4⟩:=Z0 h2;rw[(Z1A (h:=h) (h':=h') (fun z hm=>hx z (by simp[Op.operands];exact .inl (by simpa using hm))) h1).1];simp only[Option.bind_some]
    rw[(Z1A (h:=h) (h':=h') (fun z hm=>hx z (by simp[Op.operands];exact .inr (by simpa using hm))) h3).1]
    refine⟨h4,?_⟩;cases h4;exact ZP rfl
  | makeMap t x =>
    cases x with
    | some x=>simp[ZE]at hd
    | none =>
      refine⟨by simpa only[ZE]using hd,?_⟩
      simp only[ZE]at hd;cases hd;intro u hu;simp only[List.mem_singleton]at hu;subst hu;exact .inl rfl
  | slice t x lo hi mx =>
    cases mx with
    | some m=>simp[ZE]at hd
    | none =>
      simp only[ZE]at hd⊢;obtain⟨ti,hti,h1⟩:=Z0 hd;obtain⟨d,h2,h3⟩:=Z0 h1;obtain⟨dl,h4,h5⟩:=Z0 h3;obtain⟨dh,h6,h7⟩:=Z0 h5;obtain⟨k1,k2⟩:=hx x (by simp[Op.operands]) d h2
      rw[hti];simp only[Option.bind_some];rw[k1];simp only[Option.bind_some];rw[Zaa (h:=h) (h':=h') (fun y hy=>hx y (by subst hy;simp[Op.operands])) h4];simp only[Option.bind_some]
      rw[Zaa (h:=h) (h':=h') (fun y hy=>hx y (by subst hy;simp[Op.operands])) h6];simp only[Option.bind_some]
      cases hk:ti.k with
      | string =>
        rw[hk]at h7;cases d with
        | str s=>exact⟨h7,ZP (YG h7)⟩
        | _=>cases h7
      | array n e =>
        rw[hk]at h7;cases d with
        | ptr id off =>
          simp only at h7⊢;obtain⟨ei,hei,h8⟩:=Z0 h7;obtain⟨ob,h9,h10⟩:=Z0 h8;rw[hei];simp only[Option.bind_some];rw[k2 id (by simp[ZA]) _ h9];simp only[Option.bind_some]
          refine⟨h10,?_⟩;cases ob with
          | cells ct cs =>
            obtain⟨_,h11⟩:=Z3 h10;obtain⟨q,_,h12⟩:=Z0 h11;cases h12;intro u hu;simp only[List.mem_singleton]at hu;subst hu;exact .inr ⟨x,by simp[Op.operands],.ptr id off,h2,by simp[ZA]⟩
          | _=>cases h10
        | _=>cases h7
      | slice e =>
        rw[hk]at h7;simp only at h7⊢;obtain⟨ei,hei,h8⟩:=Z0 h7;obtain⟨es,h9,h10⟩:=Z0 h8;have k5:=Z7w (h:=h) (h':=h') (ds:=[d]) (fun id hid=>k2 id (by simpa[ZJ]using hid)) (ZbP h9)
        simp only[Zk,List.append_nil]at k5;have k6:Z39 h' d=Z39 h d:=Zc9 k2 h9;rw[hei];simp only[Option.bind_some];rw[Z5R k2 h9];simp only[Option.bind_some];rw[k5,k6];refine⟨h10,?_⟩;obtain⟨_,h11⟩:=Z3 h10;cases hvw:ti.view&&Z39 h d with
        | true =>
          rw[hvw]at h11;simp only[cond_true]at h11;exact ZP (YG h11)
        | false =>
        rw[hvw]at h11;simp only[cond_false]at h11;obtain⟨q,_,h12⟩:=Z0 h11;cases h12;intro u hu;exact .inr ⟨x,by simp[Op.operands],d,h2,Z9j d _ (Z2X _ u hu)⟩
      | _=>rw[hk]at h7;cases h7
  | fieldAddr s x f =>
    simp only[ZE]at hd⊢;obtain⟨ti,hti,h1⟩:=Z0 hd;obtain⟨d,h2,h3⟩:=Z0 h1;rw[hti];simp only[Option.bind_some];rw[(hx x (by simp[Op.operands]) d h2).1]
    refine⟨h3,?_⟩;split at h3
    · obtain⟨q,_,h4⟩:=Z0 h3
      obtain⟨fi,_,h5⟩:=Z0 h4;obtain⟨_,h6⟩:=Z3 h5;exact ZP (YG h6)
    · cases h3
  | field s x f =>
    simp only[ZE]at hd⊢;obtain⟨ti,hti,h1⟩:=Z0 hd;obtain⟨d,h2,h3⟩:=Z0 h1;rw[hti];simp only[Option.bind_some];rw[(hx x (by simp[Op.operands]) d h2).1]
    refine⟨h3,?_⟩;split at h3
    · obtain⟨q,_,h4⟩:=Z0 h3
      obtain⟨fi,_,h5⟩:=Z0 h4;exact ZP (YG h5)
    · cases h3
  | indexAddr t x i =>
    simp only[ZE]at hd⊢;obtain⟨ti,hti,h1⟩:=Z0 hd;obtain⟨d,h2,h3⟩:=Z0 h1;obtain⟨di,h4,h5⟩:=Z0 h3;obtain⟨k1,k2⟩:=hx x (by simp[Op.operands]) d h2
    rw[hti];simp only[Option.bind_some];rw[k1];simp only[Option.bind_some];rw[(hx i (by simp[Op.operands]) di h4).1];simp only[Option.bind_some]
    cases hk:ti.k with
    | array len e =>
      rw[hk]at h5;refine⟨h5,?_⟩;obtain⟨ei,_,h6⟩:=Z0 h5;obtain⟨j,_,h7⟩:=Z0 h6;exact ZP (YG h7)
    | slice e =>
      rw[hk]at h5;simp only at h5⊢;obtain⟨ei,hei,h6⟩:=Z0 h5;rw[hei];simp only[Option.bind_some];cases d with
      | sl es =>
        refine⟨h6,?_⟩;obtain⟨j,_,h7⟩:=Z0 h6;obtain⟨c,_,h8⟩:=Z0 h7;obtain⟨_,h9⟩:=Z3 h8;cases h9;exact ZP rfl
      | rs id v =>
        simp only at h6⊢;obtain⟨o,ho,h7⟩:=Z0 h6;rw[k2 id (by simp[ZA]) o ho]
        refine⟨h7,?_⟩;split at h7
        · obtain⟨j,_,h8⟩:=Z0 h7
          obtain⟨_,h9⟩:=Z3 h8;cases h9;exact ZP rfl
        · cases h7
      | _=>cases h6
    | _=>rw[hk]at h5;cases h5
  | index t x i =>
    simp only[ZE]at hd⊢;obtain⟨ti,hti,h1⟩:=Z0 hd;obtain⟨d,h2,h3⟩:=Z0 h1;obtain⟨di,h4,h5⟩:=Z0 h3;rw[hti];simp only[Option.bind_some];rw[(hx x (by simp[Op.operands]) d h2).1];simp only[Option.bind_some];rw[(hx i (by simp[Op.operands]) di h4).1]
    refine⟨h5,?_⟩;split at h5
    · obtain⟨ei,_,h6⟩:=Z0 h5
      obtain⟨j,_,h7⟩:=Z0 h6;exact ZP (YG h7)
    · obtain⟨j,_,h7⟩:=Z0 h5
      obtain⟨c,_,h8⟩:=Z0 h7;cases h8;exact ZP rfl
    · cases h5
  | lookup t m k ok =>
    simp only[ZE]at hd⊢;obtain⟨ti,hti,h1⟩:=Z0 hd;obtain⟨dm,h2,h3⟩:=Z0 h1;obtain⟨dk,h4,h5⟩:=Z0 h3;obtain⟨k1,k2⟩:=hx m (by simp[Op.operands]) dm h2
    rw[hti];simp only[Option.bind_some];rw[k1];simp only[Option.bind_some];rw[(hx k (by simp[Op.operands]) dk h4).1];simp only[Option.bind_some]
    cases hk:ti.k with
    | map kt e =>
      rw[hk]at h5;simp only at h5⊢;obtain⟨ei,hei,h6⟩:=Z0 h5;obtain⟨ki,hki,h7⟩:=Z0 h6;obtain⟨hq,h8⟩:=Z3 h7;obtain⟨es,h9,h10⟩:=Z0 h8;rw[hei];simp only[Option.bind_some];rw[hki];simp only[Option.bind_some];rw[hq];simp only[cond_true];have k3:∀(z:Option (List (DV×DV))),z=some es→(z.bind fun es=>(Z2V dk es).bind fun r=>match r,ei.zero with
          | some v,_=>ret (bif ok then .tup [v,.bool true]else v)
          | none,z::_=>ret (bif ok then .tup [z,.bool false]else z)
          | _,_=>none)=some r:=fun z hz=>by rw[hz];exact h10
      refine⟨k3 _ ?_,?_⟩
      · cases dm with
        | nilmap=>exact h9
        | map id =>
          simp only at h9⊢;obtain⟨o,ho,h11⟩:=Z0 h9;rw[k2 id (by simp[ZA]) o ho];exact h11
        | _=>cases h9
      · obtain⟨q,_,h12⟩:=Z0 h10
        split at h12<;>first|(cases h12;exact ZP rfl)|cases h12
    | _=>rw[hk]at h5;cases h5
  | mapUpdate t m k x =>
    simp only[ZE]at hd⊢;obtain⟨ti,hti,h1⟩:=Z0 hd;obtain⟨dm,h2,h3⟩:=Z0 h1;obtain⟨dk,h4,h5⟩:=Z0 h3;obtain⟨dx,h6,h7⟩:=Z0 h5;obtain⟨k1,k2⟩:=hx m (by simp[Op.operands]) dm h2
    rw[hti];simp only[Option.bind_some];rw[k1];simp only[Option.bind_some];rw[(hx k (by simp[Op.operands]) dk h4).1];simp only[Option.bind_some];rw[(hx x (by simp[Op.operands]) dx h6).1];simp only[Option.bind_some]
    cases hk:ti.k with
    | map kt e =>
      rw[hk]at h7;cases dm with
      | map id =>
        simp only at h7⊢;obtain⟨ki,hki,h8⟩:=Z0 h7;obtain⟨o,ho,h9⟩:=Z0 h8;rw[hki];simp only[Option.bind_some];rw[k2 id (by simp[ZA]) o ho]
        refine⟨h9,?_⟩;split at h9
        · obtain⟨_,h10⟩:=Z3 h9
          obtain⟨es,_,h11⟩:=Z0 h10;cases h11;intro u hu;simp only[List.mem_singleton]at hu;subst hu;exact .inr ⟨m,by simp[Op.operands],.map id,h2,by simp[ZA]⟩
        · cases h9
      | _=>cases h7
    | _=>rw[hk]at h7;cases h7
  | range t x =>
    simp only[ZE]at hd⊢;obtain⟨ti,hti,h1⟩:=Z0 hd;obtain⟨d,h2,h3⟩:=Z0 h1;rw[hti];simp only[Option.bind_some];rw[(hx x (by simp[Op.operands]) d h2).1]
    refine⟨h3,?_⟩;split at h3
    · cases h3
      intro u hu;simp only[List.mem_singleton]at hu;subst hu;exact .inl rfl
    · cases h3
  | next it s =>
    cases s with
    | false=>simp[ZE]at hd
    | true =>
      simp only[ZE]at hd⊢;obtain⟨d,h1,h2⟩:=Z0 hd;obtain⟨k1,k2⟩:=hx it (by simp[Op.operands]) d h1
      rw[k1];simp only[Option.bind_some];cases d with
      | iter id =>
        simp only at h2⊢;obtain⟨o,ho,h3⟩:=Z0 h2;rw[k2 id (by simp[ZA]) o ho]
        refine⟨h3,?_⟩;split at h3
        · rename_i s pos
          by_cases hp:pos<s.size
          · simp only[hp,decide_true,cond_true]at h3
            cases h3;intro u hu;simp only[List.mem_singleton]at hu;subst hu;exact .inr ⟨it,by simp[Op.operands],.iter id,h1,by simp[ZA]⟩
          · simp only[hp,decide_false,cond_false]at h3
            cases h3;exact ZP rfl
        · cases h3
      | _=>cases h2
  | extract t i =>
    simp only[ZE]at hd⊢;obtain⟨d,h1,h2⟩:=Z0 hd;rw[(hx t (by simp[Op.operands]) d h1).1]
    refine⟨h2,?_⟩;split at h2
    · exact ZP (YG h2)
    · cases h2
  | _=>simp[ZE]at hd
theorem ZaU:∀(xs ys:List DV) (i:Nat),i∈ZJ (xs++ys)↔i∈ZJ xs∨i∈ZJ ys
  | [],ys,i=>by simp[ZJ]
  | x::xs,ys,i=>by simp[ZJ,ZaU xs ys i,or_assoc]
theorem Zd1 {c:Call} {g:FuncId} {x y as:List DV} (hx:∀z∈c.operands,OkX ρ ρ' h h' z) (hd:target E ρ c=some (.fn (.func g) x y,as)) :
    target E ρ' c=some (.fn (.func g) x y,as)∧∀id,id∈ZJ as→(∀o,h id=some o→h' id=some o)∧∃z∈c.operands,∃d,Y1 ρ z=some d∧id∈ZA d:=by
  unfold target at hd⊢;split at hd
  · rename_i f hc
    have hf:f∈c.operands:=by simp[Call.operands,hc]
    have hargs:∀z∈c.args.toList,z∈c.operands:=fun z hm=>by simp[Call.operands];exact .inr (by simpa using hm)
    obtain⟨d,h1,h2⟩:=Z0 hd;obtain⟨k1,k2⟩:=hx f hf d h1;rw[k1];simp only[Option.bind_some];split at h2
    · rename_i g' first caps
      obtain⟨as',h3,h4⟩:=Z0 h2;obtain⟨k3,k4⟩:=Z1A (h:=h) (h':=h') (fun z hm=>hx z (hargs z hm)) h3;rw[k3];cases h4;refine⟨rfl,fun id hid=>?_⟩;rw[ZaU,ZaU]at hid;rcases hid with(hid|hid)|hid
      · have:id∈ZA (.fn (.func g) first caps):=by simp only[ZA,List.mem_append];exact .inl hid
        exact⟨k2 id this,f,hf,_,h1,this⟩
      · obtain⟨m1,z,m2,m3⟩:=k4 id hid
        exact⟨m1,z,hargs z m2,m3⟩
      · have:id∈ZA (.fn (.func g) first caps):=by simp only[ZA,List.mem_append];exact .inr hid
        exact⟨k2 id this,f,hf,_,h1,this⟩
    · obtain⟨as',h3,h4⟩:=Z0 h2
      cases h4
    · cases h2
  · rename_i f m hc
    have hf:f∈c.operands:=by simp[Call.operands,hc]
    have hargs:∀z∈c.args.toList,z∈c.operands:=fun z hm=>by simp[Call.operands];exact .inr (by simpa using hm)
    obtain⟨d,h1,h2⟩:=Z0 hd;obtain⟨k1,k2⟩:=hx f hf d h1;rw[k1];simp only[Option.bind_some];split at h2
    · rename_i t v
      obtain⟨ti,hti,h2⟩:=Z0 h2;obtain⟨g',hg,h2⟩:=Z0 h2;obtain⟨as',h3,h4⟩:=Z0 h2;obtain⟨k3,k4⟩:=Z1A (h:=h) (h':=h') (fun z hm=>hx z (hargs z hm)) h3;simp only[hti,hg,k3,Option.bind_some];cases h4;refine⟨rfl,fun id hid=>?_⟩;simp only[ZJ,List.mem_append]at hid;rcases hid with hid|hid
      · have:id∈ZA (.iface t v):=by simpa only[ZA]using hid
        exact⟨k2 id this,f,hf,_,h1,this⟩
      · obtain⟨m1,z,m2,m3⟩:=k4 id hid
        exact⟨m1,z,hargs z m2,m3⟩
    · cases h2
  · cases hd
theorem ZgQ {call:Nat→List DV→Option DV} {op:Op} {r:Out} (hx:∀x∈op.operands,OkX ρ ρ' h h' x) (hd:Z7J E call nid ρ h op=some r):Z7J E call nid ρ' h' op=some r∧Ups ρ nid op.operands r:=by
  unfold Z7J at hd⊢;split at hd
  · rename_i c hc
    have hop:=Z3q hc;subst hop;unfold Z4G at hd⊢;obtain⟨tg,h1,h2⟩:=Z0 hd;split at h2
    · rename_i g x y as
      obtain⟨fs,h3,h4⟩:=Z0 h2;obtain⟨q,h5,h6⟩:=Z0 h4;have hx':∀z∈c.operands,OkX ρ ρ' h h' z:=hx;obtain⟨k1,k2⟩:=Zd1 hx' h1;rw[k1];simp only[Option.bind_some];rw[Z8T as fs (fun id hid=>(k2 id hid).1) h3];simp only[Option.bind_some];rw[h5];simp only[Option.bind_some];cases hrv:as.any Zgv with
      | true =>
        rw[hrv]at h6;simp only[cond_true]at h6⊢;exact⟨h6,ZP (YG h6)⟩
      | false =>
      rw[hrv]at h6;simp only[cond_false]at h6⊢;cases h6;rw[Z7w (fun id hid=>(k2 id hid).1) (Z7N as fs h3)];refine⟨rfl,fun u hu=>?_⟩;obtain⟨_,z,m1,m2⟩:=k2 u.1 (Z35 as _ (Z2X _ u hu));exact .inr ⟨z,m1,m2⟩
    · cases h2
  · exact Zic hx hd
end
end Go.Ab
namespace Go.Ab
open Go.RowKit
section
variable {E:Env} {call:Nat→List DV→Option DV} {callH callY:Yj} {V nt:Nat} {ops:Array Oper} {b:Nat}
structure Z42 (E:Env) (call:Nat→List DV→Option DV) (callH callY:Yj) (V nt:Nat) (ops:Array Oper) (b:Nat) (m:Mid) (k nx nx2:Nat) (o:Oper) (d:YK) (ds:List (Nat×YK)):Prop where
  op:ops[k]? = some o
  dst:d.dst=o.dst
  anc:d.anc=Z1O ops ds o k
  edges:∀e∈o.after,Region.binds .any e=true→e.on<k
  fits:∀t,o.dst=some t→t<nt
  apart:∀e∈ds,Nat.testBit d.anc e.1=true∨∀t,o.dst=some t→t∉(ops.getD e.1 o).looksAt ops∧e.2.dst≠some t
  ups:∀e∈ds,Nat.testBit d.anc e.1=true∨((d.new≠none→e.2.new=none)∧∀u∈d.out.upd,u.1∉e.2.touch∧Zw u.1 e.2.out.upd=none)
  run:(Z1y ops (Z6a d.anc (Y0 V m.base m.loc) ds) o=some true∧Z7J E call (b+k) (Z6a d.anc (Y0 V m.base m.loc) ds) (Z5F d.anc m.objs.get ds) o.op=some d.out∧d.touch=touch (Z6a d.anc (Y0 V m.base m.loc) ds) o.op∧d.new=none∧nx2=nx) ∨
    (Z1y ops (Z6a d.anc (Y0 V m.base m.loc) ds) o=some false∧d.touch=[]∧d.out=⟨some (.tup []),[]⟩∧d.new=none∧nx2=nx) ∨
    (Z1y ops (Z6a d.anc (Y0 V m.base m.loc) ds) o=some true∧d.new=some (nx,nx2)∧∃cl tgt,Z3b o.op=some cl∧target E (Z6a d.anc (Y0 V m.base m.loc) ds) cl=some tgt∧YZ callH callY (Z5F d.anc m.objs.get ds) nx tgt=some (d.out,d.touch,nx2))
def Z38 (E:Env) (call:Nat→List DV→Option DV) (callH callY:Yj) (V nt:Nat) (ops:Array Oper) (b:Nat) (m:Mid):Nat→Nat→List (Nat×YK)→Prop
  | k,nx,[]=>k=0∧nx=m.next
  | k,nx,(j,d)::ds=>k=j+1∧∃nx0,(∃o,Z42 E call callH callY V nt ops b m j nx0 nx o d ds)∧Z38 E call callH callY V nt ops b m j nx0 ds
theorem Zfs {k:Nat} {o:Oper} {os:List Oper} (h:o::os=ops.toList.drop k):ops[k]? = some o∧os=ops.toList.drop (k+1):=by
  have hlt:k<ops.toList.length:=by
    rcases Nat.lt_or_ge k ops.toList.length with h1|h1
    · exact h1
    · rw[List.drop_eq_nil_of_le h1]at h;cases h
  rw[List.drop_eq_getElem_cons hlt]at h;simp only[List.cons.injEq]at h;refine⟨?_,h.2⟩;rw[h.1,←Array.getElem?_toList];exact List.getElem?_eq_getElem hlt
theorem Z47 {m:Mid}:∀(os:List Oper) (k:Nat) (mf:Mid) (nx:Nat) (ds:List (Nat×YK)),Z1a E call callH callY V nt ops b k os { m with next:=nx } ds=some mf→os=ops.toList.drop k→Z38 E call callH callY V nt ops b m k nx ds→k≤ops.size →
    ∃nx2 ds2,Z38 E call callH callY V nt ops b m ops.size nx2 ds2∧mf=YW V nt ds2 { m with next:=nx2 }
  | [],k,mf,nx,ds,hd,ho,hs,hk=>by
    simp only[Z1a,Option.some.injEq]at hd;have:=List.drop_eq_nil_iff.1 ho.symm;simp at this;have:k=ops.size:=by omega
    subst this;exact⟨nx,ds,hs,hd.symm⟩
  | o::os,k,mf,nx,ds,hd,ho,hs,hk=>by
    obtain⟨hop,hos⟩:=Zfs ho;have hlt:k<ops.size:=(Array.getElem?_eq_some_iff.1 hop).1;simp only[Z1a]at hd;obtain⟨hq,hd⟩:=Z3 hd;simp only[Bool.and_eq_true,List.all_eq_true,Bool.or_eq_true]at hq;obtain⟨⟨q1,q2⟩,q4⟩:=hq;have hedges:∀e∈o.after,Region.binds .any e=true→e.on<k:=fun e he hb=>by
      have:=(Array.all_eq_true_iff_forall_mem.1 q1) e he;simp only[hb,Bool.not_true,Bool.false_or,Tr.blt_dec,decide_eq_true_eq]at this;exact this
    have hfits:∀t,o.dst=some t→t<nt:=fun t ht=>by
      rw[ht]at q2;simpa[Tr.blt_dec]using q2
    have hap:∀e∈ds,Nat.testBit (Z1O ops ds o k) e.1=true∨∀t,o.dst=some t→t∉(ops.getD e.1 o).looksAt ops∧e.2.dst≠some t:=fun e he=>by
      rcases q4 e he with h|h
      · exact .inl h
      · refine .inr fun t ht=>?_
        rw[ht]at h;simp only[Bool.and_eq_true,Bool.not_eq_true']at h;refine⟨by simpa using h.1,fun hdst=>?_⟩
        have h2:=h.2;rw[hdst]at h2;simp at h2
    obtain⟨want,hw,hd⟩:=Z0 hd;cases want with
    | false =>
      simp only[cond_false]at hd;exact Z47 os (k+1) mf nx _ hd hos ⟨rfl,nx,⟨o,hop,rfl,rfl,hedges,hfits,hap,fun e _=>.inr ⟨fun h=>absurd rfl h,fun u hu=>by cases hu⟩,.inr (.inl ⟨hw,rfl,rfl,rfl,rfl⟩)⟩,hs⟩ hlt
    | true =>
      simp only[cond_true]at hd;obtain⟨so,hso,hd⟩:=Z0 hd;cases so with
      | some r =>
        have hr:=Zap hso;obtain⟨hup,hd⟩:=Z3 hd;have hups:∀e∈ds,Nat.testBit (Z1O ops ds o k) e.1=true∨(((none:Option (Nat×Nat))≠none→e.2.new=none)∧∀u∈r.upd,u.1∉e.2.touch∧Zw u.1 e.2.out.upd=none):=fun e he=>by
          simp only[List.all_eq_true,Bool.or_eq_true,Bool.and_eq_true,Bool.not_eq_true',Option.isNone_iff_eq_none]at hup
          by_cases hq:Nat.testBit (Z1O ops ds o k) e.1=true
          · exact .inl hq
          · refine .inr ⟨fun h=>absurd rfl h,fun u hu=>?_⟩
            rcases hup u hu e he with h|h
            · exact absurd h hq
            · exact⟨by simpa using h.1,h.2⟩
        exact Z47 os (k+1) mf nx _ hd hos ⟨rfl,nx,⟨o,hop,rfl,rfl,hedges,hfits,hap,hups,.inl ⟨hw,hr,rfl,rfl,rfl⟩⟩,hs⟩ hlt
      | none =>
        obtain⟨cl,h1,hd⟩:=Z0 hd;obtain⟨tgt,h2,hd⟩:=Z0 hd;obtain⟨⟨out,T,nx2⟩,h3,hd⟩:=Z0 hd;obtain⟨hall,hd⟩:=Z3 hd;simp only[List.all_eq_true,Bool.or_eq_true,Bool.and_eq_true,Bool.not_eq_true',Option.isNone_iff_eq_none]at hall;have hups:∀e∈ds,Nat.testBit (Z1O ops ds o k) e.1=true∨((some (nx,nx2)≠none→e.2.new=none)∧∀u∈out.upd,u.1∉e.2.touch∧Zw u.1 e.2.out.upd=none):=fun e he=>by
          rcases hall e he with h|⟨h,h'⟩
          · exact .inl h
          · exact .inr ⟨fun _=>h,fun u hu=>⟨by simpa using (h' u hu).1,(h' u hu).2⟩⟩
        exact Z47 os (k+1) mf nx2 _ hd hos ⟨rfl,nx,⟨o,hop,rfl,rfl,hedges,hfits,hap,hups,.inr (.inr ⟨hw,rfl,cl,tgt,h1,h2,h3⟩)⟩,hs⟩ hlt
theorem Zg9 {ds:List (Nat×YK)} {o:Oper} {k i:Nat} (h:Nat.testBit (Z1O ops ds o k) i=true):∃e∈o.after,Region.binds .any e=true∧e.on<k∧(i=e.on∨∃d,(e.on,d)∈ds∧Nat.testBit d.anc i=true):=by
  unfold Z1O at h;have key:∀(es:List Edge) (x:Nat),Nat.testBit (es.foldl (fun m e=>bif Region.binds .any e&&Nat.blt e.on k then m ||| (1 <<< e.on) ||| ((ds.find? (fun d=>Nat.beq d.1 e.on)).map (·.2.anc)).getD 0 else m) x) i=true →
      Nat.testBit x i=true∨∃e∈es,Region.binds .any e=true∧e.on<k∧(i=e.on∨∃d,(e.on,d)∈ds∧Nat.testBit d.anc i=true):=by
    intro es
    induction es with
    | nil=>intro x hx;exact .inl hx
    | cons e es ih =>
      intro x hx;rw[List.foldl_cons]at hx;rcases ih _ hx with h1|⟨e',h1,h2⟩
      · cases hq:(Region.binds .any e&&Nat.blt e.on k)with
        | false=>rw[hq]at h1;exact .inl h1
        | true =>
          rw[hq]at h1;simp only[Bool.and_eq_true,Tr.blt_dec,decide_eq_true_eq]at hq;simp only[cond_true,Nat.testBit_or,Bool.or_eq_true]at h1;rcases h1 with(h1|h1)|h1
          · exact .inl h1
          · refine .inr ⟨e,by simp,hq.1,hq.2,.inl ?_⟩
            rw[Nat.one_shiftLeft,Nat.testBit_two_pow]at h1;simpa using (of_decide_eq_true h1).symm
          · refine .inr ⟨e,by simp,hq.1,hq.2,.inr ?_⟩
            cases hf:ds.find? (fun d=>Nat.beq d.1 e.on)with
            | none=>rw[hf]at h1;simp at h1
            | some p =>
              rw[hf]at h1;obtain⟨j,d⟩:=p;have hj:=List.find?_some hf;have hj:j=e.on:=Nat.eq_of_beq_eq_true hj;subst hj;exact⟨d,List.mem_of_find?_eq_some hf,h1⟩
      · exact .inr ⟨e',by simp[h1],h2⟩
  rcases key _ _ h with h1|⟨e,h1,h2⟩
  · simp at h1
  · exact⟨e,by simpa using h1,h2⟩
def Z1K (L:Nat→Bool) (ρ:Nat→Option DV):List (Nat×YK)→Nat→Option DV
  | [],t=>ρ t
  | (j,d)::ds,t=>if L j=true∧d.dst=some t then d.out.val else Z1K L ρ ds t
def hL (L:Nat→Bool) (h:Nat→Option Zd):List (Nat×YK)→Nat→Option Zd
  | [],id=>h id
  | (j,d)::ds,id=>if L j=true then(match Zw id d.out.upd with|some x=>x|none=>hL L h ds id)else hL L h ds id
theorem Z83 {id:Nat}:∀{us:List (Nat×Option Zd)} {x:Option Zd},Zw id us=some x→∃u∈us,u.1=id
  | [],_,h=>by cases h
  | (i,y)::us,x,h=>by
    simp only[Zw]at h;cases hq:Zw id us with
    | some z =>
      obtain⟨u,h1,h2⟩:=Z83 hq;exact⟨u,by simp[h1],h2⟩
    | none =>
      rw[hq]at h;simp only[Tr.beq_dec]at h
      by_cases e:i=id
      · exact⟨(i,y),by simp,e⟩
      · simp[e]at h
variable {m:Mid}
theorem Zbr:∀{ds:List (Nat×YK)} {k nx:Nat},Z38 E call callH callY V nt ops b m k nx ds→∀j d,(j,d)∈ds→j<k
  | [],k,_,h=>fun _ _ h=>by cases h
  | (j,d)::ds,k,_,h=>by
    obtain⟨rfl,_,_,h2⟩:=h;have k2:=Zbr h2;intro i e hi;rcases List.mem_cons.1 hi with hi|hi
    · cases hi;omega
    · have:=k2 i e hi
      omega
def Zg4 (L:Nat→Bool) (ds:List (Nat×YK)):Prop:=∀j d,(j,d)∈ds→L j=true→∀i,Nat.testBit d.anc i=true→L i=true
theorem Zha:∀{ds:List (Nat×YK)} {k nx:Nat},Z38 E call callH callY V nt ops b m k nx ds→∀j,j<k→∃d tl o nx1 nx2,(j,d)∈ds∧Z42 E call callH callY V nt ops b m j nx1 nx2 o d tl∧(∀e∈tl,e∈ds)∧Z38 E call callH callY V nt ops b m j nx1 tl
  | [],k,_,h,j,h2=>by rw[h.1]at h2;omega
  | (i,d)::ds,k,nx,h,j,h2=>by
    obtain⟨rfl,nx0,⟨o,ho⟩,h4⟩:=h
    by_cases e:j=i
    · subst e;exact⟨d,ds,o,nx0,nx,by simp,ho,fun e he=>by simp[he],h4⟩
    · obtain⟨d',tl,o',n1,n2,k1,k2,k3,k4⟩:=Zha h4 j (by omega)
      exact⟨d',tl,o',n1,n2,by simp[k1],k2,fun e he=>by simp[k3 e he],k4⟩
theorem Zam {L:Nat→Bool} {anc:Nat} (hanc:∀i,Nat.testBit anc i=true→L i=true) {ρ:Nat→Option DV} {t:Nat} {v:DV}:∀{ds:List (Nat×YK)},Z6a anc ρ ds t=some v→Z1K L ρ ds t=some v
  | [],h=>h
  | (j,d)::ds,h=>by
    simp only[Z6a]at h;simp only[Z1K]
    by_cases e:d.dst=some t
    · rw[e]at h
      simp only[Tr.beq_dec,decide_true,cond_true]at h;cases hq:Nat.testBit anc j with
      | false=>rw[hq]at h;cases h
      | true=>rw[hq]at h;rw[if_pos ⟨hanc j hq,e⟩];exact h
    · rw[if_neg (fun q=>e q.2)]
      refine Zam hanc ?_;cases hd:d.dst with
      | none=>rw[hd]at h;exact h
      | some s =>
        have hne:s≠t:=fun q=>e (by rw[hd,q])
        rw[hd]at h;simpa[Tr.beq_dec,hne]using h
theorem Z9o {L:Nat→Bool} {anc:Nat} (hanc:∀i,Nat.testBit anc i=true→L i=true) {h:Nat→Option Zd} {id:Nat} {ob:Zd}:∀{ds:List (Nat×YK)},Z5F anc h ds id=some ob→hL L h ds id=some ob
  | [],h=>h
  | (j,d)::ds,h=>by
    simp only[Z5F]at h;simp only[hL];cases hq:Zw id d.out.upd with
    | some x =>
      rw[hq]at h;simp only at h⊢;cases hb:Nat.testBit anc j with
      | false=>rw[hb]at h;cases h
      | true=>rw[hb]at h;rw[if_pos (hanc j hb)];exact h
    | none =>
      rw[hq]at h;simp only at h⊢;have:=Z9o hanc h
      by_cases e:L j=true
      · rw[if_pos e];exact this
      · rw[if_neg e];exact this
theorem Z7Z {L L':Nat→Bool} {ρ:Nat→Option DV} {t:Nat}:∀{ds:List (Nat×YK)},(∀i e,(i,e)∈ds→L' i=L i)→Z1K L' ρ ds t=Z1K L ρ ds t
  | [],_=>rfl
  | (j,d)::ds,h=>by
    simp only[Z1K];rw[h j d (by simp),Z7Z fun i e hi=>h i e (by simp[hi])]
theorem Zc8 {L L':Nat→Bool} {h:Nat→Option Zd} {id:Nat}:∀{ds:List (Nat×YK)},(∀i e,(i,e)∈ds→L' i=L i)→hL L' h ds id=hL L h ds id
  | [],_=>rfl
  | (j,d)::ds,h=>by
    simp only[hL];rw[h j d (by simp),Zc8 fun i e hi=>h i e (by simp[hi])]
theorem ZcS {L:Nat→Bool} {k:Nat} (hk:L k=false) {L':Nat→Bool} (hL':∀j,L' j=if j=k then true else L j):∀{ds:List (Nat×YK)} {n nx:Nat},Z38 E call callH callY V nt ops b m n nx ds→Zg4 L ds→k<n→∃d tl o nx1 nx2,(k,d)∈ds∧Z42 E call callH callY V nt ops b m k nx1 nx2 o d tl ∧
    ((∀i,Nat.testBit d.anc i=true→L i=true) →
      (∀t v,t∈o.looksAt ops→Z6a d.anc (Y0 V m.base m.loc) tl t=some v→Z1K L (Y0 V m.base m.loc) ds t=some v) ∧
      (∀id ob,id∈d.touch→Z5F d.anc m.objs.get tl id=some ob→hL L m.objs.get ds id=some ob)) ∧
    (∀t,Z1K L' (Y0 V m.base m.loc) ds t=if d.dst=some t then d.out.val else Z1K L (Y0 V m.base m.loc) ds t) ∧
    (∀id,hL L' m.objs.get ds id=match Zw id d.out.upd with|some x=>x|none=>hL L m.objs.get ds id)
  | [],n,_,h,_,h2=>by rw[h.1]at h2;omega
  | (j,dj)::ds,n,nx,h,hd,h2=>by
    obtain⟨rfl,nx0,⟨o,ho⟩,h4⟩:=h;have hd':Zg4 L ds:=fun i e hi=>hd i e (by simp[hi])
    by_cases e:k=j
    · subst e
      have hlt:=Zbr h4;have hself:L' k=true:=by rw[hL'];simp
      have hsame:∀i e,(i,e)∈ds→L' i=L i:=fun i e hi=>by
        have:=hlt i e hi;rw[hL',if_neg (by omega)]
      refine⟨dj,ds,o,nx0,nx,by simp,ho,fun hanc=>⟨fun t v _ hs=>?_,fun id ob _ hs=>?_⟩,fun t=>?_,fun id=>?_⟩
      · simp only[Z1K,hk,Bool.false_eq_true,false_and,if_false]
        exact Zam hanc hs
      · simp only[hL,hk,Bool.false_eq_true,if_false]
        exact Z9o hanc hs
      · simp only[Z1K,hself,hk,Bool.false_eq_true,false_and,if_false,true_and]
        rw[Z7Z hsame]
      · simp only[hL,hself,hk,Bool.false_eq_true,if_false,if_true]
        rw[Zc8 hsame]
    · obtain⟨d,tl,o',n1,n2,k1,k2,k3,k4,k5⟩:=ZcS hk hL' h4 hd' (by omega)
      have hne:L' j=L j:=by rw[hL',if_neg (fun q=>e q.symm)]
      have hnb:L j=true→Nat.testBit dj.anc k=false:=fun hj=>by
        cases hq:Nat.testBit dj.anc k with
        | false=>rfl
        | true=>have:=hd j dj (by simp) hj k hq;rw[hk]at this;cases this
      have hgo:(ops.getD k o).looksAt ops=o'.looksAt ops:=by
        have:ops.getD k o=o':=by
          have:=k2.op;simp[this]
        rw[this]
      have hup:L j=true→∀id x,Zw id dj.out.upd=some x→id∉d.touch∧Zw id d.out.upd=none:=fun hj id x hq=>by
        obtain⟨u,hu,rfl⟩:=Z83 hq;rcases ho.ups (k,d) k1 with q|q
        · rw[hnb hj]at q;cases q
        · exact q.2 u hu
      refine⟨d,tl,o',n1,n2,by simp[k1],k2,fun hanc=>⟨fun t v ht hs=>?_,fun id ob hid hs=>?_⟩,fun t=>?_,fun id=>?_⟩
      · simp only[Z1K]
        rw[if_neg,(k3 hanc).1 t v ht hs];rintro⟨e1,e2⟩;rcases ho.apart (k,d) k1 with q|q
        · rw[hnb e1]at q;cases q
        · have:=(q t (by rw[←ho.dst];exact e2)).1
          rw[hgo]at this;exact this ht
      · simp only[hL]
        rw[(k3 hanc).2 id ob hid hs]
        by_cases e1:L j=true
        · rw[if_pos e1]
          cases hq:Zw id dj.out.upd with
          | none=>rfl
          | some x=>exact absurd hid (hup e1 id x hq).1
        · rw[if_neg e1]
      · simp only[Z1K,hne]
        rw[k4]
        by_cases e1:L j=true∧dj.dst=some t
        · rw[if_pos e1,if_pos e1,if_neg]
          intro e2;rcases ho.apart (k,d) k1 with q|q
          · rw[hnb e1.1]at q;cases q
          · exact(q t (by rw[←ho.dst];exact e1.2)).2 e2
        · rw[if_neg e1,if_neg e1]
      · simp only[hL,hne]
        rw[k5]
        by_cases e1:L j=true
        · rw[if_pos e1,if_pos e1]
          cases hq:Zw id dj.out.upd with
          | none=>rfl
          | some x=>rw[(hup e1 id x hq).2]
        · rw[if_neg e1,if_neg e1]
theorem Zgp {k nx nx2:Nat} {o:Oper} {d:YK} {ds:List (Nat×YK)} (ho:Z42 E call callH callY V nt ops b m k nx nx2 o d ds):nx≤nx2:=by
  rcases ho.run with⟨_,_,_,_,h⟩|⟨_,_,_,_,h⟩|⟨_,_,_,_,_,_,h⟩
  · omega
  · omega
  · exact Zdj _ _ _ _ _ _ h
theorem Z59 {k nx nx2:Nat} {o:Oper} {d:YK} {ds:List (Nat×YK)} (ho:Z42 E call callH callY V nt ops b m k nx nx2 o d ds) {lo hi:Nat} (hn:d.new=some (lo,hi)):lo=nx∧hi=nx2:=by
  rcases ho.run with⟨_,_,_,h,_⟩|⟨_,_,_,h,_⟩|⟨_,h,_⟩
  · rw[hn]at h;cases h
  · rw[hn]at h;cases h
  · rw[hn]at h;cases h;exact⟨rfl,rfl⟩
theorem Zdq {k nx nx2:Nat} {o:Oper} {d:YK} {ds:List (Nat×YK)} (ho:Z42 E call callH callY V nt ops b m k nx nx2 o d ds) (hn:d.new=none):nx2=nx:=by
  rcases ho.run with⟨_,_,_,_,h⟩|⟨_,_,_,_,h⟩|⟨_,h,_⟩
  · exact h
  · exact h
  · rw[hn]at h;cases h
theorem Zbq:∀{ds:List (Nat×YK)} {k nx:Nat},Z38 E call callH callY V nt ops b m k nx ds→m.next≤nx∧∀j d lo hi,(j,d)∈ds→d.new=some (lo,hi)→m.next≤lo∧lo≤hi∧hi≤nx
  | [],k,nx,h=>⟨by rw[h.2];exact Nat.le_refl _,fun _ _ _ _ h=>by cases h⟩
  | (i,d)::ds,k,nx,h=>by
    obtain⟨rfl,nx0,⟨o,ho⟩,h4⟩:=h;obtain⟨h5,h6⟩:=Zbq h4;have h7:=Zgp ho;refine⟨by omega,fun j d' lo hi hj hn=>?_⟩
    rcases List.mem_cons.1 hj with hj|hj
    · cases hj
      obtain⟨rfl,rfl⟩:=Z59 ho hn;exact⟨h5,h7,Nat.le_refl _⟩
    · obtain⟨a,b,c⟩:=h6 j d' lo hi hj hn
      exact⟨a,b,by omega⟩
theorem Zan:∀{ds:List (Nat×YK)} {n nx:Nat},Z38 E call callH callY V nt ops b m n nx ds→∀k d lo hi,(k,d)∈ds→d.new=some (lo,hi)→∀id,lo≤id→id<nx →
    ∃j dj lo' hi',(j,dj)∈ds∧dj.new=some (lo',hi')∧lo'≤id∧id<hi'∧(j=k∨Nat.testBit dj.anc k=true)
  | [],_,_,_,_,_,_,_,h,_,_,_,_=>by cases h
  | (i,di)::ds,n,nx,h,k,d,lo,hi,hk,hn,id,h1,h2=>by
    obtain⟨rfl,nx0,⟨o,ho⟩,h4⟩:=h;rcases List.mem_cons.1 hk with hk|hk
    · cases hk
      obtain⟨rfl,rfl⟩:=Z59 ho hn;exact⟨i,di,_,_,by simp,hn,h1,h2,.inl rfl⟩
    · rcases Nat.lt_or_ge id nx0 with h3|h3
      · obtain⟨j,dj,lo',hi',a,b,c,d',e⟩:=Zan h4 k d lo hi hk hn id h1 h3
        exact⟨j,dj,lo',hi',by simp[a],b,c,d',e⟩
      · cases hq:di.new with
        | none=>have:=Zdq ho hq;omega
        | some p =>
          obtain⟨lo',hi'⟩:=p;obtain⟨rfl,rfl⟩:=Z59 ho hq;refine⟨i,di,lo',hi',by simp,hq,h3,h2,.inr ?_⟩
          rcases ho.ups (k,d) hk with q|q
          · exact q
          · have:=q.1 (by rw[hq];simp)
            rw[hn]at this;cases this
theorem Zfc:∀{ds:List (Nat×YK)} {n nx:Nat},Z38 E call callH callY V nt ops b m n nx ds→∀k d lo hi j dj lo' hi',(k,d)∈ds→d.new=some (lo,hi)→(j,dj)∈ds→dj.new=some (lo',hi')→j≠k→Nat.testBit d.anc j=true∨hi≤lo'
  | [],_,_,_,_,_,_,_,_,_,_,_,h,_,_,_,_=>by cases h
  | (i,di)::ds,n,nx,h,k,d,lo,hi,j,dj,lo',hi',hk,hn,hj,hnj,hne=>by
    obtain⟨rfl,nx0,⟨o,ho⟩,h4⟩:=h;rcases List.mem_cons.1 hk with hk|hk
    · cases hk
      rcases List.mem_cons.1 hj with hj|hj
      · cases hj;exact absurd rfl hne
      · rcases ho.ups (j,dj) hj with q|q
        · exact .inl q
        · have:=q.1 (by rw[hn];simp)
          rw[hnj]at this;cases this
    · rcases List.mem_cons.1 hj with hj|hj
      · cases hj
        obtain⟨rfl,rfl⟩:=Z59 ho hnj;exact .inr ((Zbq h4).2 k d lo hi hk hn).2.2
      · exact Zfc h4 k d lo hi j dj lo' hi' hk hn hj hnj hne
end
end Go.Ab
namespace Go.Ab
open Go.RowKit
section
variable {P:Program} {E:Env} {w0:World} {G0:Gh} {outer:DD} {own:List Nat} {V nt:Nat} {a:Act} {w:World} {β:Bi} {G:Gh} {ro:Option Nat} {n:Nat} {call:Nat→List DV→Option DV} {callH callY:Yj} {ops:Array Oper} {b:Nat} {m:Mid}
structure DS (E:Env) (w0:World) (G0:Gh) (outer:DD) (V nt:Nat) (own:List Nat) (ops:Array Oper) (b nx:Nat) (m:Mid) (ds:List (Nat×YK)) (L:Nat→Bool) (β0:Bi) (Gz:Gh) (hz:Nat→Option Zd) (a:Act) (w:World) (β:Bi) (G:Gh):Prop where
  fr:FrM β G (Z1K L (Y0 V m.base m.loc) ds) a.tmps
  dom:∀t d,m.base.get t=some d→Nat.testBit V t=true
  sz:a.tmps.size=nt
  hr:HR E w0 G0 (YR own outer) w β G (hL L m.objs.get ds)
  fresh:∀id,nx≤id→ZS β (hL L m.objs.get ds) id
  df:Z84 E own a.defers∧ZaA own outer
  un:∀j,j<ops.size→L j=false→ZS β (hL L m.objs.get ds) (b+j)
  unc:∀j d lo hi,(j,d)∈ds→d.new=some (lo,hi)→L j=false→∀id,lo≤id→id<hi→ZS β (hL L m.objs.get ds) id
  down:Zg4 L ds
  go:Go2 b β0 Gz β G hz (hL L m.objs.get ds)
theorem Zfb:∀{ds:List (Nat×YK)} {k nx:Nat},Z38 E call callH callY V nt ops b m k nx ds→∀j d,(j,d)∈ds→∃tl o nx1 nx2,Z42 E call callH callY V nt ops b m j nx1 nx2 o d tl∧∀e∈tl,e∈ds
  | [],_,_,_,_,_,h=>by cases h
  | (i,d)::ds,k,nx,h,j,d',hj=>by
    obtain⟨_,nx0,⟨o,ho⟩,h4⟩:=h;rcases List.mem_cons.1 hj with hj|hj
    · cases hj;exact⟨ds,o,nx0,nx,ho,fun e he=>by simp[he]⟩
    · obtain⟨tl,o',n1,n2,k1,k2⟩:=Zfb h4 j d' hj
      exact⟨tl,o',n1,n2,k1,fun e he=>by simp[k2 e he]⟩
theorem Zga {ds:List (Nat×YK)} {L:Nat→Bool} {o:Oper} {k:Nat} (hd:Zg4 L ds) {tl:List (Nat×YK)} (htl:∀e∈tl,e∈ds) (he:∀e∈o.after,Region.binds .any e=true→L e.on=true) :
    ∀i,Nat.testBit (Z1O ops tl o k) i=true→L i=true:=fun i hi=>by
  obtain⟨e,h1,h2,_,h4⟩:=Zg9 hi;rcases h4 with rfl|⟨d,h5,h6⟩
  · exact he e h1 h2
  · exact hd e.on d (htl _ h5) (he e h1 h2) i h6
theorem ZgK {o:Oper} {t:Nat} (h:Operand.tmp t∈o.op.operands):t∈o.looksAt ops :=
  List.mem_append_left _ (List.mem_filterMap.2 ⟨.tmp t,by simpa using h,rfl⟩)
theorem Za9 {o:Oper} {ρ ρ':Nat→Option DV} (h:∀t v,t∈o.looksAt ops→ρ t=some v→ρ' t=some v) {x:Operand} (hx:x∈o.op.operands) {d:DV} (hd:Y1 ρ x=some d):Y1 ρ' x=some d:=by
  cases x with
  | tmp t=>exact h t d (ZgK hx) hd
  | _=>exact hd
theorem Z56 {o:Oper} {ρ ρ':Nat→Option DV} (h:∀t v,t∈o.looksAt ops→ρ t=some v→ρ' t=some v) {want:Bool} (hw:Z1y ops ρ o=some want):Z1y ops ρ' o=some want:=by
  unfold Z1y at hw⊢;cases hg:o.guard with
  | none=>rw[hg]at hw;exact hw
  | some g =>
    obtain⟨j,wt⟩:=g;rw[hg]at hw;simp only at hw⊢;cases hd:(ops[j]?).bind (·.dst)with
    | none=>rw[hd]at hw;cases hw
    | some t =>
      rw[hd]at hw;simp only at hw⊢;cases hr:ρ t with
      | none=>rw[hr]at hw;cases hw
      | some d =>
        rw[hr]at hw;rw[h t d (List.mem_append_right _ (by rw[hg];simp[hd])) hr]
        exact hw
theorem Z4e {ρ ρ':Nat→Option DV}:∀{xs:List Operand} {ds:List DV},(∀x∈xs,∀dd,Y1 ρ x=some dd→Y1 ρ' x=some dd)→Z1s ρ xs=some ds→Z1s ρ' xs=some ds
  | [],_,_,h=>h
  | x::xs,ds,hv,h=>by
    simp only[Z1s]at h⊢;obtain⟨v,h1,h⟩:=Z0 h;obtain⟨vs,h2,h⟩:=Z0 h;rw[hv x (by simp) v h1,Option.bind_some,Z4e (fun y hy=>hv y (by simp[hy])) h2]
    exact h
theorem Zd2 {ρ ρ':Nat→Option DV} {c:Call} {tgt:DV×List DV} (hv:∀x∈c.operands,∀dd,Y1 ρ x=some dd→Y1 ρ' x=some dd) (h:target E ρ c=some tgt):target E ρ' c=some tgt:=by
  have hargs:∀x∈c.args.toList,x∈c.operands:=fun x hx=>by
    unfold Call.operands;split<;>simp_all
  unfold target at h⊢;split at h
  · rename_i f hc
    obtain⟨v,h1,h⟩:=Z0 h;have hf:f∈c.operands:=by unfold Call.operands;rw[hc];simp
    rw[hv f hf v h1];simp only[Option.bind_some];split at h
    · obtain⟨as,h2,h⟩:=Z0 h
      rw[Z4e (fun x hx=>hv x (hargs x hx)) h2];exact h
    · obtain⟨as,h2,h⟩:=Z0 h
      rw[Z4e (fun x hx=>hv x (hargs x hx)) h2];exact h
    · cases h
  · rename_i rv mm hc
    obtain⟨v,h1,h⟩:=Z0 h;have hf:rv∈c.operands:=by unfold Call.operands;rw[hc];simp
    rw[hv rv hf v h1];simp only[Option.bind_some];split at h
    · obtain⟨ti,h2,h⟩:=Z0 h
      obtain⟨g,h3,h⟩:=Z0 h;obtain⟨as,h4,h⟩:=Z0 h;rw[h2,Option.bind_some,h3,Option.bind_some,Z4e (fun x hx=>hv x (hargs x hx)) h4];exact h
    · cases h
  · cases h
theorem ZfX {ρ:Nat→Option DV} {op:Op} {x:Operand} (hx:x∈op.operands) {d:DV} (hd:Y1 ρ x=some d) {id:Nat} (hid:id∈ZA d):id∈touch ρ op:=by
  unfold touch;rw[List.mem_flatMap];exact⟨x,by simpa using hx,by rw[hd];exact hid⟩
theorem Zif (hE:∀t ti,E.ty t=some ti→ZX P t ti) (hp:Z37 P E call) (hH:YY P E callH) (hY:Z1g P E callY) {ds:List (Nat×YK)} {nx:Nat} (hs:Z38 E call callH callY V nt ops b m ops.size nx ds) {L L':Nat→Bool} {k:Nat} (hk2:k<ops.size) (hle:b+ops.size≤m.next)
    (hk:L k=false) (hL':∀j,L' j=if j=k then true else L j) {o:Oper} (ho:ops[k]? = some o) (hready:∀e∈o.after,Region.binds .any e=true→L e.on=true) {β0:Bi} {Gz:Gh} {hz:Nat→Option Zd}
    (hst:DS E w0 G0 outer V nt own ops b nx m ds L β0 Gz hz a w β G) {K:Act→World→Prop} {Q:Exit→Act→World→Prop} (hK:∀a' w' β' G',DS E w0 G0 outer V nt own ops b nx m ds L' β0 Gz hz a' w' β' G'→K a' w'):wpOpIn (fw ro) n P ops Q k K a w:=by
  obtain⟨d,tl,o',nx1,nx2,h1,h2,h3,h4,h5⟩:=ZcS hk hL' hs hst.down hk2;have heo:o'=o:=by have:=h2.op;rw[ho]at this;cases this;rfl
  subst heo;obtain⟨hnx,hcalls⟩:=Zbq hs;have hanc_all:∀d',(k,d')∈ds→∀i,Nat.testBit d'.anc i=true→L i=true:=fun d' hd' i hi=>by
    obtain⟨tl',o2,_,_,q1,q2⟩:=Zfb hs k d' hd';have:o2=o':=by have:=q1.op;rw[ho]at this;cases this;rfl
    subst this;rw[q1.anc]at hi;exact Zga hst.down q2 hready i hi
  obtain⟨v1,v2⟩:=h3 (hanc_all d h1);have hdown:Zg4 L' ds:=fun j dj hj hlj i hi=>by
    rw[hL']
    by_cases e:i=k
    · rw[if_pos e]
    · rw[if_neg e]
      by_cases e2:j=k
      · subst e2;exact hanc_all dj hj i hi
      · rw[hL',if_neg e2]at hlj
        exact hst.down j dj hj hlj i hi
  have heq:∀id,hL L' m.objs.get ds id=ZK (hL L m.objs.get ds) d.out.upd id:=fun id=>h5 id
  have hnext:∀(v:Value) (w':World) (β':Bi) (G':Gh),(∀dd,d.out.val=some dd→Rep β' G' dd v)→Ext β G β' G'→HR E w0 G0 (YR own outer) w' β' G' (ZK (hL L m.objs.get ds) d.out.upd) →
      (∀id,id<b→Z15 β β' (hL L m.objs.get ds) (hL L' m.objs.get ds) id)→(∀id,nx≤id→ZS β' (hL L' m.objs.get ds) id)→(∀j,j<ops.size→j≠k→ZS β (hL L m.objs.get ds) (b+j)→ZS β' (hL L' m.objs.get ds) (b+j)) →
      (∀j dj lo hi,(j,dj)∈ds→dj.new=some (lo,hi)→L' j=false→∀id,lo≤id→id<hi→ZS β' (hL L' m.objs.get ds) id) →
      DS E w0 G0 outer V nt own ops b nx m ds L' β0 Gz hz (a.put o'.dst v) w' β' G':=fun v w' β' G' hv hx hh hkp hf1 hf2 hf3=>by
    obtain⟨s1,s2⟩:=Zcv (a:=a) o'.dst v;refine⟨Zeo hx hst.sz hst.fr hv fun t dd ht=>?_,hst.dom,s1.trans hst.sz,hh.eq heq,hf1,⟨by rw[s2];exact hst.df.1,hst.df.2⟩,fun j hjs hlj=>?_,hf3,hdown,hst.go.trans ⟨hx,hkp⟩⟩
    · rw[h4,h2.dst]at ht
      by_cases e:o'.dst=some t
      · rw[if_pos e]at ht
        exact .inl ⟨e,h2.fits t e,ht⟩
      · rw[if_neg e]at ht
        exact .inr ⟨fun q=>e q.1,ht⟩
    · rw[hL']at hlj
      by_cases e:j=k
      · rw[if_pos e]at hlj;cases hlj
      · rw[if_neg e]at hlj
        exact hf2 j hjs e (hst.un j hjs hlj)
  have hsimple:d.new=none→∀(v:Value) (w':World) (β':Bi) (G':Gh),(∀dd,d.out.val=some dd→Rep β' G' dd v)→Ext β G β' G'→HR E w0 G0 (YR own outer) w' β' G' (ZK (hL L m.objs.get ds) d.out.upd)→Z2C β β' (hL L m.objs.get ds) (ZK (hL L m.objs.get ds) d.out.upd) (b+k) →
      DS E w0 G0 outer V nt own ops b nx m ds L' β0 Gz hz (a.put o'.dst v) w' β' G':=fun hdn v w' β' G' hv hx hh hkp=>by
    have hfr:∀id,id≠b+k→Z15 β β' (hL L m.objs.get ds) (hL L' m.objs.get ds) id:=fun id hid hf=>by
      obtain⟨q1,q2,q3⟩:=hkp id hid hf;exact⟨by rw[heq];exact q1,q2,q3⟩
    refine hnext v w' β' G' hv hx hh (fun id hid=>hfr id (by omega)) (fun id hid=>(hfr id (by omega)).fresh (hst.fresh id hid)) (fun j hjs hne hf=>(hfr _ (by omega)).fresh hf) fun j dj lo hi hj hn hlj id hl1 hl2=>?_
    have hjk:j≠k:=fun e=>by subst e;rw[hL',if_pos rfl]at hlj;cases hlj
    rw[hL',if_neg hjk]at hlj;have:=(hcalls j dj lo hi hj hn).1;exact(hfr id (by omega)).fresh (hst.unc j dj lo hi hj hn hlj id hl1 hl2)
  unfold wpOpIn;rw[ho];simp only;rcases h2.run with⟨r1,r2,r3,r4,_⟩|⟨r1,_,r3,r4,_⟩|⟨r1,r4,cl,tgt,r5,r6,r7⟩
  · rw[Z30 hst.fr (Z56 v1 r1)]
    simp only[if_true];have hmono:=(ZgQ (ρ':=Z1K L (Y0 V m.base m.loc) ds) (h':=hL L m.objs.get ds) (fun x hx dd hd=>⟨Za9 v1 hx hd,fun id hid ob hob=>v2 id ob (by rw[r3];exact ZfX hx hd hid) hob⟩) r2).1
    exact Z7K hE hp hst.fr hst.hr (hst.un k hk2 hk) hmono K Q fun v w' β' G' hv hx hh hkp=>hK _ _ _ _ (hsimple r4 v w' β' G' hv hx hh hkp)
  · rw[Z30 hst.fr (Z56 v1 r1)]
    simp only[Bool.false_eq_true,if_false];refine⟨fun _ _=>trivial,hK _ _ β G (hsimple r4 undef w β G (fun dd hdd=>?_) (Ext.refl _ _) ?_ ?_)⟩
    · rw[r3]at hdd;cases hdd;exact Z3V
    · rw[r3];exact hst.hr
    · rw[r3];exact Z2C.refl _ _ _
  · rw[Z30 hst.fr (Z56 v1 r1)]
    simp only[if_true];obtain⟨c1,c2,c3⟩:=hcalls k d nx1 nx2 h1 r4;have hop:=Z3q r5;have htgt:target E (Z1K L (Y0 V m.base m.loc) ds) cl=some tgt:=Zd2 (fun x hx dd hd=>Za9 v1 (by rw[hop];exact hx) hd) r6
    have hlow:∀id,nx1≤id→ZS β (hL L m.objs.get ds) id:=fun id hid=>by
      rcases Nat.lt_or_ge id nx with q|q
      · obtain⟨j,dj,lo',hi',g1,g2,g3,g4,g5⟩:=Zan hs k d nx1 nx2 h1 r4 id hid q
        refine hst.unc j dj lo' hi' g1 g2 ?_ id g3 g4;rcases g5 with rfl|g5
        · exact hk
        · cases hq:L j with
          | false=>rfl
          | true=>have:=hst.down j dj g1 hq k g5;rw[hk]at this;cases this
      · exact hst.fresh id q
    refine Z5u hE hH hY hst.fr r5 htgt hst.hr r7 (fun i hi x hx=>v2 i x hi hx) hlow fun v w' β' G' hv hle2 hx hkp hh hff=>hK _ _ β' G' ?_;have hkp':∀id,id<nx1→Z15 β β' (hL L m.objs.get ds) (hL L' m.objs.get ds) id:=fun id hid hf=>by
      obtain⟨q1,q2,q3⟩:=hkp id hid hf;exact⟨by rw[heq];exact q1,q2,q3⟩
    have hff':∀id,nx2≤id→ZS β' (hL L' m.objs.get ds) id:=fun id hid=>by
      have:=hff id hid;exact⟨this.blk,this.hdr,by rw[heq];exact this.h⟩
    refine hnext v w' β' G' hv hx hh (fun id hid=>hkp' id (by omega)) (fun id hid=>hff' id (by omega)) (fun j hjs hne hf=>(hkp' _ (by omega)).fresh hf) fun j dj lo hi hj hn hlj id hl1 hl2=>?_
    have hjk:j≠k:=fun e=>by subst e;rw[hL',if_pos rfl]at hlj;cases hlj
    rw[hL',if_neg hjk]at hlj;rcases Zfc hs k d nx1 nx2 j dj lo hi h1 r4 hj hn hjk with q|q
    · rw[hanc_all d h1 j q]at hlj;cases hlj
    · exact hff' id (by omega)
theorem Z4W {L:Nat→Bool} {nx0:Nat}:∀{ds:List (Nat×YK)} {k nx:Nat},Z38 E call callH callY V nt ops b m k nx ds→(∀j d,(j,d)∈ds→L j=true) →
    (∀t,Z1K L (Y0 V m.base m.loc) ds t=Y0 V (YW V nt ds { m with next:=nx0 }).base (YW V nt ds { m with next:=nx0 }).loc t)∧(∀id,hL L m.objs.get ds id=(YW V nt ds { m with next:=nx0 }).objs.get id)∧(YW V nt ds { m with next:=nx0 }).next=nx0 ∧
      ((∀t d,m.base.get t=some d→Nat.testBit V t=true)→∀t d,(YW V nt ds { m with next:=nx0 }).base.get t=some d→Nat.testBit V t=true)
  | [],k,_,_,_=>⟨fun _=>rfl,fun _=>rfl,rfl,fun h=>h⟩
  | (j,d)::ds,k,nx,hs,hl=>by
    obtain⟨_,_,⟨o,ho⟩,h4⟩:=hs;obtain⟨k1,k2,k3,k4⟩:=Z4W (nx0:=nx0) h4 (fun i e hi=>hl i e (by simp[hi]))
    have hlj:=hl j d (by simp)
    simp only[YW];obtain⟨p1,p2⟩:=Z3O V nt ({ YW V nt ds { m with next:=nx0 }with objs:=Ya (YW V nt ds { m with next:=nx0 }).objs d.out.upd }:Mid) d.dst d.out.val
    refine⟨fun t=>?_,fun id=>?_,by rw[p2];exact k3,fun hd=>Zf0 V nt _ d.dst d.out.val (k4 hd)⟩
    · rw[ZcV]
      simp only[Z1K,hlj,true_and]
      by_cases e:d.dst=some t
      · rw[if_pos e,if_pos ⟨e,ho.fits t (by rw[←ho.dst];exact e)⟩]
      · rw[if_neg e,if_neg (fun q=>e q.1)];exact k1 t
    · rw[p1,Z2z]
      simp only[hL,hlj,if_true];unfold ZK;cases Zw id d.out.upd with
      | some x=>rfl
      | none=>exact k2 id
theorem DS.full {ds:List (Nat×YK)} {k nx:Nat} (hs:Z38 E call callH callY V nt ops b m k nx ds) {L:Nat→Bool} (hl:∀j d,(j,d)∈ds→L j=true) {β0:Bi} {Gz:Gh} {hz:Nat→Option Zd} (hst:DS E w0 G0 outer V nt own ops b nx m ds L β0 Gz hz a w β G) :
    MM E w0 G0 outer V nt own (YW V nt ds { m with next:=nx }) a w β G∧Go2 b β0 Gz β G hz (YW V nt ds { m with next:=nx }).objs.get∧(YW V nt ds { m with next:=nx }).next=nx:=by
  obtain⟨k1,k2,k3,k4⟩:=Z4W (nx0:=nx) hs hl;have hf:∀id,ZS β (hL L m.objs.get ds) id→ZS β (YW V nt ds { m with next:=nx }).objs.get id:=fun id h=>⟨h.blk,h.hdr,by rw[←k2];exact h.h⟩
  refine⟨⟨fun t d ht=>hst.fr t d (by rw[k1];exact ht),k4 hst.dom,hst.sz,hst.hr.eq fun i=>(k2 i).symm,fun id hid=>hf id (hst.fresh id (by rw[←k3];exact hid)),hst.df⟩,⟨hst.go.ext,fun id hid hn=>?_⟩,k3⟩
  obtain⟨q1,q2,q3⟩:=hst.go.keep id hid hn;exact⟨by rw[←k2];exact q1,q2,q3⟩
end
end Go.Ab
namespace Go.Ab
open Go.RowKit
section
variable {P:Program} {E:Env} {w0:World} {G0:Gh} {outer:DD} {own:List Nat} {V nt:Nat} {a:Act} {w:World} {β:Bi} {G:Gh} {ro:Option Nat} {n:Nat} {call:Nat→List DV→Option DV} {callH callY:Yj} {ops:Array Oper} {b:Nat} {m:Mid} {c:Nat}
theorem Z9V {p p':Nat→Bool}:∀{l:List Nat} {x:Nat},x∈l→p x=true→p' x=false→(∀y,p' y=true→p y=true)→l.countP p'+1≤l.countP p
  | [],_,h,_,_,_=>by cases h
  | y::l,x,h,h1,h2,h3=>by
    have hle:l.countP p'≤l.countP p:=List.countP_mono_left fun z _ hz=>h3 z hz;rw[List.countP_cons,List.countP_cons];rcases List.mem_cons.1 h with rfl|h
    · rw[if_pos h1,if_neg (by rw[h2];simp)];omega
    · have:=Z9V h h1 h2 h3
      by_cases e:p' y=true
      · rw[if_pos e,if_pos (h3 y e)];omega
      · rw[if_neg e];split<;>omega
def lst (listed:Array Bool) (j:Nat):Bool:=listed.getD j false
def cnt (N:Nat) (listed:Array Bool):Nat:=(List.range N).countP fun j => !lst listed j
theorem Zb1 {listed:Array Bool} {i:Nat} (hi:i<listed.size) (j:Nat):lst (listed.setIfInBounds i true) j=if j=i then true else lst listed j:=by
  unfold lst
  by_cases e:j=i
  · subst e;simp[hi]
  · have:i≠j:=fun h=>e h.symm
    simp[e,Array.getElem?_setIfInBounds_ne this]
theorem Zhv {listed:Array Bool} {i:Nat} (hi:i<listed.size) (hl:lst listed i=false):cnt listed.size (listed.setIfInBounds i true)+1≤cnt listed.size listed:=by
  unfold cnt;refine Z9V (x:=i) (List.mem_range.2 hi) (by simp[hl]) (by simp[Zb1 hi]) fun y hy=>?_
  rw[Zb1 hi]at hy
  by_cases e:y=i
  · rw[if_pos e]at hy;simp at hy
  · rw[if_neg e]at hy;exact hy
theorem Zgf {N:Nat} {listed:Array Bool} (h:cnt N listed=0):∀j,j<N→lst listed j=true:=fun j hj=>by
  have:=List.countP_eq_zero.1 h j (List.mem_range.2 hj);simpa using this
theorem Z7o {listed:Array Bool} (hsz:listed.size=ops.size) {j:Nat}:j∈Region.ready .any ops listed↔lst listed j=false∧∃o,ops[j]? = some o∧∀e∈o.after,Region.binds .any e=true→lst listed e.on=true:=by
  rw[mem_ready];constructor
  · rintro⟨h1,o,h2,h3⟩
    have hlt:j<listed.size:=by rw[hsz];exact(Array.getElem?_eq_some_iff.1 h2).1
    refine⟨?_,o,h2,h3⟩;unfold lst;simp[hlt]at h1⊢;exact h1
  · rintro⟨h1,o,h2,h3⟩
    have hlt:j<listed.size:=by rw[hsz];exact(Array.getElem?_eq_some_iff.1 h2).1
    refine⟨?_,o,h2,h3⟩;unfold lst at h1;simp[hlt]at h1⊢;exact h1
theorem Zfr (hE:∀t ti,E.ty t=some ti→ZX P t ti) (hp:Z37 P E call) (hH:YY P E callH) (hY:Z1g P E callY) {Q:Exit→Act→World→Prop} {β0:Bi} {Gz:Gh} {hz:Nat→Option Zd} {m:Mid} {ds:List (Nat×YK)} {nx:Nat} (hs:Z38 E call callH callY V nt ops b m ops.size nx ds) (hle:b+ops.size≤m.next)
    (hq:∀a' w' β' G',MM E w0 G0 outer V nt own (YW V nt ds { m with next:=nx }) a' w' β' G'→Go2 b β0 Gz β' G' hz (YW V nt ds { m with next:=nx }).objs.get→Q .normal a' w') :
    ∀(fuel:Nat) (listed:Array Bool) (a:Act) (w:World) (β:Bi) (G:Gh),listed.size=ops.size→cnt ops.size listed≤fuel→DS E w0 G0 outer V nt own ops b nx m ds (lst listed) β0 Gz hz a w β G→wpAnyIn (fw ro) n P .any ops Q fuel listed a w:=by
  intro fuel
  induction fuel with
  | zero =>
    intro listed a w β G hsz hcnt hst;have hall:=Zgf (Nat.le_zero.1 hcnt);have hr:Region.ready .any ops listed=[]:=by
      cases hrr:Region.ready .any ops listed with
      | nil=>rfl
      | cons j l =>
        obtain⟨h1,o,h2,_⟩:=(Z7o (j:=j) hsz).1 (by rw[hrr];simp)
        rw[hall j (Array.getElem?_eq_some_iff.1 h2).1]at h1;cases h1
    obtain⟨f1,f2,_⟩:=hst.full hs fun j d hj=>hall j (Zbr hs j d hj);exact⟨hr,hq a w β G f1 f2⟩
  | succ fuel ihf =>
    intro listed a w β G hsz hcnt hst;refine⟨fun hr=>?_,fun i hi=>?_⟩
    ·
      have hall:∀j,j<ops.size→lst listed j=true:=fun j=>by
        induction j using Nat.strongRecOn with
        | _ j ihj =>
          intro hj;obtain⟨d,tl,o,_,_,_,h2,_⟩:=Zha hs j hj;cases hlj:lst listed j with
          | true=>rfl
          | false =>
            have:j∈Region.ready .any ops listed:=(Z7o hsz).2 ⟨hlj,o,h2.op,fun e he hb=>ihj e.on (h2.edges e he hb) (by have:=h2.edges e he hb;omega)⟩
            rw[hr]at this;cases this
      obtain⟨f1,f2,_⟩:=hst.full hs fun j d hj=>hall j (Zbr hs j d hj);exact hq a w β G f1 f2
    · obtain⟨hli,o,hoi,hed⟩:=(Z7o hsz).1 hi
      have hilt:=(Array.getElem?_eq_some_iff.1 hoi).1;have hset:=Zb1 (listed:=listed) (i:=i) (by omega)
      have hcnt':cnt ops.size (listed.setIfInBounds i true)≤fuel:=by
        have:=Zhv (listed:=listed) (i:=i) (by omega) hli
        rw[hsz]at this;omega
      exact Zif hE hp hH hY hs hilt hle hli hset hoi hed hst fun a' w' β' G' hst'=>ihf _ a' w' β' G' (by simpa using hsz) hcnt' hst'
theorem Zdo (hE:∀t ti,E.ty t=some ti→ZX P t ti) (hp:Z37 P E call) (hH:YY P E callH) (hY:Z1g P E callY) {Q:Exit→Act→World→Prop} {m mf:Mid}
    (hd:Z1a E call callH callY V nt ops b 0 ops.toList m []=some mf) (hle:b+ops.size≤m.next) (hfr:∀j,j<ops.size→ZS β m.objs.get (b+j)) (hm:MM E w0 G0 outer V nt own m a w β G)
    (hq:∀a' w' β' G',m.next≤mf.next→MM E w0 G0 outer V nt own mf a' w' β' G'→Go2 b β G β' G' m.objs.get mf.objs.get→Q .normal a' w') :
    wpAnyIn (fw ro) n P .any ops Q ops.size (Array.replicate ops.size false) a w:=by
  obtain⟨nx,ds,hs,rfl⟩:=Z47 (m:=m) ops.toList 0 mf m.next [] hd rfl ⟨rfl,rfl⟩ (Nat.zero_le _);have hno:∀j,lst (Array.replicate ops.size false) j=false:=fun j=>by
    unfold lst
    by_cases e:j<ops.size
    · simp[e]
    · simp[e]
  obtain⟨hnx,hcalls⟩:=Zbq hs;have e1:∀(l:List (Nat×YK)) t,Z1K (lst (Array.replicate ops.size false)) (Y0 V m.base m.loc) l t=Y0 V m.base m.loc t:=fun l t=>by
    induction l with
    | nil=>rfl
    | cons p l ihl =>
      obtain⟨i,e⟩:=p;simp only[Z1K,hno i,Bool.false_eq_true,false_and,if_false];exact ihl
  have e2:∀(l:List (Nat×YK)) id,hL (lst (Array.replicate ops.size false)) m.objs.get l id=m.objs.get id:=fun l id=>by
    induction l with
    | nil=>rfl
    | cons p l ihl =>
      obtain⟨i,e⟩:=p;simp only[hL,hno i,Bool.false_eq_true,if_false];exact ihl
  have hF:∀id,ZS β m.objs.get id→ZS β (hL (lst (Array.replicate ops.size false)) m.objs.get ds) id:=fun id h=>⟨h.blk,h.hdr,by rw[e2];exact h.h⟩
  have hnext:(YW V nt ds { m with next:=nx }).next=nx:=(Z4W (L:=fun _=>true) (nx0:=nx) hs fun _ _ _=>rfl).2.2.1
  refine Zfr hE hp hH hY hs hle (fun a' w' β' G' h1 h2=>hq a' w' β' G' (by rw[hnext];exact hnx) h1 h2) ops.size _ a w β G (by simp) (by unfold cnt;exact Nat.le_trans (List.countP_le_length) (by simp))
    ⟨fun t d ht=>hm.fr t d (by rw[←e1];exact ht),hm.dom,hm.sz,hm.hr.eq (e2 ds),fun id hid=>hF id (hm.fresh id (by omega)),hm.df,fun j hj _=>hF _ (hfr j hj),(fun j d lo hi hj hn _ id h1 _=>hF id (hm.fresh id (by have:=(hcalls j d lo hi hj hn).1;omega))),
      (fun j d hj hlj=>by rw[hno j]at hlj;cases hlj),⟨Ext.refl _ _,fun id hid hn=>⟨by rw[e2];exact hn,rfl,fun _=>rfl⟩⟩⟩
end
end Go.Ab
namespace Go.Ab
open Go.RowKit
def Zjb:Ex→Exit
  | .normal=>.normal
  | .exit id=>.exit id
  | .ret=>.ret
  | .busy=>.outgrown
section
variable {P:Program} {E:Env} {w0:World} {G0:Gh} {outer:DD} {own:List Nat} {D:DD} {V nt:Nat} {a:Act} {w:World} {β:Bi} {G:Gh} {ro:Option Nat} {n:Nat} {h:Nat→Option Zd}
theorem Z5r {F:Fence} {c:Code} {Q:Exit→Act→World→Prop} (h:c.wpIn F n P (fun e a w=>match e with | .goto _=>False|e=>Q e a w) a w):(Code.scope c).wpIn F n P Q a w:=by
  intro b k cs hro hb hr;have h0:(lone (b.atR a (.code (.scope c)::k)) cs w).fenced P F:=fenced_calm hb hr rfl;have s1:step P (lone (b.atR a (.code (.scope c)::k)) cs w)=.next (lone (b.atR a (.code c::.inScope c::k)) cs w):=step_lone_go (by simp[stepG,stepG.exec,Frame.atR])
  obtain⟨e,a₁,w₁,hq,harr⟩:=h b (.inScope c::k) cs hro hb hr;cases e with
  | normal=>exact⟨.normal,a₁,w₁,hq,.head h0 s1 (StepsIn.trans harr (.one (fenced_calm hb hr rfl) (step_lone_go (by simp[stepG,stepG.exec,Frame.atR]))))⟩
  | exit id =>
    have hx:exitTo id (.inScope c::k)=exitTo id k:=by simp[exitTo]
    exact⟨.exit id,a₁,w₁,hq,fun k' hk=>.head h0 s1 (harr.1 k' (by rw[hx];exact hk)),
      fun hr' hk=>let⟨k₁,h1,h2⟩:=harr.2 hr' (by rw[hx];exact hk);⟨k₁,h1,.head h0 s1 h2⟩⟩
  | goto l=>exact hq.elim
  | ret=>exact⟨_,a₁,w₁,hq,.of_steps (.one h0 s1) harr⟩
  | panic ch=>exact⟨_,a₁,w₁,hq,.of_steps (.one h0 s1) harr⟩
  | outgrown=>exact⟨_,a₁,w₁,hq,.of_steps (.one h0 s1) harr⟩
theorem SS.mid {s:St} (hm:SS E w0 G0 outer V nt own s a w β G) (k:Nat):MM E w0 G0 outer V nt own ⟨s.base,[],s.objs,s.next+k⟩ a w β G:=by
  refine⟨fun t d ht=>?_,hm.dom,hm.sz,hm.hr,fun id hid=>hm.fresh id (by have:s.next+k≤id:=hid;omega),hm.df⟩
  unfold Y0 at ht;cases hv:Nat.testBit V t with
  | true=>rw[hv]at ht;exact hm.fr t d ht
  | false=>rw[hv]at ht;cases ht
theorem MM.st {m:Mid} (hm:MM E w0 G0 outer V nt own m a w β G):SS E w0 G0 outer V nt own ⟨m.base,m.objs,m.next⟩ a w β G:=by
  refine⟨fun t d ht=>hm.fr t d ?_,hm.dom,hm.sz,hm.hr,hm.fresh,hm.df⟩;unfold Y0;rw[hm.dom t d ht];exact ht
theorem SS.drew {s:St} (hm:SS E w0 G0 outer V nt own s a w β G) (k:Nat):SS E w0 G0 outer V nt own s a { w with drawn:=k } β G :=
  ⟨hm.fr,hm.dom,hm.sz,hm.hr.drew k,hm.fresh,hm.df⟩
theorem HR.mark (hh:HR E w0 G0 D w β G h):HR E w0 G0 (YR [w.heap.size] D) (w.alloc (.deferred (some []))) β G h:=by
  have hnew:∀b,b<w.heap.size→(w.alloc (.deferred (some []))).heap[b]? = w.heap[b]? := fun b hb=>Below.heap_alloc w _ b hb;refine⟨hh.below.alloc hh.below.size _,hh.g0,fun b o v hg=>?_,fun i o hi=>?_,fun i o b hi hb=>?_,hh.inj,fun d x hd=>?_,hh.inv0⟩
  · have hc:=hh.agree b o v hg
    have hlt:=block_lt_of_cell hc;exact(World.cell?_of_block (w:=w) (w':=w.alloc (.deferred (some []))) (a:=⟨b,o,none⟩) (hnew b hlt)).trans hc
  · exact Z2n.keep (Ext.refl _ _) (fun _=>rfl) (fun b hb=>⟨hnew b (hh.own i o b hi hb).2.1,fun _=>rfl⟩) (hh.obj i o hi)
  · obtain⟨k1,k2,k3⟩:=hh.own i o b hi hb
    refine⟨k1,by simp;omega,?_⟩
    unfold YR;rw[if_neg (by simp;omega)]
    exact k3
  · unfold YR at hd
    by_cases e:d=w.heap.size
    · subst e
      rw[if_pos (by simp)]at hd
      cases hd;exact⟨hh.below.size,heap_alloc_new w _,fun o=>glt hh (Nat.le_refl _) o⟩
    · rw[if_neg (by simpa using e)]at hd
      obtain⟨k1,k2,k3⟩:=hh.marks d x hd;exact⟨k1,(hnew d (Array.getElem?_eq_some_iff.1 k2).1).trans k2,k3⟩
theorem HR.drop (hh:HR E w0 G0 D w β G h) {id b:Nat} {o:Zd} {ob ob':Obj} (ho:h id=some o) (hown:Yv β id o b) (hb:w.heap[b]? = some ob) (hnc:∀c t f,ob≠.cells c t f) :
    HR E w0 G0 D (w.putObj b ob') β G (fun i=>if i=id then none else h i):=by
  obtain⟨k1,_,k3⟩:=hh.own id o b ho hown;have hget:∀i x,(if i=id then none else h i)=some x→i≠id∧h i=some x:=fun i x hi=>by
    by_cases e:i=id
    · rw[if_pos e]at hi;cases hi
    · rw[if_neg e]at hi;exact⟨e,hi⟩
  have hother:∀i x c,i≠id→h i=some x→Yv β i x c→c≠b:=fun i x c hi hx hc e=>hi (hh.inj i id x o b hx ho (e▸hc) hown);refine⟨hh.below.trans ⟨rfl,rfl,rfl,by simp,fun k hk=>World.putObj_heap_other (by omega)⟩,hh.g0,fun c off v hg=>?_,fun i x hi=>?_,fun i x c hi hc=>?_,fun i j x y c hi hj hc hc'=>?_,fun d x hd=>?_,hh.inv0⟩
  · have hc:=hh.agree c off v hg
    by_cases e:c=b
    · subst e
      unfold World.cell? at hc;rw[hb]at hc;cases ob<;>first|cases hc|exact absurd rfl (hnc _ _ _)
    · exact(World.cell?_of_block (w:=w) (w':=w.putObj b ob') (a:=⟨c,off,none⟩) (World.putObj_heap_other e)).trans hc
  · obtain⟨hne,hx⟩:=hget i x hi
    exact Z2n.keep (Ext.refl _ _) (fun _=>rfl) (fun c hc=>⟨World.putObj_heap_other (hother i x c hne hx hc),fun _=>rfl⟩) (hh.obj i x hx)
  · obtain⟨hne,hx⟩:=hget i x hi
    obtain⟨m1,m2,m3⟩:=hh.own i x c hx hc;exact⟨m1,by simpa using m2,m3⟩
  · exact hh.inj i j x y c (hget i x hi).2 (hget j y hj).2 hc hc'
  · obtain⟨m1,m2,m3⟩:=hh.marks d x hd
    exact⟨m1,(World.putObj_heap_other (fun e=>by rw[e,k3]at hd;cases hd)).trans m2,m3⟩
def Zg2 (E:Env) (w0:World) (G0:Gh) (outer:DD) (V nt:Nat) (s:St) (β:Bi) (G:Gh) (ex:Ex) (s':St) (Q:Exit→Act→World→Prop):Prop :=
  ∀own' a' w' β' G',s.next≤s'.next→SS E w0 G0 outer V nt own' s' a' w' β' G'→Go2 s.next β G β' G' s.objs.get s'.objs.get→Q (Zjb ex) a' w'
def Z9Q (rnd ro:Option Nat) (β:Bi):Prop:=match rnd with
  | none=>ro=none
  | some l=>∃b,ro=some b∧β.blk l=some b
theorem Z9Q.mono {rnd ro:Option Nat} {β':Bi} {G G':Gh} (hx:Ext β G β' G') (h:Z9Q rnd ro β):Z9Q rnd ro β':=by
  cases rnd with
  | none=>exact h
  | some l=>obtain⟨b,h1,h2⟩:=h;exact⟨b,h1,hx.blk _ _ h2⟩
theorem Zg8 {n0:Nat} {β β1 β':Bi} {G G1:Gh} {h h1 h':Nat→Option Zd} (hf:∀id,n0≤id→ZS β h id) (hg:Go2 n0 β G β1 G1 h h1) (ha:Z4x n0 β1 β') (hn:∀i,i<n0→h1 i=none→h' i=none):Go2 n0 β G β' G1 h h':=by
  have hlt:∀id b,β.blk id=some b→id<n0:=fun id b hb=>by
    rcases Nat.lt_or_ge id n0 with h|h
    · exact h
    · rw[(hf id h).blk]at hb;cases hb
  have hlt2:∀id u v,β.hdr id u=some v→id<n0:=fun id u v hb=>by
    rcases Nat.lt_or_ge id n0 with h|h
    · exact h
    · rw[(hf id h).hdr]at hb;cases hb
  refine⟨⟨hg.ext.g,fun id b hb=>?_,fun id u v hb=>?_⟩,fun id hid hfr=>?_⟩
  · rw[ha.blk id (hlt id b hb)];exact hg.ext.blk id b hb
  · rw[ha.hdr id (hlt2 id u v hb)];exact hg.ext.hdr id u v hb
  · obtain⟨q1,q2,q3⟩:=hg.keep id hid hfr
    exact⟨hn id hid q1,(ha.blk id hid).trans q2,fun u=>(ha.hdr id hid u).trans (q3 u)⟩
theorem Z8V {c:Code} {hint:Z3E} {step:St→Option (Ex×St)} {rnd:Option Nat} {s0:St} {β0:Bi} {Gx:Gh} (hf0:∀id,s0.next≤id→ZS β0 s0.objs.get id)
    (hstep:∀s ex s',step s=some (ex,s')→∀own a w β G Q,Z9Q rnd ro β→SS E w0 G0 outer V nt own s a w β G→Zg2 E w0 G0 outer V nt s β G ex s' Q→c.wpIn (fw ro) n P Q a w) {ex:Ex} {s':St} {Q:Exit→Act→World→Prop}
    (hr0:Z9Q rnd ro β0) (hq:Zg2 E w0 G0 outer V nt s0 β0 Gx ex s' Q) :
    ∀(m:Nat) (s:St) (own:List Nat) (a:Act) (w:World) (β:Bi) (G:Gh),iter (Zcp E hint s0.next) step m s=some (ex,s')→SS E w0 G0 outer V nt own s a w β G→Go2 s0.next β0 Gx β G s0.objs.get s.objs.get→Code.roundsIn (fw ro) n P c Q m a w
  | 0,s,own,a,w,β,G,h,_,_=>by cases h
  | m+1,s,own,a,w,β,G,h,hm,hg=>by
    simp only[iter]at h;obtain⟨s1,hn,h⟩:=Z0 h;obtain⟨⟨ex1,s2⟩,hs,h⟩:=Z0 h;obtain⟨β1,hm1,hag,hnone,hle⟩:=ZdE hn hm;have hg1:=Zg8 hf0 hg hag hnone;rw[roundsIn_succ];refine hstep s1 ex1 s2 hs own a w β1 G _ (hr0.mono hg1.ext) hm1 fun own' a' w' β' G' hl hm2 hg2=>?_;have hg3:=hg1.trans (hg2.less hle);cases ex1 with
    | normal=>exact Z8V hf0 hstep hr0 hq m s2 own' a' w' β' G' h hm2 hg3
    | _ =>
      simp only[Option.some.injEq,Prod.mk.injEq]at h;obtain⟨rfl,rfl⟩:=h;exact hq own' a' w' β' G' (by omega) hm2 hg3
theorem Zdt {hints:List Z3E} {bid:Nat} {s0 s:St} (h:(match(hints.find? fun h=>Nat.beq h.bid bid:Option Z3E)with
      | some hint=>(Yl E s0.next 0 hint.accs (s0.base,s0.objs)).bind fun r=>some (St.mk r.1 r.2 (s0.next+hint.accs.length))
      | none=>some s0)=some s) (hm:SS E w0 G0 outer V nt own s0 a w β G):∃β',SS E w0 G0 outer V nt own s a w β' G∧Go2 s0.next β G β' G s0.objs.get s.objs.get∧s0.next≤s.next:=by
  split at h
  · rename_i hint _
    obtain⟨r,hr,h⟩:=Z0 h;cases h;obtain⟨β',k1,k2,k3,k4,k5,k6,k7⟩:=Z2e a.tmps V hint.accs 0 s0.base s0.objs β r hr hm.hr hm.fr hm.dom (fun i hi _=>hm.fresh i hi) (fun i hi=>(hm.fresh i (by omega)).h)
    refine⟨β',⟨k4,k5,hm.sz,k3,fun i hi=>k6 i (by simpa using hi),hm.df⟩,⟨k1,fun id hid hf=>⟨k7 id hid hf,k2.blk id hid,fun u=>k2.hdr id hid u⟩⟩,by show s0.next≤s0.next+hint.accs.length;omega⟩
  · cases h
    exact⟨β,hm,Go2.refl _ _ _ _,Nat.le_refl _⟩
theorem ZbS {s:St} {fid:Nat} {F:FI} (hF:E.fn fid=some F) (hm:SS E w0 G0 outer F.vmask F.nt own s a w β G) (hro:∀b,ro=some b→∃r,w.heap[b]? = some (.loop r)) (fn:FuncId) (ps:Array Tmp) (assign body:Code) (bid:Nat) :
    ∃l mark w1 own1 β2,(Instr.enterLoop fn a.tmps ps assign body ro).run P w=.ok (l,mark) w1∧(Z84 E own1 (mark++a.defers)∧ZaA own1 outer)∧Ext β G β2 G∧β2.blk s.next=some l ∧
      HR E w0 G0 (YR own1 outer) w1 β2 G (ZK s.objs.get [(s.next,some (.loop fid s.base ps.toList assign body bid .normal))])∧Z2C β β2 s.objs.get (ZK s.objs.get [(s.next,some (.loop fid s.base ps.toList assign body bid .normal))]) s.next:=by
  have hfr:=hm.fresh s.next (Nat.le_refl _);have hob:∀(w':World) (D:DD) (df:Nat),HR E w0 G0 D w' β G s.objs.get→∀β',Ext β G β' G→β'.blk s.next=some w'.heap.size →
      Z2n E w0.heap.size (w'.alloc (.loop { state:=.ready,pending:=none,fn,tmps:=a.tmps,params:=ps,assign,body,defers:=df })) β' G s.next (.loop fid s.base ps.toList assign body bid .normal):=fun w' D df _ β' hx hb =>
    ⟨_,a.tmps,df,fn,F,hb,by rw[heap_alloc_new];simp[YV],hm.fr.mono hx,hF,hm.sz,hm.dom⟩
  cases ro with
  | none =>
    have hh1:=hm.hr.mark;obtain⟨β2,h1,h2,h3,h4⟩:=hh1.lay hfr (.loop { state:=.ready,pending:=none,fn,tmps:=a.tmps,params:=ps,assign,body,defers:=w.heap.size }) (.loop fid s.base ps.toList assign body bid .normal) (by simp) (hob _ _ _ hh1)
    refine⟨w.heap.size+1,[ZgM w.heap.size],_,w.heap.size::own,β2,run_enterLoop_outer fn a.tmps ps assign body,⟨Z84.mark _ hm.df.1,List.nodup_cons.2 ⟨(Z4h (hm.hr.dfree (Nat.le_refl _))).1,hm.df.2.1⟩,fun b hb=>?_⟩,h1,by simpa using h2,by rw[Z5A];exact h3,h4⟩
    rcases List.mem_cons.1 hb with rfl|hb
    · exact(Z4h (hm.hr.dfree (Nat.le_refl _))).2
    · exact hm.df.2.2 b hb
  | some b =>
    obtain⟨r,hr⟩:=hro b rfl;obtain⟨β2,h1,h2,h3,h4⟩:=hm.hr.lay hfr (.loop { state:=.ready,pending:=none,fn,tmps:=a.tmps,params:=ps,assign,body,defers:=r.defers }) (.loop fid s.base ps.toList assign body bid .normal) (by simp) (hob _ _ _ hm.hr)
    refine⟨w.heap.size,[],_,own,β2,?_,⟨by simpa using hm.df.1,hm.df.2⟩,h1,h2,h3,h4⟩
    unfold Instr.enterLoop;simp only[Sem.run_bind,run_getLoop hr,run_newObj_alloc,Result.andThen,Sem.run_pure]
theorem Zfd {E:Env} {w0:World} {G0:Gh} {outer:DD} {own:List Nat} {V nt m:Nat} {s:St} {a:Act} {w:World} {β:Bi} {G:Gh} (h:SS E w0 G0 outer V nt own s a w β G):SS E w0 G0 outer V nt own (s.keep m) a w β G :=
  ⟨fun t d ht=>h.fr t d (Tr.filt_sub ht),fun t d ht=>h.dom t d (Tr.filt_sub ht),h.sz,h.hr,h.fresh,h.df⟩
theorem Z8W (F:FI) (id:Nat) (s:St):(s.keepX F id).objs=s.objs∧(s.keepX F id).next=s.next:=by
  unfold St.keepX;cases F.xm.find? fun p=>Nat.beq p.1 id<;>exact⟨rfl,rfl⟩
theorem Zhd {E:Env} {w0:World} {G0:Gh} {outer:DD} {own:List Nat} {V nt:Nat} {F:FI} {id:Nat} {s:St} {a:Act} {w:World} {β:Bi} {G:Gh} (h:SS E w0 G0 outer V nt own s a w β G):SS E w0 G0 outer V nt own (s.keepX F id) a w β G:=by
  unfold St.keepX;cases F.xm.find? fun p=>Nat.beq p.1 id with
  | none=>exact h
  | some p=>exact Zfd h
theorem Z75 (hE:∀t ti,E.ty t=some ti→ZX P t ti) (hmix:P.follows .mixedOrders=true) {call:Nat→List DV→Option DV} (hp:Z37 P E call) {callH callY:Yj} (hH:YY P E callH) (hY:Z1g P E callY)
    {rnd:Option Nat} {fid:Nat} {F:FI} (hF:E.fn fid=some F) (fuel:Nat):∀(c:Code) (bid:Nat) (s:St) (ex:Ex) (s':St),evC E rnd fid F call callH callY fuel bid c s=some (ex,s') →
      ∀(own:List Nat) (a:Act) (w:World) (β:Bi) (G:Gh) (Q:Exit→Act→World→Prop),Z9Q rnd ro β→SS E w0 G0 outer F.vmask F.nt own s a w β G→Zg2 E w0 G0 outer F.vmask F.nt s β G ex s' Q→c.wpIn (fw ro) n P Q a w:=by
  intro c
  induction c with
  | skip =>
    intro bid s ex s' h own a w β G Q _ hm hq;simp only[evC,Option.some.injEq,Prod.mk.injEq]at h;obtain⟨rfl,rfl⟩:=h;exact wpIn_skip (hq own a w β G (Nat.le_refl _) hm (Go2.refl _ _ _ _))
  | label l =>
    intro bid s ex s' h own a w β G Q _ hm hq;simp only[evC,Option.some.injEq,Prod.mk.injEq]at h;obtain⟨rfl,rfl⟩:=h;exact wpIn_label (hq own a w β G (Nat.le_refl _) hm (Go2.refl _ _ _ _))
  | ret =>
    intro bid s ex s' h own a w β G Q _ hm hq;simp only[evC,Option.some.injEq,Prod.mk.injEq]at h;obtain⟨rfl,rfl⟩:=h;exact wpIn_ret (hq own a w β G (Nat.le_refl _) (Zfd hm) (Go2.refl _ _ _ _))
  | exit id =>
    intro bid s ex s' h own a w β G Q _ hm hq;simp only[evC,Option.some.injEq,Prod.mk.injEq]at h;obtain⟨rfl,rfl⟩:=h;refine wpIn_exit (hq own a w β G ?_ ?_ ?_)
    · rw[(Z8W F id s).2];exact Nat.le_refl _
    · exact Zhd hm
    · rw[(Z8W F id s).1];exact Go2.refl _ _ _ _
  | scope c ih =>
    intro bid s ex s' h own a w β G Q hr hm hq;simp only[evC]at h;refine Z5r (ih bid s ex s' h own a w β G _ hr hm fun own' a' w' β' G' h1 h2 h3=>?_);have:=hq own' a' w' β' G' h1 h2 h3;cases ex<;>exact this
  | block id c ih =>
    intro bid s ex s' h own a w β G Q hr hm hq;simp only[evC]at h;obtain⟨⟨ex1,s1⟩,h1,h⟩:=Z0 h;refine wpIn_block (ih id s ex1 s1 h1 own a w β G _ hr hm fun own' a' w' β' G' k1 k2 k3=>?_);cases ex1 with
    | exit i =>
      simp only[Zjb,Exit.inBlock];simp only[Tr.beq_dec]at h
      by_cases e:i=id
      · simp only[e,decide_true,cond_true,Option.some.injEq,Prod.mk.injEq]at h
        obtain⟨rfl,rfl⟩:=h;rw[if_pos e];exact hq own' a' w' β' G' k1 k2 k3
      · simp only[e,decide_false,cond_false,Option.some.injEq,Prod.mk.injEq]at h
        obtain⟨rfl,rfl⟩:=h;rw[if_neg e];exact hq own' a' w' β' G' k1 k2 k3
    | _ =>
      simp only[Option.some.injEq,Prod.mk.injEq]at h;obtain⟨rfl,rfl⟩:=h;exact hq own' a' w' β' G' k1 k2 k3
  | seq x y ihx ihy =>
    intro bid s ex s' h own a w β G Q hr hm hq;simp only[evC]at h;obtain⟨⟨ex1,s1⟩,h1,h⟩:=Z0 h;refine wpIn_seq (ihx bid s ex1 s1 h1 own a w β G _ hr hm fun own' a' w' β' G' k1 k2 k3=>?_);cases ex1 with
    | normal =>
      refine ihy bid s1 ex s' h own' a' w' β' G' Q (hr.mono k3.ext) k2 fun own'' a'' w'' β'' G'' m1 m2 m3=>?_;exact hq own'' a'' w'' β'' G'' (Nat.le_trans k1 m1) m2 (k3.trans (m3.less k1))
    | _ =>
      simp only[Option.some.injEq,Prod.mk.injEq]at h;obtain⟨rfl,rfl⟩:=h;exact hq own' a' w' β' G' k1 k2 k3
  | cond x c d ihc ihd =>
    intro bid s ex s' h own a w β G Q hr hm hq;simp only[evC]at h;split at h
    · rename_i t ht
      have hv:=ZM.1 (Zr hm.fr ht);cases t with
      | true=>exact wpIn_cond hv (ihc bid s ex s' h own a w β G Q hr hm hq)
      | false=>exact wpIn_cond hv (ihd bid s ex s' h own a w β G Q hr hm hq)
    · cases h
  | loop c ih =>
    intro bid s ex s' h own a w β G Q hr hm hq;simp only[evC]at h;obtain⟨hint,_,h⟩:=Z0 h;exact wpIn_loop_rounds fuel (Z8V (rnd:=rnd) hm.fresh (fun s1 ex1 s2 h1 own1 a1 w1 β1 G1 Q1 r1 m1 q1=>ih bid s1 ex1 s2 h1 own1 a1 w1 β1 G1 Q1 r1 m1 q1) hr hq fuel s own a w β G h hm (Go2.refl _ _ _ _))
  | region id ops draw =>
    intro bid s ex s' h own a w β G Q hr hm hq;simp only[evC]at h;obtain⟨s1,h1,h⟩:=Z0 h;simp only[Option.some.injEq,Prod.mk.injEq]at h;obtain⟨rfl,rfl⟩:=h;unfold Z2q at h1;obtain⟨mf,h2,h1⟩:=Z0 h1;cases h1;cases draw with
    | false =>
      refine wpIn_region_list (Z40 hE (df:=rnd.isNone) (fun hq=>by cases rnd with|none=>exact hr|some l=>cases hq) hp hH hY ops.toList 0 _ mf a w β G h2 (by simp) (fun j _ _=>hm.fresh _ (by omega)) (hm.mid ops.size) fun a' w' β' G' k1 k2 k3=>?_)
      exact hq own a' w' β' G' (Nat.le_trans (Nat.le_add_right _ _) k1) k2.st k3
    | true =>
      refine wpIn_region_any hmix (Zdo hE hp hH hY h2 (Nat.le_refl _) (fun j _=>hm.fresh _ (by omega)) ((hm.drew _).mid ops.size) fun a' w' β' G' k1 k2 k3=>?_)
      exact hq own a' w' β' G' (Nat.le_trans (Nat.le_add_right _ _) k1) k2.st k3
  | rangeFunc f ps assign body _ _ =>
    intro bid s0 ex s' h own a w β G Q hr hm hq;simp only[evC]at h;obtain⟨hin,h⟩:=Z3 h;obtain⟨s,hhint,h⟩:=Z0 h;obtain⟨β1,hm1,hg1,hle1⟩:=Zdt hhint hm;obtain⟨fv,hfv,h⟩:=Z0 h;split at h
    · rename_i g first caps
      obtain⟨⟨rv,objs',nx'⟩,hcall,h⟩:=Z0 h;simp only at h;obtain⟨hent,hcs⟩:=hH _ _ _ _ _ _ _ hcall;obtain⟨vf,vc,hv,hr1,hr2⟩:=Zbh.1 (Zr hm1.fr hfv);have hro:∀b,ro=some b→∃r,w.heap[b]? = some (.loop r):=fun b hb=>by
        cases rnd with
        | none=>rw[show ro=none from hr]at hb;cases hb
        | some lo =>
          obtain⟨b',e1,e2⟩:=hr;rw[e1]at hb;cases hb;simp only[Z6w]at hin;split at hin
          · rename_i hlo
            obtain⟨b2,_,_,_,_,k1,k2,_⟩:=hm.hr.obj lo _ hlo;rw[e2]at k1;cases k1;exact⟨_,k2⟩
          · cases hin
      refine wpIn_rangeFunc fun fn _=>?_;obtain⟨l,mark,w1,own1,β2,hrun,hdf,hx2,hb2,hh2,hk2⟩:=ZbS (P:=P) (ro:=ro) hF hm1 hro fn ps assign body bid;have hget:∀i,(s.objs.set s.next (some (.loop fid s.base ps.toList assign body bid .normal))).get i=ZK s.objs.get [(s.next,some (.loop fid s.base ps.toList assign body bid .normal))] i:=fun i=>by rw[Tr.get_set,ZV]
      have hfr2:∀id,id≠s.next→Z15 β1 β2 s.objs.get (s.objs.set s.next (some (.loop fid s.base ps.toList assign body bid .normal))).get id:=fun id hid hf=>by
        obtain⟨q1,q2,q3⟩:=hk2 id hid hf;exact⟨by rw[hget];exact q1,q2,q3⟩
      have hrep:Zi β2 G (first++[.yld s.next]++caps) (vf.toArray ++ #[Value.func (.yield l) #[] #[]]++vc.toArray).toList:=by
        have:=Z2W (Z2W (Zi.mono hx2 _ _ hr1) (Zb.2 ⟨_,[],rfl,Zf4.2 ⟨l,hb2,rfl⟩,Zn.2 rfl⟩)) (Zi.mono hx2 _ _ hr2);simpa using this
      have hC:=hcs w0 G0 (YR own1 outer) w1 β2 G _ (hh2.eq hget) (fun id hid=>(hfr2 id (by omega)).fresh (hm1.fresh id (by omega))) hrep
      refine⟨l,mark,w1,{ target:=.fn (.func g) vc.toArray,args:=vf.toArray ++ #[.func (.yield l) #[] #[]] },w1,g,_,w1,hrun,?_,fun _ _=>trivial,hent _ _,fun hq=>by simp[fw,Fence.wide]at hq,Z6h (Calls.mono hC fun e w' he=>?_)⟩
      · have hcst:a.eval (.const (.func (.yield l) #[] #[]))=.func (.yield l) #[] #[]:=rfl
        simp[resolve,hv,Deferred.ofValue,hcst]
      · obtain⟨v,β3,G3,rfl,hle3,hgo3,hh3,hfr3,_⟩:=he
        split at h
        · rename_i fid' bs' ps' as' bo' bid' ex' hob
          obtain⟨b3,tm3,df3,fn3,F3,k1,k2,_⟩:=hh3.obj s.next _ hob;have hbl:β3.blk s.next=some l:=hgo3.ext.blk _ _ hb2;rw[hbl]at k1;cases k1;have hdrop:=hh3.drop (ob':=.loop { state:=.exhausted,pending:=YV ex',fn:=fn3,tmps:=tm3,params:=ps'.toArray,assign:=as',body:=bo',defers:=df3 }) hob hbl k2 (by simp)
          have hst:(ex',({ s with objs:=objs'.set s.next none,next:=nx' }:St))=(ex,s')∧ex'≠.busy:=by
            cases ex'<;>simp only[Option.some.injEq,reduceCtorEq]at h<;>exact⟨h,by simp⟩
          obtain⟨hst,hnb⟩:=hst;simp only[Prod.mk.injEq]at hst;obtain⟨rfl,rfl⟩:=hst;have hget3:∀i,(objs'.set s.next none).get i=if i=s.next then none else objs'.get i:=fun i=>Tr.get_set _ _ _ _;have hfin:∀id,Z15 β3 β3 objs'.get (objs'.set s.next none).get id:=fun id hf=>⟨by
            rw[hget3]
            by_cases e:id=s.next
            · rw[if_pos e]
            · rw[if_neg e];exact hf,rfl,fun _=>rfl⟩
          have hend:(Instr.endLoop l).run P w'=.ok (YV ex') (w'.putObj l (.loop { state:=.exhausted,pending:=YV ex',fn:=fn3,tmps:=tm3,params:=ps'.toArray,assign:=as',body:=bo',defers:=df3 })) :=
            run_endLoop k2 (by cases ex'<;>simp at hnb⊢)
          have hQ:=hq own1 { a with defers:=mark++a.defers } (w'.putObj l (.loop { state:=.exhausted,pending:=YV ex',fn:=fn3,tmps:=tm3,params:=ps'.toArray,assign:=as',body:=bo',defers:=df3 })) β3 G3 (by show s0.next≤nx';omega)
            ⟨hm1.fr.mono (hx2.trans hgo3.ext),hm1.dom,hm1.sz,hdrop.eq hget3,fun id hid=>(hfin id).fresh (hfr3 id hid),hdf⟩
            (hg1.trans ⟨hx2.trans hgo3.ext,fun id hid=>((hfr2 id (by omega)).trans (hgo3.keep id (by omega))).trans (hfin id)⟩)
          refine⟨_,_,hend,?_⟩;cases ex' with
          | normal=>exact hQ
          | exit i=>exact wpIn_exit hQ
          | ret=>exact wpIn_ret hQ
          | busy=>exact absurd rfl hnb
        · cases h
    · cases h
  | _ =>
    intro bid s ex s' h own a w β G Q hr hm hq;simp[evC]at h
end
end Go.Ab
