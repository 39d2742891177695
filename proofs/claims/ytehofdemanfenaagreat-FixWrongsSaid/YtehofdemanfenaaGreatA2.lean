/- What the code of the program comes to on plain values. -/
import Derived.Test.YtehofdemanfenaaGreatA1
import Derived.OrdersIn
import Derived.RangeFuncIn
import Derived.Laws.StructEq
import Derived.ChangeKeysEq
set_option linter.unusedSectionVars false
set_option linter.unusedVariables false
set_option linter.unusedSimpArgs false
namespace Go.Ab
open Go.RowKit
section
variable {P:Program} {E:Env} {w0:World} {G0:Gh} {D:DD} {w:World} {β:Bi} {G:Gh} {h:Nat→Option Z8}
def Z2z (h:Nat→Option Z8) (i:Nat):Bool:=match h i with|some (.row _ _ p _)=>Nat.beq p 1|_=>false
theorem Zem (h:Nat→Option Z8) (is:List Nat):Zn h (is.filter (Z2z h))=[]:=by
 induction is with
 | nil=>rfl
 | cons i is ih =>
  rw [List.filter_cons]
  cases hq:Z2z h i with
  | false=>simpa using ih
  | true =>
   simp only [if_true,Zn,ih,List.append_nil]
   unfold Z2z at hq
   split at hq
   ·rename_i p _ hi
    rw [hi];simp only [hq,cond_true]
   ·cases hq
theorem Zbg {G':Gh} (hx:Ext β G β G') {is:List Nat} (hs:∀ i∈is.filter (Z2z h),Z3b E β G' h i) {hv:Nat→Option Z8} (hvw:∀ i∈is,∀ x,hv i=some x→h i=some x) {d:DV} {v:Value} (hm:∀ i∈Ze d,i∈is) (hr:Rep β G d v):Rep β G' (Z5x hv d) v:=by
 unfold Z5x
 split
 ·rename_i id ver
  split
  ·rename_i es p u ho'
   have ho:=hvw id (hm id (by simp [Ze])) _ ho'
   cases hq:Nat.beq p 1&&Nat.beq u ver with
   | false=>exact Rep.mono hx _ _ hr
   | true =>
    simp only [Bool.and_eq_true] at hq
    have hf:frz h (.rs id ver)=some (.sl es):=by simp [frz,ho,hq.2]
    refine (Z64 hx (fun i t es p u hi=>⟨p,hi⟩) hf (fun i hi=>hs i (List.mem_filter.2 ⟨hm i hi,?_⟩)) hr).1
    have:i=id:=by simpa [Ze] using hi
    subst this
    unfold Z2z
    rw [ho];exact hq.1
  ·exact Rep.mono hx _ _ hr
 ·exact Rep.mono hx _ _ hr
theorem Z9r {G':Gh} (hx:Ext β G β G') {is:List Nat} (hs:∀ i∈is.filter (Z2z h),Z3b E β G' h i) {hv:Nat→Option Z8} (hvw:∀ i∈is,∀ x,hv i=some x→h i=some x):∀ {ds:List DV} {vs:List Value},(∀ i∈Zf ds,i∈is)→Zd β G ds vs→Zd β G' (ds.map (Z5x hv)) vs
 | [],vs,_,hr=>by
  rw [Zo] at hr
  exact Zo.2 hr
 | d::ds,vs,hm,hr=>by
  obtain ⟨v,vs',rfl,h1,h2⟩:=Zc.1 hr
  exact Zc.2 ⟨v,vs',rfl,Zbg hx hs hvw (fun i hi=>hm i (by simp [Zf,hi])) h1,Z9r hx hs hvw (fun i hi=>hm i (by simp [Zf,hi])) h2⟩
theorem ZeV {G':Gh} (hx:Ext β G β G') {is:List Nat} (hs:∀ i∈is.filter (Z2z h),Z3b E β G' h i) {hv:Nat→Option Z8} (hvw:∀ i∈is,∀ x,hv i=some x→h i=some x) {d:DV} {v:Value} (hm:∀ i∈Ze d,i∈is) (hr:Rep β G d v):Rep β G' (Z39 hv d) v:=by
 unfold Z39
 split
 ·rename_i cs
  obtain ⟨vs,rfl,hr2⟩:=Yx.1 hr
  exact Yx.2 ⟨vs,rfl,Z9r hx hs hvw (by simpa [Ze] using hm) hr2⟩
 ·exact Zbg hx hs hvw hm hr
theorem Z9s {G':Gh} (hx:Ext β G β G') {is:List Nat} (hs:∀ i∈is.filter (Z2z h),Z3b E β G' h i) {hv:Nat→Option Z8} (hvw:∀ i∈is,∀ x,hv i=some x→h i=some x):∀ {ds:List DV} {vs:List Value},(∀ i∈Zf ds,i∈is)→Zd β G ds vs→Zd β G' (ds.map (Z39 hv)) vs
 | [],vs,_,hr=>by
  rw [Zo] at hr
  exact Zo.2 hr
 | d::ds,vs,hm,hr=>by
  obtain ⟨v,vs',rfl,h1,h2⟩:=Zc.1 hr
  exact Zc.2 ⟨v,vs',rfl,ZeV hx hs hvw (fun i hi=>hm i (by simp [Zf,hi])) h1,Z9s hx hs hvw (fun i hi=>hm i (by simp [Zf,hi])) h2⟩
theorem Zbi (hh:HR E w0 G0 D w β G h) {as:List DV} {vs:List Value} (hr:Zd β G as vs) {hv:Nat→Option Z8} (hvw:∀ i∈Zf as,∀ x,hv i=some x→h i=some x) :
  ∃ G',Ext β G β G'∧HR E w0 G0 D w β G' h∧Zd β G' (as.map (Z39 hv)) vs:=by
 obtain ⟨G',h1,h2,h3⟩:=Z1R hh ((Zf as).filter (Z2z h))
 rw [Zem] at h2 h3
 exact ⟨G',h1,h2,Z9s h1 h3 hvw (fun i hi=>hi) hr⟩
open Classical in
noncomputable def Z6D (D:DD) (w:World) (β:Bi) (G:Gh) (h s:Nat→Option Z8):DD:=fun b=>match D b with
 | some x=>some x
 | none=>if ∃ i x,h i=some x∧s i=none∧Yl β i x b then (w.heap[b]?).map fun ob=>(ob,G b) else none
theorem Z9n {s:Nat→Option Z8} (hh:HR E w0 G0 D w β G h) {i b:Nat} {x:Z8} (hi:h i=some x) (hs:s i=none) (ho:Yl β i x b) :
  ∃ ob,w.heap[b]? = some ob∧Z6D D w β G h s b=some (ob,G b):=by
 obtain ⟨_,hb,hd⟩:=hh.own i x b hi ho
 refine ⟨w.heap[b],by simp [hb],?_⟩
 unfold Z6D
 rw [hd]
 simp only
 rw [if_pos ⟨i,x,hi,hs,ho⟩]
 simp [hb]
theorem ZeM {s:Nat→Option Z8} {b:Nat} (hn:Z6D D w β G h s b=none):D b=none:=by
 unfold Z6D at hn
 cases hd:D b with
 | none=>rfl
 | some x=>rw [hd] at hn;cases hn
theorem ZfL {s:Nat→Option Z8} {b:Nat} {x:Obj×(Nat→Option Value)} (hd:D b=some x):Z6D D w β G h s b=some x:=by
 unfold Z6D
 rw [hd]
theorem Zcn {s:Nat→Option Z8} (hh:HR E w0 G0 D w β G h) (hs:∀ i x,s i=some x→h i=some x):HR E w0 G0 (Z6D D w β G h s) w β G s:=by
 refine ⟨hh.below,hh.g0,hh.agree,fun i o hi=>hh.obj i o (hs i o hi),fun i o b hi ho => ?_,fun i j o p b hi hj=>hh.inj i j o p b (hs i o hi) (hs j p hj),fun d x hd => ?_⟩
 ·obtain ⟨k1,k2,k3⟩:=hh.own i o b (hs i o hi) ho
  refine ⟨k1,k2,?_⟩
  unfold Z6D
  rw [k3]
  simp only
  rw [if_neg]
  rintro ⟨j,y,h1,h2,h3⟩
  have:=hh.inj i j o y b (hs i o hi) h1 ho h3
  subst this
  rw [hi] at h2;cases h2
 ·unfold Z6D at hd
  cases hq:D d with
  | some y =>
   rw [hq] at hd
   simp only [Option.some.injEq] at hd
   subst hd
   exact hh.marks d y hq
  | none =>
   rw [hq] at hd
   simp only at hd
   split at hd
   ·rename_i he
    obtain ⟨i,y,h1,h2,h3⟩:=he
    obtain ⟨k1,k2,k3⟩:=hh.own i y d h1 h3
    simp only [k2,getElem?_pos,Option.map_some,Option.some.injEq] at hd
    subst hd
    exact ⟨k1,by simp [k2],fun _=>rfl⟩
   ·cases hd
theorem Z7t (f:Nat→Option Z8):∀ (L:List Nat) (id:Nat),Zp id (L.map fun i=>(i,f i))=if id∈L then some (f id) else none
 | [],_=>rfl
 | i::L,id=>by
  simp only [List.map_cons,Zp,Z7t f L id]
  by_cases e:id∈L
  ·simp [e]
  ·simp only [e,if_false,List.mem_cons,or_false,Tr.beq_dec]
   by_cases e2:i=id
   ·subst e2;simp
   ·have:¬ id=i:=fun q=>e2 q.symm
    simp [e2,this]
def ZdW (o:Tr Z8) (R:List Nat) (nx:Nat):List Nat:=R++((o.ents 1 0).map (·.1)).filter (Nat.ble nx)
theorem ZeK {o:Tr Z8} {R:List Nat} {nx i:Nat} (hi:i∈ZdW o R nx):i∈R∨nx≤i:=by
 unfold ZdW at hi
 rcases List.mem_append.1 hi with h|h
 ·exact .inl h
 ·exact .inr (Nat.le_of_ble_eq_true (List.mem_filter.1 h).2)
theorem Z6x (h:Nat→Option Z8) (o:Tr Z8) (R:List Nat) (nx id:Nat):ZA h (Z4m o R nx) id=if id∈ZdW o R nx then o.get id else h id:=by
 unfold ZA Z4m
 rw [Z7t o.get]
 unfold ZdW
 split<;>rename_i q
 ·split at q
  ·rename_i e;cases q;rw [if_pos e]
  ·cases q
 ·split at q
  ·cases q
  ·rename_i e;rw [if_neg e]
def ZfC (E:Env) (w0:World) (G0:Gh) (D:DD) (β:Bi) (G:Gh) (h:Nat→Option Z8) (nx:Nat) (r:DV) (upd:List (Nat×Option Z8)) (nx':Nat) (e:Ending) (w':World):Prop :=
 ∃ v β' G',e = .returned v∧nx≤nx'∧Ext β G β' G'∧(∀ id,id<nx→YZ β β' h (ZA h upd) id)∧HR E w0 G0 D w' β' G' (ZA h upd)∧(∀ id,nx'≤id→ZJ β' (ZA h upd) id)∧Rep β' G' r v
theorem Za7 {s:Tr Z8} {R:List Nat} {nx:Nat} (hh:HR E w0 G0 D w β G h) (hs:∀ i x,s.get i=some x→h i=some x) (hsR:∀ i x,s.get i=some x→i∈R) (hfr:∀ id,nx≤id→ZJ β h id) {r:DV} {o':Tr Z8} {nx':Nat} {e:Ending} {w':World}
  (hp:Z24 E w0 G0 (Z6D D w β G h s.get) β G s nx r o' nx' e w'):ZfC E w0 G0 D β G h nx r (Z4m o' R nx) nx' e w':=by
 obtain ⟨v,β',G',rfl,hle,hgo,hhr,hf',hv⟩:=hp
 have hget:∀ i x,ZA h (Z4m o' R nx) i=some x→(i∈ZdW o' R nx∧o'.get i=some x)∨(h i=some x∧s.get i=none∧i<nx):=fun i x hi=>by
  rw [Z6x] at hi
  by_cases e:i∈ZdW o' R nx
  ·rw [if_pos e] at hi;exact .inl ⟨e,hi⟩
  ·rw [if_neg e] at hi
   refine .inr ⟨hi,?_,?_⟩
   ·cases hq:s.get i with
    | none=>rfl
    | some y=>exact absurd (List.mem_append_left _ (hsR i y hq)) e
   ·rcases Nat.lt_or_ge i nx with q|q
    ·exact q
    ·rw [(hfr i q).h] at hi;cases hi
 have hkeep:∀ i,s.get i=none→i<nx→o'.get i=none∧β'.blk i=β.blk i∧∀ u,β'.hdr i u=β.hdr i u:=fun i hi hlt=>hgo.keep i hlt hi
 have hoth:∀ i x b,h i=some x→s.get i=none→i<nx→Yl β' i x b→∃ ob,w.heap[b]? = some ob∧Z6D D w β G h s.get b=some (ob,G b):=fun i x b hi hn hlt hb=>by
  obtain ⟨_,k2,k3⟩:=hkeep i hn hlt
  exact Z9n hh hi hn ((Z1m k2 k3 x b).1 hb)
 refine ⟨v,β',G',rfl,hle,hgo.ext,fun id hid hn => ?_,⟨hhr.below,hhr.g0,hhr.agree,fun i x hi => ?_,fun i x b hi hb => ?_,fun i j x y b hi hj hb hc => ?_,fun d x hd=>hhr.marks d x (ZfL hd)⟩,fun id hid => ?_,hv⟩
 ·have hsn:s.get id=none:=by
   cases hq:s.get id with
   | none=>rfl
   | some y=>rw [hs id y hq] at hn;cases hn
  obtain ⟨k1,k2,k3⟩:=hkeep id hsn hid
  refine ⟨?_,k2,k3⟩
  rw [Z6x]
  split
  ·exact k1
  ·exact hn
 ·rcases hget i x hi with ⟨_,h1⟩|⟨h1,h2,h3⟩
  ·exact hhr.obj i x h1
  ·obtain ⟨_,k2,k3⟩:=hkeep i h2 h3
   refine Z2m.keep hgo.ext k3 (fun b hb => ?_) (hh.obj i x h1)
   obtain ⟨ob,m1,m2⟩:=Z9n (D:=D) hh h1 h2 hb
   obtain ⟨_,m3,m4⟩:=hhr.marks b _ m2
   exact ⟨m3.trans m1.symm,m4⟩
 ·rcases hget i x hi with ⟨_,h1⟩|⟨h1,h2,h3⟩
  ·obtain ⟨k1,k2,k3⟩:=hhr.own i x b h1 hb
   exact ⟨k1,k2,ZeM k3⟩
  ·obtain ⟨_,k2,k3⟩:=hkeep i h2 h3
   obtain ⟨m1,_,m3⟩:=hh.own i x b h1 ((Z1m k2 k3 x b).1 hb)
   obtain ⟨ob,_,m5⟩:=hoth i x b h1 h2 h3 hb
   exact ⟨m1,(Array.getElem?_eq_some_iff.1 (hhr.marks b _ m5).2.1).1,m3⟩
 ·rcases hget i x hi with ⟨_,h1⟩|⟨h1,h2,h3⟩<;>rcases hget j y hj with ⟨_,g1⟩|⟨g1,g2,g3⟩
  ·exact hhr.inj i j x y b h1 g1 hb hc
  ·obtain ⟨ob,_,m2⟩:=hoth j y b g1 g2 g3 hc
   rw [(hhr.own i x b h1 hb).2.2] at m2;cases m2
  ·obtain ⟨ob,_,m2⟩:=hoth i x b h1 h2 h3 hb
   rw [(hhr.own j y b g1 hc).2.2] at m2;cases m2
  ·obtain ⟨_,k2,k3⟩:=hkeep i h2 h3
   obtain ⟨_,k4,k5⟩:=hkeep j g2 g3
   exact hh.inj i j x y b h1 g1 ((Z1m k2 k3 x b).1 hb) ((Z1m k4 k5 y b).1 hc)
 ·have hf:=hf' id hid
  refine ⟨hf.blk,hf.hdr,?_⟩
  rw [Z6x]
  split
  ·exact hf.h
  ·exact (hfr id (by omega)).h
theorem Z1S (h:Nat→Option Z8):∀ (R:List Nat) (i:Nat),(Z2h h R).get i=if i∈R then h i else none
 | [],_=>rfl
 | j::R,i=>by
  simp only [Z2h,Tr.get_set,Z1S h R]
  by_cases e:i=j
  ·subst e;simp
  ·simp [e]
theorem Zck {callH callY:Yh} (hv:Nat→Option Z8) (nx:Nat) (tgt:DV×List DV) (out:Out) (T:List Nat) (nx2:Nat) (hd:YL callH callY hv nx tgt=some (out,T,nx2)):nx≤nx2:=by
 unfold YL at hd
 split at hd
 ·unfold Z3j at hd
  obtain ⟨x,_,hd⟩:=Z0 hd
  obtain ⟨hq,hd⟩:=Z2 hd
  cases hd
  exact Nat.le_of_ble_eq_true hq
 ·unfold Z3j at hd
  obtain ⟨x,_,hd⟩:=Z0 hd
  obtain ⟨hq,hd⟩:=Z2 hd
  cases hd
  exact Nat.le_of_ble_eq_true hq
 ·cases hd
theorem Z59 (hE:∀ t ti,E.ty t=some ti→ZN P t ti) {callH callY:Yh} (hH:YY P E callH) (hY:Z18 P E callY) {o:Oper} {a:Act} {ro:Option Nat} {n:Nat} {ρ:Nat→Option DV} (hf:FrM β G ρ a.tmps) {c:Call} (ho:Z3m o.op=some c) {tgt:DV×List DV}
  (ht:target E ρ c=some tgt) (hh:HR E w0 G0 D w β G h) {hv:Nat→Option Z8} {nx nx':Nat} {out:Out} {T:List Nat} (hd:YL callH callY hv nx tgt=some (out,T,nx')) (hvw:∀ i∈T,∀ x,hv i=some x→h i=some x) (hfr:∀ id,nx≤id→ZJ β h id)
  {K:Act→World→Prop} {Q:Exit→Act→World→Prop}
  (hk:∀ v w' β' G',(∀ d,out.val=some d→Rep β' G' d v)→nx≤nx'→Ext β G β' G'→(∀ id,id<nx→YZ β β' h (ZA h out.upd) id)→HR E w0 G0 D w' β' G' (ZA h out.upd)→(∀ id,nx'≤id→ZJ β' (ZA h out.upd) id)→K (a.put o.dst v) w'):o.wpIn (fw ro) n P a w K Q:=by
 have hop:=Z3e ho
 have hsub:∀ {R:List Nat},(∀ i∈R,i∈T)→(∀ i x,(Z2h hv R).get i=some x→h i=some x)∧(∀ i x,(Z2h hv R).get i=some x→i∈R):=fun {R} hRT=>by
  refine ⟨fun i x hi => ?_,fun i x hi => ?_⟩
  ·rw [Z1S] at hi
   split at hi
   ·rename_i hm;exact hvw i (hRT i hm) x hi
   ·cases hi
  ·rw [Z1S] at hi
   split at hi
   ·rename_i hm;exact hm
   ·cases hi
 unfold YL at hd
 split at hd
 ·rename_i g x y as
  unfold Z3j at hd
  obtain ⟨⟨r,o',nx2⟩,hc,hd⟩:=Z0 hd
  obtain ⟨_,hd⟩:=Z2 hd
  cases hd
  obtain ⟨hent,hcs⟩:=hH _ _ _ _ _ _ _ hc
  obtain ⟨vs,hrun,hrep⟩:=Z9T (w:=w) hE hf hop ht hent
  obtain ⟨G1,hx1,hh1,hrep1⟩:=Zbi hh hrep (hv:=hv) (fun i hi x hx=>hvw i (List.mem_append_left _ hi) x hx)
  obtain ⟨hs,hsR⟩:=hsub (R:=Z1a hv 4096 (Z1k (as.map (Z39 hv))) []) (fun i hi=>List.mem_append_right _ hi)
  refine ⟨fun f _=>trivial,?_⟩
  rw [Oper.semAt_eq _ _ _ (by rw [hop];simp),hrun,Oper.uponIn_enter]
  have hfr1:∀ id,nx≤id→ZJ β (Z2h hv (Z1a hv 4096 (Z1k (as.map (Z39 hv))) [])).get id:=fun id hid=>⟨(hfr id hid).blk,(hfr id hid).hdr,by
   cases hq:(Z2h hv (Z1a hv 4096 (Z1k (as.map (Z39 hv))) [])).get id with
   | none=>rfl
   | some y=>have:=hs id y hq;rw [(hfr id hid).h] at this;cases this⟩
  refine ⟨fun hq=>by simp [fw,Fence.wide] at hq,Z7V (Calls.mono (hcs w0 G0 _ w β G1 vs (Zcn hh1 hs) hfr1 hrep1) fun e w' he => ?_)⟩
  obtain ⟨v,β',G',rfl,hle,hx,hkp,hh2,hf2,hv2⟩:=Za7 hh1 hs hsR hfr he
  exact hk v w' β' G' (fun d hd=>by cases hd;exact hv2) hle (hx1.trans hx) hkp hh2 hf2
 ·rename_i l as
  unfold Z3j at hd
  obtain ⟨⟨r,o',nx2⟩,hc,hd⟩:=Z0 hd
  obtain ⟨_,hd⟩:=Z2 hd
  cases hd
  obtain ⟨vs,b,hb,hrun,hrep⟩:=Zd1 hf hop ht
  obtain ⟨G1,hx1,hh1,hrep1⟩:=Zbi hh hrep (hv:=hv) (fun i hi x hx=>hvw i (List.mem_append_left _ hi) x hx)
  obtain ⟨hs,hsR⟩:=hsub (R:=Z1a hv 4096 (l::Z1k (as.map (Z39 hv))) []) (fun i hi=>List.mem_append_right _ hi)
  have hfr1:∀ id,nx≤id→ZJ β (Z2h hv (Z1a hv 4096 (l::Z1k (as.map (Z39 hv))) [])).get id:=fun id hid=>⟨(hfr id hid).blk,(hfr id hid).hdr,by
   cases hq:(Z2h hv (Z1a hv 4096 (l::Z1k (as.map (Z39 hv))) [])).get id with
   | none=>rfl
   | some y=>have:=hs id y hq;rw [(hfr id hid).h] at this;cases this⟩
  obtain ⟨lf,tm,as',bo,hy,hround⟩:=hY _ _ _ _ _ _ _ hc w0 G0 _ w β G1 vs b hb (Zcn hh1 hs) hfr1 hrep1
  refine ⟨fun f _=>trivial,?_⟩
  rw [Oper.semAt_eq _ _ _ (by rw [hop];simp),hrun,hy,Oper.uponIn_round]
  refine ⟨fun hq=>by simp [fw,Fence.wide] at hq,Zfp (RoundIn.mono (hround _) fun e w' he => ?_)⟩
  obtain ⟨v,β',G',rfl,hle,hx,hkp,hh2,hf2,hv2⟩:=Za7 hh1 hs hsR hfr he
  exact hk v w' β' G' (fun d hd=>by cases hd;exact hv2) hle (hx1.trans hx) hkp hh2 hf2
 ·cases hd
end
end Go.Ab
namespace Go.Ab
open Go.RowKit
section
variable {P:Program} {E:Env} {w0:World} {G0:Gh} {outer:DD} {own:List Nat} {V nt:Nat} {o:Oper} {a:Act} {w:World} {β:Bi} {G:Gh} {ro:Option Nat} {n:Nat}
theorem Z4G (V nt:Nat) (m:Mid) (dst:Option Tmp) (v:Option DV):(m.put V nt dst v).objs=m.objs∧(m.put V nt dst v).next=m.next:=by
 unfold Mid.put
 cases dst with
 | none=>exact ⟨rfl,rfl⟩
 | some d =>
  simp only
  cases (!Nat.blt d nt) with
  | true=>exact ⟨rfl,rfl⟩
  | false=>cases Nat.testBit V d<;>exact ⟨rfl,rfl⟩
theorem Zc0 (V nt:Nat) (m:Mid) (dst:Option Tmp) (v:Option DV) (t:Nat) :
  ZV V (m.put V nt dst v).base (m.put V nt dst v).loc t=if dst=some t∧t<nt then v else ZV V m.base m.loc t:=by
 unfold Mid.put
 cases dst with
 | none=>simp
 | some d =>
  simp only [Tr.blt_dec]
  by_cases hl:d<nt
  ·simp only [hl,decide_true,Bool.not_true,cond_false]
   cases hv:Nat.testBit V d with
   | true =>
    simp only [cond_true]
    unfold ZV
    by_cases e:d=t
    ·subst e;simp [hv,hl,Tr.get_set]
    ·have:¬ t=d:=fun h=>e h.symm
     simp [e,Tr.get_set,this]
   | false =>
    simp only [cond_false]
    unfold ZV
    by_cases e:d=t
    ·subst e;simp [hv,hl,Loc.find]
    ·simp [e,Loc.find,Tr.beq_dec]
  ·simp only [hl,decide_false,Bool.not_false,cond_true]
   by_cases e:d=t
   ·subst e;simp [hl]
   ·simp [e]
theorem ZdA (V nt:Nat) (m:Mid) (dst:Option Tmp) (v:Option DV) (h:∀ t d,m.base.get t=some d→Nat.testBit V t=true) :
  ∀ t d,(m.put V nt dst v).base.get t=some d→Nat.testBit V t=true:=by
 unfold Mid.put
 cases dst with
 | none=>exact h
 | some d =>
  simp only
  cases (!Nat.blt d nt) with
  | true=>exact h
  | false =>
   cases hv:Nat.testBit V d with
   | true =>
    intro t d' ht
    simp only [cond_false,cond_true,Tr.get_set] at ht
    by_cases e:t=d
    ·rw [e];exact hv
    ·rw [if_neg e] at ht;exact h t d' ht
   | false=>exact h
abbrev MM (E:Env) (w0:World) (G0:Gh) (outer:DD) (V nt:Nat) (own:List Nat) (m:Mid) (a:Act) (w:World) (β:Bi) (G:Gh):Prop :=
 MI E w0 G0 outer V nt own (ZV V m.base m.loc) m.base m.objs.get m.next a w β G
theorem Zdj {ρ ρ':Nat→Option DV} {β':Bi} {G':Gh} (hx:Ext β G β' G') (hsz:a.tmps.size=nt) (hf:FrM β G ρ a.tmps) {dst:Option Tmp} {val:Option DV} {v:Value} (hv:∀ d,val=some d→Rep β' G' d v)
  (hs:∀ t d,ρ' t=some d→(dst=some t∧t<nt∧val=some d)∨(¬ (dst=some t∧t<nt)∧ρ t=some d)):FrM β' G' ρ' (a.put dst v).tmps:=fun t d ht=>by
 rcases hs t d ht with ⟨rfl,hl,hd⟩|⟨hn,hd⟩
 ·refine ⟨v,?_,hv d hd⟩
  simp [Act.put,hsz,hl]
 ·obtain ⟨u,hu,hr⟩:=hf t d hd
  refine ⟨u,?_,Rep.mono hx d u hr⟩
  cases dst with
  | none=>exact hu
  | some e =>
   have hlt:t<nt:=by rw [←hsz];exact (Array.getElem?_eq_some_iff.1 hu).1
   have hne:e≠t:=fun h=>hn ⟨by rw [h],hlt⟩
   simp only [Act.put]
   rw [Array.getElem?_setIfInBounds_ne hne]
   exact hu
theorem ZbF (dst:Option Tmp) (v:Value):(a.put dst v).tmps.size=a.tmps.size∧(a.put dst v).defers=a.defers:=by
 cases dst<;>simp [Act.put]
theorem MM.put {m:Mid} (hm:MM E w0 G0 outer V nt own m a w β G) {objs:Tr Z8} {nx:Nat} {dst:Option Tmp} {val:Option DV} {v:Value} {w':World} {β':Bi} {G':Gh} (hx:Ext β G β' G')
  (hv:∀ d,val=some d→Rep β' G' d v) (hh:HR E w0 G0 (YA own outer) w' β' G' objs.get) (hf:∀ id,nx≤id→ZJ β' objs.get id) :
  MM E w0 G0 outer V nt own (({ m with objs:=objs,next:=nx }:Mid).put V nt dst val) (a.put dst v) w' β' G':=by
 obtain ⟨h1,h2⟩:=Z4G V nt ({ m with objs:=objs,next:=nx }:Mid) dst val
 obtain ⟨h3,h4⟩:=ZbF (a:=a) dst v
 refine ⟨Zdj hx hm.sz hm.fr hv fun t d ht => ?_,ZdA V nt _ dst val hm.dom,h3.trans hm.sz,by rw [h1];exact hh,fun id hid => ?_,⟨h4.trans hm.df.1,hm.df.2⟩⟩
 ·rw [Zc0] at ht
  by_cases e:dst=some t∧t<nt
  ·rw [if_pos e] at ht;exact .inl ⟨e.1,e.2,ht⟩
  ·rw [if_neg e] at ht;exact .inr ⟨e,ht⟩
 ·rw [h1];rw [h2] at hid;exact hf id hid
theorem Z2G {ops:Array Oper} {ρ:Nat→Option DV} (hf:FrM β G ρ a.tmps) {want:Bool} (h:Z1n ops ρ o=some want):Region.wanted o (yielded ops a.tmps)=want:=by
 unfold Z1n at h
 unfold Region.wanted
 cases hg:o.guard with
 | none=>rw [hg] at h;simp only [Option.some.injEq] at h;exact h
 | some g =>
  obtain ⟨j,wt⟩:=g
  rw [hg] at h
  simp only at h ⊢
  unfold yielded
  cases hd:(ops[j]?).bind (·.dst) with
  | none=>rw [hd] at h;cases h
  | some t =>
   rw [hd] at h
   simp only at h
   cases hr:ρ t with
   | none=>rw [hr] at h;cases h
   | some d =>
    rw [hr] at h
    obtain ⟨v,h1,h2⟩:=hf t d hr
    simp only [Option.bind_some,h1]
    cases d with
    | bool b =>
     rw [ZK] at h2;subst h2
     simp only [Option.some.injEq] at h
     rw [←h]
     cases b<;>cases wt<;>rfl
    | _ =>
     have hw:want=false:=by simpa using h.symm
     subst hw
     unfold Rep at h2
     first
     | (subst h2;rfl)
     | (obtain ⟨b,_,rfl⟩:=h2;rfl)
     | (obtain ⟨b,n,c,_,rfl⟩:=h2;rfl)
     | (obtain ⟨_,b,o,rfl,_⟩:=h2;rfl)
     | (obtain ⟨a,c,⟨rfl,_⟩,_⟩:=h2;rfl)
     | (obtain ⟨_,a,n,c,rfl⟩:=h2;rfl)
     | (obtain ⟨_,_,rfl,_,_⟩:=h2;rfl)
     | (obtain ⟨_,rfl,_⟩:=h2;rfl)
theorem Z9Q {call:Nat→List DV→Option DV} {nid:Nat} {ρ:Nat→Option DV} {h:Nat→Option Z8} {op:Op} {r:Out} (hd:Z4b E call nid ρ h op=some (some r)):Z7c E call nid ρ h op=some r:=by
 unfold Z4b at hd
 unfold Z7c
 split at hd
 ·rename_i hc
  obtain ⟨r',h1,h2⟩:=Z0 hd
  cases h2
  rw [hc];exact h1
 ·rename_i c hc
  obtain ⟨tgt,h1,h2⟩:=Z0 hd
  rw [hc]
  cases hp:Zee E tgt with
  | true =>
   rw [hp] at h2
   obtain ⟨r',h3,h4⟩:=Z0 h2
   cases h4
   exact h3
  | false=>rw [hp] at h2;cases h2
theorem Z53 (hE:∀ t ti,E.ty t=some ti→ZN P t ti) {call:Nat→List DV→Option DV} (hp:Z2O P call) {callH callY:Yh} (hH:YY P E callH) (hY:Z18 P E callY) {ops:Array Oper} {b:Nat} {Q:Exit→Act→World→Prop} :
  ∀ (os:List Oper) (k:Nat) (m mf:Mid) (a:Act) (w:World) (β:Bi) (G:Gh),Z2Q E call callH callY V nt ops b k os m=some mf→b+k+os.length≤m.next →
   (∀ j,k≤j→j<k+os.length→ZJ β m.objs.get (b+j))→MM E w0 G0 outer V nt own m a w β G →
   (∀ a' w' β' G',m.next≤mf.next→MM E w0 G0 outer V nt own mf a' w' β' G'→Go2 b β G β' G' m.objs.get mf.objs.get→Q .normal a' w')→wpListIn (fw ro) n P ops Q os a w
 | [],k,m,mf,a,w,β,G,hd,_,_,hm,hq=>by
  simp only [Z2Q,Option.some.injEq] at hd;subst hd
  exact hq a w β G (Nat.le_refl _) hm (Go2.refl _ _ _ _)
 | o::os,k,m,mf,a,w,β,G,hd,hle,hfr,hm,hq=>by
  simp only [Z2Q] at hd
  obtain ⟨want,hw,hd⟩:=Z0 hd
  have hwt:=Z2G hm.fr hw
  simp only [List.length_cons] at hle hfr
  simp only [wpListIn]
  rw [hwt]
  cases want with
  | false =>
   simp only [cond_false] at hd
   simp only [Bool.false_eq_true,if_false]
   obtain ⟨h1,h2⟩:=Z4G V nt m o.dst (some (.tup []))
   have hm':MM E w0 G0 outer V nt own (m.put V nt o.dst (some (.tup []))) (a.put o.dst undef) w β G :=
    MM.put (objs:=m.objs) (nx:=m.next) hm (Ext.refl β G) (fun d hd=>by cases hd;exact Z52) hm.hr hm.fresh
   refine ⟨fun f _=>trivial,Z53 hE hp hH hY os (k+1) _ mf _ w β G hd (by rw [h2];omega) (fun j hj hl=>by rw [h1];exact hfr j (by omega) (by omega)) hm' fun a' w' β' G' hn hm2 hgo => ?_⟩
   exact hq a' w' β' G' (by rw [h2] at hn;exact hn) hm2 (by rw [h1] at hgo;exact hgo)
  | true =>
   simp only [cond_true] at hd
   simp only [if_true]
   obtain ⟨so,hso,hd⟩:=Z0 hd
   cases so with
   | some r =>
    have hr:=Z9Q hso
    refine Z7d hE hp hm.fr hm.hr (hfr k (Nat.le_refl _) (by omega)) hr _ _ fun v w' β' G' hv hx hh hkp => ?_
    obtain ⟨h1,h2⟩:=Z4G V nt ({ m with objs:=ZZ m.objs r.upd }:Mid) o.dst r.val
    have hget:∀ id,(ZZ m.objs r.upd).get id=ZA m.objs.get r.upd id:=Z2j _ _
    have hfr':∀ id,id≠b+k→YZ β β' m.objs.get (ZZ m.objs r.upd).get id:=fun id hid hf=>by
     obtain ⟨q1,q2,q3⟩:=hkp id hid hf
     exact ⟨by rw [hget];exact q1,q2,q3⟩
    have hm':MM E w0 G0 outer V nt own (({ m with objs:=ZZ m.objs r.upd }:Mid).put V nt o.dst r.val) (a.put o.dst v) w' β' G' :=
     MM.put (objs:=ZZ m.objs r.upd) (nx:=m.next) hm hx hv (hh.eq hget) (fun id hid=>(hfr' id (by omega)).fresh (hm.fresh id hid))
    refine Z53 hE hp hH hY os (k+1) _ mf _ w' β' G' hd (by rw [h2];show b+(k+1)+os.length≤m.next;omega) (fun j hj hl=>by rw [h1];exact (hfr' _ (by omega)).fresh (hfr j (by omega) (by omega))) hm' fun a' w'' β'' G'' hn hm2 hgo => ?_
    refine hq a' w'' β'' G'' (by rw [h2] at hn;exact hn) hm2 (Go2.trans ⟨hx,fun id hi => ?_⟩ hgo)
    rw [h1];exact hfr' id (by omega)
   | none =>
    obtain ⟨cl,hcl,hd⟩:=Z0 hd
    obtain ⟨tgt,htg,hd⟩:=Z0 hd
    obtain ⟨⟨out,T,nx'⟩,hx1,hd⟩:=Z0 hd
    refine Z59 hE hH hY hm.fr hcl htg hm.hr hx1 (fun _ _ _ h=>h) hm.fresh fun v w' β' G' hv hle' hx hkp hh hff => ?_
    obtain ⟨h1,h2⟩:=Z4G V nt ({ m with objs:=ZZ m.objs out.upd,next:=nx' }:Mid) o.dst out.val
    have hget:∀ id,(ZZ m.objs out.upd).get id=ZA m.objs.get out.upd id:=Z2j _ _
    have hkp':∀ id,id<m.next→YZ β β' m.objs.get (ZZ m.objs out.upd).get id:=fun id hid hf=>by
     obtain ⟨q1,q2,q3⟩:=hkp id hid hf
     exact ⟨by rw [hget];exact q1,q2,q3⟩
    have hm':MM E w0 G0 outer V nt own (({ m with objs:=ZZ m.objs out.upd,next:=nx' }:Mid).put V nt o.dst out.val) (a.put o.dst v) w' β' G' :=
     MM.put (objs:=ZZ m.objs out.upd) (nx:=nx') hm hx hv (hh.eq hget) (fun id hid=>by
      have:=hff id hid
      exact ⟨this.blk,this.hdr,by rw [hget];exact this.h⟩)
    refine Z53 hE hp hH hY os (k+1) _ mf _ w' β' G' hd (by rw [h2];show b+(k+1)+os.length≤nx';omega) (fun j hj hl=>by rw [h1];exact (hkp' _ (by omega)).fresh (hfr j (by omega) (by omega))) hm' fun a'' w'' β'' G'' hn hm2 hgo2 => ?_
    refine hq a'' w'' β'' G'' (by rw [h2] at hn;exact Nat.le_trans hle' hn) hm2 (Go2.trans ⟨hx,fun id hi => ?_⟩ hgo2)
    rw [h1];exact hkp' id (by omega)
end
end Go.Ab
namespace Go.Ab
open Go.RowKit
structure Z4d (n0:Nat) (β β':Bi):Prop where
 blk:∀ id,id<n0→β'.blk id=β.blk id
 hdr:∀ id,id<n0→∀ u,β'.hdr id u=β.hdr id u
section bddm
variable {n0:Nat} {β β':Bi} {G:Gh}
mutual
theorem Rep.bd (hx:Z4d n0 β β'):∀ (d:DV) (v:Value),bdd n0 d=true→Rep β G d v→Rep β' G d v
 | .bool _,_,_,h=>by unfold Rep at h ⊢;exact h
 | .int _ _,_,_,h=>by unfold Rep at h ⊢;exact h
 | .str _,_,_,h=>by unfold Rep at h ⊢;exact h
 | .nilp,_,_,h=>by unfold Rep at h ⊢;exact h
 | .ptr i _,_,hb,h=>by
  simp only [bdd,Tr.blt_dec,decide_eq_true_eq] at hb
  unfold Rep at h ⊢;rw [hx.blk i hb];exact h
 | .rptr i _ _ _ _,_,hb,h=>by
  simp only [bdd,Tr.blt_dec,decide_eq_true_eq] at hb
  unfold Rep at h ⊢;rw [hx.hdr i hb];exact h
 | .pub cs,_,_,h=>by
  unfold Rep at h ⊢
  obtain ⟨h0,b,o,h1,h2⟩:=h
  exact ⟨h0,b,o,h1,Pub.free cs b o h0 h2⟩
 | .nils,_,_,h=>by unfold Rep at h ⊢;exact h
 | .sl es,v,_,h=>Rep.free _ v rfl h
 | .rs i _,_,hb,h=>by
  simp only [bdd,Tr.blt_dec,decide_eq_true_eq] at hb
  unfold Rep at h ⊢;rw [hx.hdr i hb];exact h
 | .agg cs,_,hb,h=>by unfold Rep at h ⊢;obtain ⟨vs,h1,h2⟩:=h;exact ⟨vs,h1,Zd.bd hx cs vs (by simpa [bdd] using hb) h2⟩
 | .tup cs,_,hb,h=>by unfold Rep at h ⊢;obtain ⟨vs,h1,h2⟩:=h;exact ⟨vs,h1,Zd.bd hx cs vs (by simpa [bdd] using hb) h2⟩
 | .fn _ a c,_,hb,h=>by
  unfold Rep at h ⊢
  obtain ⟨as,cs,h1,h2,h3⟩:=h
  have hb':Z1D n0 a=true∧Z1D n0 c=true:=by simpa [bdd] using hb
  exact ⟨as,cs,h1,Zd.bd hx a as hb'.1 h2,Zd.bd hx c cs hb'.2 h3⟩
 | .nilfn,_,_,h=>by unfold Rep at h ⊢;exact h
 | .map i,_,hb,h=>by
  simp only [bdd,Tr.blt_dec,decide_eq_true_eq] at hb
  unfold Rep at h ⊢;rw [hx.blk i hb];exact h
 | .nilmap,_,_,h=>by unfold Rep at h ⊢;exact h
 | .iface _ d,_,hb,h=>by unfold Rep at h ⊢;obtain ⟨u,h1,h2⟩:=h;exact ⟨u,h1,Rep.bd hx d u (by simpa [bdd] using hb) h2⟩
 | .nilif,_,_,h=>by unfold Rep at h ⊢;exact h
 | .iter i,_,hb,h=>by
  simp only [bdd,Tr.blt_dec,decide_eq_true_eq] at hb
  unfold Rep at h ⊢;rw [hx.blk i hb];exact h
 | .yld i,_,hb,h=>by
  simp only [bdd,Tr.blt_dec,decide_eq_true_eq] at hb
  unfold Rep at h ⊢;rw [hx.blk i hb];exact h
theorem Zd.bd (hx:Z4d n0 β β'):∀ (ds:List DV) (vs:List Value),Z1D n0 ds=true→Zd β G ds vs→Zd β' G ds vs
 | [],_,_,h=>by unfold Zd at h ⊢;exact h
 | d::ds,_,hb,h=>by
  unfold Zd at h ⊢
  have hb':bdd n0 d=true∧Z1D n0 ds=true:=by simpa [Z1D] using hb
  obtain ⟨v,vs',h1,h2,h3⟩:=h
  exact ⟨v,vs',h1,Rep.bd hx d v hb'.1 h2,Zd.bd hx ds vs' hb'.2 h3⟩
end
end bddm
theorem Z5v {id v:Nat}:∀ {L:List (Option (Nat×Nat))} {j0 j:Nat},Z5a id v j0 L=some j→j0≤j∧L[j-j0]? = some (some (id,v))
 | [],_,_,h=>by cases h
 | none::L,j0,j,h=>by
  simp only [Z5a] at h
  obtain ⟨h1,h2⟩:=Z5v h
  refine ⟨by omega,?_⟩
  rw [show j-j0=(j-(j0+1))+1 by omega];simpa using h2
 | some (i,u)::L,j0,j,h=>by
  simp only [Z5a] at h
  by_cases e:(Nat.beq i id&&Nat.beq u v)=true
  ·rw [e] at h
   cases h
   simp only [Bool.and_eq_true] at e
   have e1:i=id:=Nat.eq_of_beq_eq_true e.1
   have e2:u=v:=Nat.eq_of_beq_eq_true e.2
   subst e1 e2
   exact ⟨Nat.le_refl _,by simp⟩
  ·have e':(Nat.beq i id&&Nat.beq u v)=false:=Bool.eq_false_iff.2 e
   rw [e'] at h
   obtain ⟨h1,h2⟩:=Z5v h
   refine ⟨by omega,?_⟩
   rw [show j-j0=(j-(j0+1))+1 by omega];simpa using h2
def Z1b (n0:Nat) (L:List (Option (Nat×Nat))) (β:Bi):Bi where
 blk i:=if i<n0 then β.blk i else none
 hdr i u:=if i<n0 then β.hdr i u else if u=0 then (match L[i-n0]? with|some (some (id,v))=>β.hdr id v|_=>none) else none
theorem Z4H (n0:Nat) (L:List (Option (Nat×Nat))) (β:Bi):Z4d n0 β (Z1b n0 L β):=⟨fun id h=>by simp [Z1b,h],fun id h u=>by simp [Z1b,h]⟩
section
variable {n0:Nat} {L:List (Option (Nat×Nat))} {β:Bi} {G:Gh}
theorem Z9H {j id v:Nat} (h:L[j]? = some (some (id,v))):(Z1b n0 L β).hdr (n0+j) 0=β.hdr id v:=by
 have:¬ n0+j<n0:=by omega
 simp [Z1b,h,this]
theorem Z28 {d d':DV} {v:Value} (h:(bif bdd n0 d then some d else none)=some d') (hr:Rep β G d v):Rep (Z1b n0 L β) G d' v∧Zz d'=Zz d:=by
 obtain ⟨hb,h⟩:=Z2 h
 cases h
 exact ⟨Rep.bd (Z4H n0 L β) _ v hb hr,rfl⟩
mutual
theorem ZaA:∀ {d d':DV} {v:Value},ren n0 L d=some d'→Rep β G d v→Rep (Z1b n0 L β) G d' v∧Zz d'=Zz d
 | .rs id ver,d',v,h,hr=>by
  simp only [ren] at h
  cases hj:Z5a id ver 0 L with
  | none =>
   rw [hj] at h
   obtain ⟨hl,h⟩:=Z2 h
   cases h
   simp only [Bool.and_eq_true,Tr.blt_dec] at hl
   exact ⟨Rep.bd (Z4H n0 L β) _ v (by simp only [bdd,Tr.blt_dec];exact hl.1) hr,rfl⟩
  | some j =>
   rw [hj] at h
   cases h
   obtain ⟨_,h2⟩:=Z5v hj
   rw [Z3q] at hr ⊢
   exact ⟨⟨(Z9H (by simpa using h2)).trans hr.1,hr.2⟩,rfl⟩
 | .agg cs,d',v,h,hr=>by
  simp only [ren] at h
  obtain ⟨cs',h1,h⟩:=Z0 h
  cases h
  obtain ⟨vs,rfl,h2⟩:=Yx.1 hr
  exact ⟨Yx.2 ⟨vs,rfl,(Z6l h1 h2).1⟩,rfl⟩
 | .tup cs,d',v,h,hr=>by
  simp only [ren] at h
  obtain ⟨cs',h1,h⟩:=Z0 h
  cases h
  obtain ⟨vs,rfl,h2⟩:=YX.1 hr
  exact ⟨YX.2 ⟨vs,rfl,(Z6l h1 h2).1⟩,rfl⟩
 | .bool _,d',v,h,hr=>Z28 (d := .bool _) h hr
 | .int _ _,d',v,h,hr=>Z28 (d := .int _ _) h hr
 | .str _,d',v,h,hr=>Z28 (d := .str _) h hr
 | .nilp,d',v,h,hr=>Z28 (d := .nilp) h hr
 | .ptr _ _,d',v,h,hr=>Z28 (d := .ptr _ _) h hr
 | .rptr _ _ _ _ _,d',v,h,hr=>Z28 (d := .rptr _ _ _ _ _) h hr
 | .pub _,d',v,h,hr=>Z28 (d := .pub _) h hr
 | .nils,d',v,h,hr=>Z28 (d := .nils) h hr
 | .sl _,d',v,h,hr=>Z28 (d := .sl _) h hr
 | .fn _ _ _,d',v,h,hr=>Z28 (d := .fn _ _ _) h hr
 | .nilfn,d',v,h,hr=>Z28 (d := .nilfn) h hr
 | .map _,d',v,h,hr=>Z28 (d := .map _) h hr
 | .nilmap,d',v,h,hr=>Z28 (d := .nilmap) h hr
 | .iface _ _,d',v,h,hr=>Z28 (d := .iface _ _) h hr
 | .nilif,d',v,h,hr=>Z28 (d := .nilif) h hr
 | .iter _,d',v,h,hr=>Z28 (d := .iter _) h hr
 | .yld _,d',v,h,hr=>Z28 (d := .yld _) h hr
theorem Z6l:∀ {ds ds':List DV} {vs:List Value},Z2e n0 L ds=some ds'→Zd β G ds vs→Zd (Z1b n0 L β) G ds' vs∧ds'.all Zz=ds.all Zz
 | [],ds',vs,h,hr=>by simp only [Z2e,Option.some.injEq] at h;subst h;rw [Zo] at hr;subst hr;exact ⟨Zo.2 rfl,rfl⟩
 | d::ds,ds',vs,h,hr=>by
  simp only [Z2e] at h
  obtain ⟨c,h1,h⟩:=Z0 h
  obtain ⟨cs,h2,h⟩:=Z0 h
  cases h
  obtain ⟨v,vs',rfl,hr1,hr2⟩:=Zc.1 hr
  obtain ⟨k1,k2⟩:=ZaA h1 hr1
  obtain ⟨k3,k4⟩:=Z6l h2 hr2
  exact ⟨Zc.2 ⟨v,vs',rfl,k1,k3⟩,by simp [k2,k4]⟩
end
theorem Z2x {o:Tr Z8}:∀ {L:List (Option (Nat×Nat))} {j0:Nat} {no no':Tr Z8},Z1T o n0 j0 L no=some no'→∀ i,
  (no'.get i=no.get i∧∀ j id v,i=n0+j0+j→L[j]? ≠ some (some (id,v)))∨∃ j id v e es p,i=n0+j0+j∧L[j]? = some (some (id,v))∧o.get id=some (.row e es p v)∧no'.get i=some (.row e es p 0)
 | [],j0,no,no',h,i=>by simp only [Z1T,Option.some.injEq] at h;subst h;exact .inl ⟨rfl,fun j id v _=>by simp⟩
 | none::L,j0,no,no',h,i=>by
  simp only [Z1T] at h
  rcases Z2x h i with ⟨h1,h2⟩|⟨j,id,v,e,es,p,h1,h2,h3,h4⟩
  ·refine .inl ⟨h1,fun j id v hi => ?_⟩
   cases j with
   | zero=>simp
   | succ j=>simpa using h2 j id v (by omega)
  ·exact .inr ⟨j+1,id,v,e,es,p,by omega,by simpa using h2,h3,h4⟩
 | some (id,v)::L,j0,no,no',h,i=>by
  simp only [Z1T] at h
  split at h
  ·rename_i e es p u hg
   have hu:=(Z2 h).1
   replace h:=(Z2 h).2
   have hu:u=v:=Nat.eq_of_beq_eq_true hu
   subst hu
   rcases Z2x h i with ⟨h1,h2⟩|⟨j,id',v',e',es',p',h1,h2,h3,h4⟩
   ·rw [Tr.get_set] at h1
    by_cases hi:i=n0+j0
    ·rw [if_pos hi] at h1
     exact .inr ⟨0,id,u,e,es,p,by omega,by simp,hg,h1⟩
    ·rw [if_neg hi] at h1
     refine .inl ⟨h1,fun j id' v' hj => ?_⟩
     cases j with
     | zero=>omega
     | succ j=>simpa using h2 j id' v' (by omega)
   ·exact .inr ⟨j+1,id',v',e',es',p',by omega,by simpa using h2,h3,h4⟩
  ·cases h
theorem Z76:∀ {L:List (Option (Nat×Nat))} {j k id v w:Nat},Zc7 L=true→L[j]? = some (some (id,v))→L[k]? = some (some (id,w))→j=k
 | [],_,_,_,_,_,_,h,_=>by simp at h
 | none::L,j,k,id,v,w,hu,h1,h2=>by
  cases j with
  | zero=>simp at h1
  | succ j=>cases k with
   | zero=>simp at h2
   | succ k=>exact congrArg (· + 1) (Z76 (L:=L) (j:=j) (k:=k) (id:=id) (v:=v) (w:=w) (by simpa [Zc7] using hu) (by simpa using h1) (by simpa using h2))
 | some (i,u)::L,j,k,id,v,w,hu,h1,h2=>by
  simp only [Zc7,Bool.and_eq_true,List.all_eq_true] at hu
  have hne:∀ {k x:Nat},L[k]? = some (some (i,x))→False:=fun {k x} hk=>by
   have:=hu.1 _ (List.mem_of_getElem? hk)
   simp at this
  cases j with
  | zero =>
   have e1:i=id:=by
    have:i=id∧u=v:=by simpa using h1
    exact this.1
   subst e1
   cases k with
   | zero=>rfl
   | succ k=>exact (hne (by simpa using h2)).elim
  | succ j =>
   replace h1:L[j]? = some (some (id,v)):=by simpa using h1
   cases k with
   | zero =>
    have e1:i=id:=by
     have:i=id∧u=w:=by simpa using h2
     exact this.1
    subst e1;exact (hne h1).elim
   | succ k=>rw [Z76 hu.2 h1 (by simpa using h2)]
end
section
variable {P:Program} {E:Env} {w0:World} {G0:Gh} {D:DD} {w:World} {β:Bi} {G:Gh} {n0:Nat} {L:List (Option (Nat×Nat))} {base:Nat} {h:Nat→Option Z8}
theorem Z2o:∀ {es:List (List DV)},(∀ c∈es,Za c=true)→Za es.flatten=true
 | [],_=>rfl
 | c::es,h=>by
  have happ:∀ (xs ys:List DV),Za xs=true→Za ys=true→Za (xs++ys)=true:=fun xs=>by
   induction xs with
   | nil=>intro ys _ h;exact h
   | cons x xs ih =>
    intro ys h1 h2
    simp only [Za,Bool.and_eq_true,List.cons_append] at h1 ⊢
    exact ⟨h1.1,ih ys h1.2 h2⟩
  rw [List.flatten_cons]
  exact happ _ _ (h c (by simp)) (Z2o fun x hx=>h x (by simp [hx]))
theorem Zcv {k:DV} (h:keyOk k=true):Zb k=true:=by
 cases k with
 | agg cs =>
  simp only [keyOk,List.all_eq_true] at h
  simp only [Zb]
  exact Z14.2 fun c hc=>by have:=h c hc;cases c<;>first|rfl|cases this
 | _=>first|rfl|cases h
theorem Z6J {β':Bi}:∀ {es:List (DV×DV)} {ms:List MapEntry},Z6y β G es ms→Z6y β' G es ms
 | [],_,h=>h
 | (k,v)::es,_,⟨m,ms',h1,h2,h3,h4,h5,h6⟩=>⟨m,ms',h1,Rep.free k m.key (Zcv h4) h2,Rep.free v m.val h5 h3,h4,h5,Z6J h6⟩
theorem Zay {id:Nat} {x x':Z8} (hid:id<n0) (h:Z3p n0 L x=some x') (ho:Z2m E base w β G id x):Z2m E base w (Z1b n0 L β) G id x'∧∀ b,Yl (Z1b n0 L β) id x' b↔Yl β id x b:=by
 have hb:(Z1b n0 L β).blk id=β.blk id:=by simp [Z1b,hid]
 have hh:∀ u,(Z1b n0 L β).hdr id u=β.hdr id u:=fun u=>by simp [Z1b,hid]
 cases x with
 | cells t cs =>
  simp only [Z3p] at h
  obtain ⟨cs',h1,h⟩:=Z0 h
  cases h
  obtain ⟨b,vs,k1,k2,k3,k4,k5⟩:=ho
  obtain ⟨m1,m2⟩:=Z6l (β:=β) h1 k3
  exact ⟨⟨b,vs,by rw [hb];exact k1,k2,m1,by rw [m2];exact k4,k5⟩,fun b=>by simp [Yl,hb]⟩
 | row t es p u =>
  cases h
  obtain ⟨hdr,vals,k1,k2,k3,k4,k5,k6,k7⟩:=ho
  refine ⟨⟨hdr,vals,by rw [hh];exact k1,k2,Zd.free _ _ ?_ k3,k4,k5,k6,fun u' hu=>by rw [hh];exact k7 u' hu⟩,fun b=>by simp [Yl,hh]⟩
  exact Z2o fun c hc=>(k4 c hc).2.1
 | map es =>
  cases h
  obtain ⟨b,ms,clock,k1,k2,k3⟩:=ho
  exact ⟨⟨b,ms,clock,by rw [hb];exact k1,k2,Z6J k3⟩,fun b=>by simp [Yl,hb]⟩
 | siter s pos =>
  cases h
  obtain ⟨b,k1,k2⟩:=ho
  exact ⟨⟨b,by rw [hb];exact k1,k2⟩,fun b=>by simp [Yl,hb]⟩
 | loop fid bs ps as bo bid ex =>
  simp only [Z3p] at h
  obtain ⟨bs',h1,h⟩:=Z0 h
  cases h
  obtain ⟨b,tmps,df,fn,F,k1,k2,k3,k4,k5,k6⟩:=ho
  refine ⟨⟨b,tmps,df,fn,F,by rw [hb];exact k1,k2,fun t d ht => ?_,k4,k5,fun t d ht => ?_⟩,fun b=>by simp [Yl,hb]⟩
  ·rcases Tr.tm_get1 h1 t with ⟨_,h3⟩|⟨x,y,h3,h4,h5⟩
   ·rw [h3] at ht;cases ht
   ·obtain ⟨d',h6,h7⟩:=Z0 h4
    cases h7
    rw [h5] at ht;cases ht
    obtain ⟨v,h8,h9⟩:=k3 t x h3
    exact ⟨v,h8,(ZaA h6 h9).1⟩
  ·rcases Tr.tm_get1 h1 t with ⟨_,h3⟩|⟨x,y,h3,h4,h5⟩
   ·rw [h3] at ht;cases ht
   ·exact k6 t x h3
theorem Z5z {id:Nat}:∀ {L:List (Option (Nat×Nat))},Z2W id L=false→∀ (j v:Nat),L[j]? ≠ some (some (id,v))
 | [],_,j,v=>by simp
 | none::L,h,j,v=>by
  cases j with
  | zero=>simp
  | succ j=>simpa using Z5z (L:=L) (by simpa [Z2W] using h) j v
 | some (i,w)::L,h,j,v=>by
  simp only [Z2W,Bool.or_eq_false_iff] at h
  cases j with
  | zero =>
   intro e
   simp only [List.getElem?_cons_zero,Option.some.injEq,Prod.mk.injEq] at e
   rw [e.1,Tr.beq_dec] at h
   simp at h
  | succ j=>simpa using Z5z (L:=L) h.2 j v
theorem Zfj (hh:HR E w0 G0 D w β G h) (hu:Zc7 L=true) {h':Nat→Option Z8}
  (hs:∀ i x',h' i=some x'→((i<n0∧∀ (j v:Nat),L[j]? ≠ some (some (i,v)))∧∃ x,h i=some x∧Z3p n0 L x=some x')∨(∃ j id v e es p,i=n0+j∧L[j]? = some (some (id,v))∧h id=some (.row e es p v)∧x' = .row e es p 0)) :
  HR E w0 G0 D w (Z1b n0 L β) G h':=by
 have horig:∀ i x',h' i=some x'→∃ k x,h k=some x∧Z2m E w0.heap.size w (Z1b n0 L β) G i x'∧(∀ b,Yl (Z1b n0 L β) i x' b→Yl β k x b)∧(((i<n0∧∀ (j v:Nat),L[j]? ≠ some (some (i,v)))∧k=i)∨∃ j v,i=n0+j∧L[j]? = some (some (k,v))):=fun i x' hi=>by
  rcases hs i x' hi with ⟨hlt,x,hx,hr⟩|⟨j,id,v,e,es,p,rfl,hj,hx,rfl⟩
  ·obtain ⟨k1,k2⟩:=Zay hlt.1 hr (hh.obj i x hx)
   exact ⟨i,x,hx,k1,fun b hb=>(k2 b).1 hb,.inl ⟨hlt,rfl⟩⟩
  ·obtain ⟨hdr,vals,k1,k2,k3,k4,k5,k6,k7⟩:=hh.obj id _ hx
   have hnew:=Z9H (n0:=n0) (β:=β) hj
   refine ⟨id,_,hx,⟨hdr,vals,by rw [hnew];exact k1,k2,Zd.free _ _ (Z2o fun c hc=>(k4 c hc).2.1) k3,k4,k5,k6,fun u' hu' => ?_⟩,fun b hb => ?_,.inr ⟨j,v,rfl,hj⟩⟩
   ·have h1:¬ n0+j<n0:=by omega
    have h2:u'≠0:=by omega
    simp [Z1b,h1,h2]
   ·obtain ⟨m,c,hb⟩:=hb
    exact ⟨m,c,by rw [←hnew];exact hb⟩
 refine ⟨hh.below,hh.g0,hh.agree,fun i x' hi => ?_,fun i x' b hi hb => ?_,fun i i' x y b hi hi' hb hb' => ?_,hh.marks⟩
 ·obtain ⟨k,x,_,h2,_⟩:=horig i x' hi;exact h2
 ·obtain ⟨k,x,h1,_,h3,_⟩:=horig i x' hi
  exact hh.own k x b h1 (h3 b hb)
 ·obtain ⟨k,z,h1,_,h3,h4⟩:=horig i x hi
  obtain ⟨k',z',h1',_,h3',h4'⟩:=horig i' y hi'
  have hk:k=k':=hh.inj k k' z z' b h1 h1' (h3 b hb) (h3' b hb')
  subst hk
  rcases h4 with ⟨hlt,rfl⟩|⟨j,v,rfl,hj⟩<;>rcases h4' with ⟨hlt',e'⟩|⟨j',v',rfl,hj'⟩
  ·exact e'
  ·exact absurd hj' (hlt.2 _ _)
  ·subst e';exact absurd hj (hlt'.2 _ _)
  ·rw [Z76 hu hj hj']
theorem HR.rebi (hh:HR E w0 G0 D w β G h) {β':Bi} (hx:Ext β G β' G) (hs:∀ i o,h i=some o→β'.blk i=β.blk i∧∀ u,β'.hdr i u=β.hdr i u):HR E w0 G0 D w β' G h:=by
 refine ⟨hh.below,hh.g0,hh.agree,fun i o hi => ?_,fun i o b hi hb => ?_,fun i k o p b hi hk hb hc => ?_,hh.marks⟩
 ·exact Z2m.keep hx (hs i o hi).2 (fun _ _=>⟨rfl,fun _=>rfl⟩) (hh.obj i o hi)
 ·exact hh.own i o b hi ((Z1m (hs i o hi).1 (hs i o hi).2 o b).1 hb)
 ·exact hh.inj i k o p b hi hk ((Z1m (hs i o hi).1 (hs i o hi).2 o b).1 hb) ((Z1m (hs k p hk).1 (hs k p hk).2 p b).1 hc)
theorem ZbL:∀ {cs:List DV} {vs:List Value} {off:Nat} {d:DV} {v:Value},Zd β G cs vs→vs[off]? = some v→Rep β G d v→Zd β G (cs.set off d) vs
 | [],_,_,_,_,h,_,_=>h
 | c::cs,_,off,d,v,h,hv,hr=>by
  obtain ⟨u,vs',rfl,h1,h2⟩:=Zc.1 h
  cases off with
  | zero=>simp at hv;subst hv;exact Zc.2 ⟨u,vs',rfl,hr,h2⟩
  | succ off=>exact Zc.2 ⟨u,vs',rfl,h1,ZbL h2 (by simpa using hv) hr⟩
theorem Zd8:∀ {cs:List DV} {off:Nat} {d:DV},cs.all Zz=true→Zz d=true→(cs.set off d).all Zz=true
 | [],_,_,h,_=>h
 | c::cs,off,d,h,hd=>by
  simp only [List.all_cons,Bool.and_eq_true] at h
  cases off with
  | zero=>simp [hd];simpa using h.2
  | succ off=>simp [h.1];simpa using Zd8 (off:=off) h.2 hd
theorem Z1X (tm:Array Value) (V:Nat):∀ (as:List Acc) (j:Nat) (b:Tr DV) (no:Tr Z8) (β:Bi) (r:Tr DV×Tr Z8),Yd E n0 j as (b,no)=some r →
  HR E w0 G0 D w β G no.get→FrM β G b.get tm→(∀ t d,b.get t=some d→Nat.testBit V t=true)→(∀ i,n0≤i→no.get i=none→ZJ β no.get i)→(∀ i,n0+j+as.length≤i→no.get i=none) →
  ∃ β',Ext β G β' G∧Z4d n0 β β'∧HR E w0 G0 D w β' G r.2.get∧FrM β' G r.1.get tm∧(∀ t d,r.1.get t=some d→Nat.testBit V t=true)∧(∀ i,n0+j+as.length≤i→ZJ β' r.2.get i) ∧
   ∀ i,i<n0→no.get i=none→r.2.get i=none
 | [],j,b,no,β,r,h,hh,hf,hd,hfr,hn=>by
  simp only [Yd,Option.some.injEq] at h;subst h
  exact ⟨β,Ext.refl β G,⟨fun _ _=>rfl,fun _ _ _=>rfl⟩,hh,hf,hd,fun i hi=>hfr i (by simp at hi;omega) (hn i hi),fun _ _ h=>h⟩
 | ac::as,j,b,no,β,r,h,hh,hf,hd,hfr,hn=>by
  simp only [List.length_cons] at hn ⊢
  have skip:Yd E n0 (j+1) as (b,no)=some r→∃ β',Ext β G β' G∧Z4d n0 β β'∧HR E w0 G0 D w β' G r.2.get∧FrM β' G r.1.get tm∧(∀ t d,r.1.get t=some d→Nat.testBit V t=true)∧(∀ i,n0+j+(as.length+1)≤i→ZJ β' r.2.get i) ∧
   ∀ i,i<n0→no.get i=none→r.2.get i=none:=fun h=>by
   obtain ⟨β',k1,k2,k3,k4,k5,k6,k7⟩:=Z1X tm V as (j+1) b no β r h hh hf hd hfr (fun i hi=>hn i (by omega))
   exact ⟨β',k1,k2,k3,k4,k5,fun i hi=>k6 i (by omega),k7⟩
  have add:∀ (b1:Tr DV) (no1:Tr Z8) (e:TypeId) (ei:TI),E.ty e=some ei→0<ei.size→no.get (n0+j)=none→Yd E n0 (j+1) as (b1,no1.set (n0+j) (some (.row e [] 0 0)))=some r →
    (∀ i,i≠n0+j→(no1.get i=none↔no.get i=none)) →
    (∀ β1,Ext β G β1 G→Z4d n0 β β1→(∀ i,i≠n0+j→β1.blk i=β.blk i∧∀ u,β1.hdr i u=β.hdr i u)→β1.hdr (n0+j) 0=some (.slice none 0 0)→FrM β1 G b1.get tm∧(∀ t d,b1.get t=some d→Nat.testBit V t=true)∧HR E w0 G0 D w β1 G (fun i=>if i=n0+j then none else no1.get i)) →
    ∃ β',Ext β G β' G∧Z4d n0 β β'∧HR E w0 G0 D w β' G r.2.get∧FrM β' G r.1.get tm∧(∀ t d,r.1.get t=some d→Nat.testBit V t=true)∧(∀ i,n0+j+(as.length+1)≤i→ZJ β' r.2.get i) ∧
     ∀ i,i<n0→no.get i=none→r.2.get i=none:=fun b1 no1 e ei hei hpos hnone hrec hno1 hb1=>by
   have hfresh:=hfr (n0+j) (by omega) hnone
   let β1:Bi:={ β with hdr:=fun i u=>if i=n0+j∧u=0 then some (.slice none 0 0) else β.hdr i u }
   have hx1:Ext β G β1 G:=⟨fun _ _ _ h=>h,fun _ _ h=>h,fun i u v hv=>by
    by_cases e1:i=n0+j∧u=0
    ·rw [e1.1,hfresh.hdr] at hv;cases hv
    ·simp only [β1,if_neg e1];exact hv⟩
   have hag1:Z4d n0 β β1:=⟨fun _ _=>rfl,fun i hi u=>by
    have:¬ (i=n0+j∧u=0):=by omega
    simp only [β1,if_neg this]⟩
   have hoth:∀ i,i≠n0+j→β1.blk i=β.blk i∧∀ u,β1.hdr i u=β.hdr i u:=fun i hi=>⟨rfl,fun u=>by simp [β1,hi]⟩
   obtain ⟨hf1,hd1,hh1⟩:=hb1 β1 hx1 hag1 hoth (by simp [β1])
   have hh2:HR E w0 G0 D w β1 G (no1.set (n0+j) (some (.row e [] 0 0))).get:=by
    refine (hh1.move (fun _=>False) (n0+j) (.row e [] 0 0) (Ext.refl _ _) hh1.below (fun _ _ _=>rfl) (fun _ _=>rfl) (Nat.le_refl _) (fun _ hf=>hf.elim) (fun _ _ _ hf=>hf.elim) (fun _ hf=>hf.elim) ?_ ?_ ?_ (fun _ _=>⟨rfl,fun _=>rfl⟩)).eq fun i => ?_
    ·refine ⟨.slice none 0 0,[],by simp [β1],⟨by simp,.inl ⟨rfl,rfl⟩⟩,Zo.2 rfl,by simp,⟨by rw [Z5Z hei];exact hpos,Nat.le_refl _⟩,fun b hb=>by simp [Value.ownBlock] at hb,fun u' hu' => ?_⟩
     have:¬ (u'=0):=by omega
     simp [β1,this,hfresh.hdr]
    ·rintro x ⟨m,c,hb⟩;simp [β1] at hb
    ·rintro x ⟨m,c,hb⟩;simp [β1] at hb
    ·rw [Y2,Tr.get_set]
     by_cases e1:i=n0+j<;>simp [e1]
   have hs1:∀ i,n0≤i→(no1.set (n0+j) (some (.row e [] 0 0))).get i=none→ZJ β1 (no1.set (n0+j) (some (.row e [] 0 0))).get i:=fun i hi hq=>by
    have hq0:=hq
    rw [Tr.get_set] at hq
    by_cases e1:i=n0+j
    ·rw [if_pos e1] at hq;cases hq
    ·rw [if_neg e1] at hq
     have:=hfr i hi ((hno1 i e1).1 hq)
     exact ⟨(hoth i e1).1.trans this.blk,fun u=>((hoth i e1).2 u).trans (this.hdr u),hq0⟩
   have hs2:∀ i,n0+(j+1)+as.length≤i→(no1.set (n0+j) (some (.row e [] 0 0))).get i=none:=fun i hi=>by
    rw [Tr.get_set,if_neg (by omega)]
    exact (hno1 i (by omega)).2 (hn i (by omega))
   obtain ⟨β',k1,k2,k3,k4,k5,k6,k7⟩:=Z1X tm V as (j+1) b1 _ β1 r hrec hh2 hf1 hd1 hs1 hs2
   refine ⟨β',hx1.trans k1,⟨fun i hi=>(k2.blk i hi).trans (hag1.blk i hi),fun i hi u=>(k2.hdr i hi u).trans (hag1.hdr i hi u)⟩,k3,k4,k5,fun i hi=>k6 i (by omega),fun i hi hq=>k7 i hi ?_⟩
   rw [Tr.get_set,if_neg (by omega)];exact (hno1 i (by omega)).2 hq
  cases ac with
  | slot t e =>
   simp only [Yd] at h
   split at h
   ·rename_i hbt
    obtain ⟨ei,hei,h⟩:=Z0 h
    obtain ⟨hq,h⟩:=Z2 h
    simp only [Bool.and_eq_true,Option.isNone_iff_eq_none] at hq
    refine add _ no e ei hei (Nat.le_of_ble_eq_true hq.1) hq.2 h (fun _ _=>Iff.rfl) fun β1 hx1 hag1 hoth hn1=>⟨fun t' d ht => ?_,fun t' d ht => ?_,?_⟩
    ·rw [Tr.get_set] at ht
     by_cases e1:t'=t
     ·subst e1
      rw [if_pos rfl] at ht;cases ht
      obtain ⟨v,h1,h2⟩:=hf t' _ hbt
      rw [Z2f] at h2
      exact ⟨v,h1,Z3q.2 ⟨by rw [hn1,h2],_,_,_,h2⟩⟩
     ·rw [if_neg e1] at ht
      obtain ⟨v,h1,h2⟩:=hf t' d ht
      exact ⟨v,h1,Rep.mono hx1 d v h2⟩
    ·rw [Tr.get_set] at ht
     by_cases e1:t'=t
     ·subst e1;exact hd t' _ hbt
     ·rw [if_neg e1] at ht;exact hd t' d ht
    ·exact HR.rebi (hh.less fun i o hi=>by
      by_cases e1:i=n0+j
      ·rw [if_pos e1] at hi;cases hi
      ·rw [if_neg e1] at hi;exact hi) hx1 fun i o hi=>by
      by_cases e1:i=n0+j
      ·rw [if_pos e1] at hi;cases hi
      ·exact hoth i e1
   ·exact skip h
  | cell t off e =>
   simp only [Yd] at h
   split at h
   ·split at h
    ·split at h
     ·rename_i q hbt _ ct cs hnq _ hcs
      obtain ⟨ei,hei,h⟩:=Z0 h
      obtain ⟨hq,h⟩:=Z2 h
      simp only [Bool.and_eq_true,Option.isNone_iff_eq_none] at hq
      have hqn:q≠n0+j:=fun e1=>by rw [e1,hq.2] at hnq;cases hnq
      refine add b _ e ei hei (Nat.le_of_ble_eq_true hq.1) hq.2 h (fun i hi => ?_) fun β1 hx1 hag1 hoth hn1=>⟨hf.mono hx1,hd,?_⟩
      ·rw [Tr.get_set]
       by_cases e1:i=q
       ·subst e1;simp [hnq]
       ·rw [if_neg e1]
      ·have hh1:HR E w0 G0 D w β1 G (fun i=>if i=n0+j then none else no.get i):=HR.rebi (hh.less fun i o hi=>by
        by_cases e1:i=n0+j
        ·rw [if_pos e1] at hi;cases hi
        ·rw [if_neg e1] at hi;exact hi) hx1 fun i o hi=>by
        by_cases e1:i=n0+j
        ·rw [if_pos e1] at hi;cases hi
        ·exact hoth i e1
       obtain ⟨bk,vs,m1,m2,m3,m4,m5⟩:=hh1.obj q (.cells ct cs) (by rw [if_neg hqn];exact hnq)
       obtain ⟨v,m6,m7⟩:=Z3A m3 hcs
       rw [Z2f] at m7;subst m7
       refine (hh1.move (fun _=>False) q (.cells ct (cs.set off (.rs (n0+j) 0))) (Ext.refl _ _) hh1.below (fun _ _ _=>rfl) (fun _ _=>rfl) (Nat.le_refl _) (fun _ hf=>hf.elim) (fun _ _ _ hf=>hf.elim) (fun _ hf=>hf.elim) ?_ ?_ ?_ (fun _ _=>⟨rfl,fun _=>rfl⟩)).eq fun i => ?_
       ·exact ⟨bk,vs,m1,m2,ZbL m3 m6 (Z3q.2 ⟨hn1,_,_,_,rfl⟩),Zd8 m4 rfl,m5⟩
       ·intro x hx
        exact .inr ⟨.cells ct cs,by rw [if_neg hqn];exact hnq,hx⟩
       ·intro x hx
        exact (hh1.own q (.cells ct cs) x (by rw [if_neg hqn];exact hnq) hx).2.1
       ·rw [Y2,Tr.get_set]
        by_cases e1:i=q
        ·subst e1;simp [hqn]
        ·simp [e1]
     ·exact skip h
    ·exact skip h
   ·exact skip h
end
end Go.Ab
namespace Go.Ab
open Go.RowKit
section
variable {P:Program} {E:Env} {w0:World} {G0:Gh} {outer:DD} {own:List Nat} {V nt:Nat} {a:Act} {w:World} {β:Bi} {G:Gh} {n0:Nat}
abbrev SS (E:Env) (w0:World) (G0:Gh) (outer:DD) (V nt:Nat) (own:List Nat) (s:St) (a:Act) (w:World) (β:Bi) (G:Gh):Prop :=
 MI E w0 G0 outer V nt own s.base.get s.base s.objs.get s.next a w β G
theorem Zf1 {id:Nat} {x:Z8} (h:Z2m E w0.heap.size w β G id x):Z2m E w0.heap.size w β G id (Z4v x):=by
 cases x with
 | row t es p u =>
  obtain ⟨hdr,vals,k1,k2,k3,k4,k5,k6,k7⟩:=h
  exact ⟨hdr,vals,k1,k2,k3,k4,⟨k5.1,Z8B _ _⟩,fun b hb o ho=>k6 b hb o (Nat.le_trans (Nat.mul_le_mul_right _ (Z8B _ _)) ho),k7⟩
 | _=>exact h
theorem Z6I {id:Nat} {x:Z8} {b:Nat}:Yl β id (Z4v x) b↔Yl β id x b:=by cases x<;>exact Iff.rfl
theorem Tr.mapv_get1 {α γ:Type} (f:α→γ):∀ (t:Tr α) (k:Nat),(t.mapv f).get k=(t.get k).map f
 | .leaf,_=>rfl
 | .node l v r,k=>by
  simp only [Tr.mapv,Tr.get]
  cases Nat.beq k 0 with
  | true=>rfl
  | false =>
   simp only [cond_false]
   cases Nat.beq (k % 2) 1 with
   | true=>exact mapv_get1 f l _
   | false=>exact mapv_get1 f r _
theorem HR.lift {h:Nat→Option Z8} {D:DD} (hh:HR E w0 G0 D w β G h) {h':Nat→Option Z8} (hl:∀ i,h' i=(h i).map Z4v):HR E w0 G0 D w β G h':=by
 have key:∀ i x',h' i=some x'→∃ x,h i=some x∧x'=Z4v x:=fun i x' hi=>by
  rw [hl i] at hi
  cases hq:h i with
  | none=>rw [hq] at hi;cases hi
  | some x=>rw [hq] at hi;cases hi;exact ⟨x,rfl,rfl⟩
 refine ⟨hh.below,hh.g0,hh.agree,fun i x' hi => ?_,fun i x' b hi hb => ?_,fun i j x y b hi hj hb hc => ?_,hh.marks⟩
 ·obtain ⟨x,h1,rfl⟩:=key i x' hi
  exact Zf1 (hh.obj i x h1)
 ·obtain ⟨x,h1,rfl⟩:=key i x' hi
  exact hh.own i x b h1 (Z6I.1 hb)
 ·obtain ⟨x',h1,rfl⟩:=key i x hi
  obtain ⟨y',h2,rfl⟩:=key j y hj
  exact hh.inj i j x' y' b h1 h2 (Z6I.1 hb) (Z6I.1 hc)
theorem ZbB {hint:Z3I} {s s':St} (hn:ZbA E hint n0 s=some s') (hm:SS E w0 G0 outer V nt own s a w β G) :
  ∃ β',SS E w0 G0 outer V nt own s' a w β' G∧Z4d n0 β β'∧(∀ i,i<n0→s.objs.get i=none→s'.objs.get i=none)∧n0≤s'.next:=by
 unfold ZbA at hn
 simp only at hn
 obtain ⟨hu,hn⟩:=Z2 hn
 obtain ⟨b,hb,hn⟩:=Z0 hn
 obtain ⟨o1,ho1,hn⟩:=Z0 hn
 obtain ⟨o2,ho2,hn⟩:=Z0 hn
 obtain ⟨r,hr,hn⟩:=Z0 hn
 cases hn
 generalize Zad s.objs s.base n0 hint.keep (hint.accs.map (Z5q s.objs s.base))=XL at hu hb ho1 ho2 hr
 generalize hLdef:XL.map some++hint.accs.map (Z5q s.objs s.base)=L at hu hb ho1 ho2
 have hLlen:L.length=XL.length+hint.accs.length:=by rw [←hLdef,List.length_append,List.length_map,List.length_map]
 have hspec:∀ i x',o2.get i=some x'→((i<n0∧∀ (j v:Nat),L[j]? ≠ some (some (i,v)))∧∃ x,s.objs.get i=some x∧Z3p n0 L x=some x')∨(∃ j id v e es p,i=n0+j∧L[j]? = some (some (id,v))∧s.objs.get id=some (.row e es p v)∧x' = .row e es p 0):=fun i x' hi=>by
  rcases Z2x ho2 i with ⟨h1,h2⟩|⟨j,id,v,e,es,p,h1,h2,h3,h4⟩
  ·rw [h1] at hi
   rcases Tr.tm_get1 ho1 i with ⟨_,h4⟩|⟨x,y,h3,h4,h5⟩
   ·rw [h4] at hi;cases hi
   ·rw [h5] at hi
    cases hl:(Nat.blt i n0 && !Z2W i L) with
    | true =>
     rw [hl] at h4
     simp only [cond_true] at h4
     obtain ⟨z,h6,h7⟩:=Z0 h4
     cases h7
     cases hi
     simp only [Bool.and_eq_true,Bool.not_eq_true',Tr.blt_dec,decide_eq_true_eq] at hl
     exact .inl ⟨⟨hl.1,Z5z hl.2⟩,x,h3,h6⟩
    | false =>
     rw [hl] at h4
     simp only [cond_false] at h4
     cases h4
     cases hi
  ·rw [h4] at hi;cases hi
   exact .inr ⟨j,id,v,e,es,p,by omega,h2,h3,rfl⟩
 have hh1:=Zfj hm.hr hu hspec
 have hbase:∀ t d',b.get t=some d'→∃ d,s.base.get t=some d∧ren n0 L d=some d':=fun t d' ht=>by
  rcases Tr.tm_get1 hb t with ⟨_,h4⟩|⟨x,y,h3,h4,h5⟩
  ·rw [h4] at ht;cases ht
  ·rw [h5] at ht
   subst ht
   cases hk:Nat.testBit hint.keep t with
   | true =>
    rw [hk] at h4
    simp only [cond_true] at h4
    obtain ⟨z,h6,h7⟩:=Z0 h4
    cases h7
    exact ⟨x,h3,h6⟩
   | false =>
    rw [hk] at h4
    simp only [cond_false] at h4
    cases h4
 have hf1:FrM (Z1b n0 L β) G b.get a.tmps:=fun t d' ht=>by
  obtain ⟨d,h1,h2⟩:=hbase t d' ht
  obtain ⟨v,h3,h4⟩:=hm.fr t d h1
  exact ⟨v,h3,(ZaA h2 h4).1⟩
 have hd1:∀ t d,b.get t=some d→Nat.testBit V t=true:=fun t d' ht=>by
  obtain ⟨d,h1,_⟩:=hbase t d' ht
  exact hm.dom t d h1
 have hfr1:∀ i,n0≤i→o2.get i=none→ZJ (Z1b n0 L β) o2.get i:=fun i hi hq=>by
  have h1:¬ i<n0:=by omega
  refine ⟨by simp [Z1b,h1],fun u => ?_,hq⟩
  simp only [Z1b,h1,if_false]
  by_cases hu0:u=0
  ·rw [if_pos hu0]
   split
   ·rename_i id v hj
    rcases Z2x ho2 i with ⟨h2,h3⟩|⟨j,id',v',e,es,p,h2,h3,h4,h5⟩
    ·exact absurd hj (h3 (i-n0) id v (by omega))
    ·rw [h5] at hq;cases hq
   ·rfl
  ·rw [if_neg hu0]
 have hn1:∀ i,n0+XL.length+hint.accs.length≤i→o2.get i=none:=fun i hi=>by
  cases hq:o2.get i with
  | none=>rfl
  | some x =>
   rcases hspec i x hq with ⟨h1,_⟩|⟨j,id,v,e,es,p,h1,h2,_⟩
   ·have:=h1.1;omega
   ·have:=(List.getElem?_eq_some_iff.1 h2).1
    omega
 obtain ⟨β',k1,k2,k3,k4,k5,k6,k7⟩:=Z1X a.tmps V hint.accs XL.length b o2 _ r hr hh1 hf1 hd1 hfr1 hn1
 have hag:=Z4H n0 L β
 refine ⟨β',⟨k4,k5,hm.sz,k3,fun i hi=>k6 i hi,hm.df⟩,⟨fun i hi=>(k2.blk i hi).trans (hag.blk i hi),fun i hi u=>(k2.hdr i hi u).trans (hag.hdr i hi u)⟩,fun i hi hq=>k7 i hi ?_,by show n0≤n0+XL.length+hint.accs.length;omega⟩
 cases hz:o2.get i with
 | none=>rfl
 | some x =>
  rcases hspec i x hz with ⟨_,x',h2,_⟩|⟨j,id,v,e,es,p,h1,_⟩
  ·rw [hq] at h2;cases h2
  ·omega
theorem ZcB {hint:Z3I} {s s':St} (hn:Zbz E hint n0 s=some s') (hm:SS E w0 G0 outer V nt own s a w β G) :
  ∃ β',SS E w0 G0 outer V nt own s' a w β' G∧Z4d n0 β β'∧(∀ i,i<n0→s.objs.get i=none→s'.objs.get i=none)∧n0≤s'.next:=by
 unfold Zbz at hn
 obtain ⟨s1,h1,hn⟩:=Z0 hn
 cases hn
 obtain ⟨β',k1,k2,k3,k4⟩:=ZbB h1 hm
 cases hint.raw with
 | true=>exact ⟨β',k1,k2,k3,k4⟩
 | false =>
  simp only [cond_false]
  have hg:∀ i,(s1.objs.mapv Z4v).get i=(s1.objs.get i).map Z4v:=Tr.mapv_get1 Z4v _
  refine ⟨β',⟨k1.fr,k1.dom,k1.sz,k1.hr.lift hg,fun i hi => ?_,k1.df⟩,k2,fun i hi hq => ?_,k4⟩
  ·have hf:=k1.fresh i hi
   exact ⟨hf.blk,hf.hdr,by show (s1.objs.mapv Z4v).get i=none;rw [hg,hf.h];rfl⟩
  ·show (s1.objs.mapv Z4v).get i=none
   rw [hg,k3 i hi hq];rfl
end
end Go.Ab
namespace Go.Ab
open Go.RowKit
theorem Z2V {i:Nat}:∀ {l:List Nat},Z3o i l=true↔i∈l
 | []=>by simp [Z3o]
 | j::l=>by
  simp only [Z3o,Tr.beq_dec,List.mem_cons]
  by_cases e:i=j
  ·simp [e]
  ·simp [e,Z2V (l:=l)]
theorem Z4S {i:Nat}:∀ {l:List Nat},i∈l→Z1F i l<Z29 l
 | j::l,h=>by
  simp only [Z1F,Z29,Tr.beq_dec]
  by_cases e:i=j
  ·simp [e]
  ·have:=Z4S (l:=l) (by simpa [e] using h)
   simp [e,this]
theorem Z3T {d i:Nat}:∀ {l:List Nat},i∈l→Z5A d (Z1F i l) l=i
 | j::l,h=>by
  simp only [Z1F,Tr.beq_dec]
  by_cases e:i=j
  ·simp [e,Z5A]
  ·have:=Z3T (d:=d) (l:=l) (by simpa [e] using h)
   simp [e,Z5A,this]
theorem Zao {d:Nat}:∀ {l:List Nat} {j:Nat},j<Z29 l→Z5A d j l∈l
 | [],j,h=>by simp [Z29] at h
 | i::l,0,_=>by simp [Z5A]
 | i::l,j+1,h=>by
  simp only [Z29] at h
  simp only [Z5A,List.mem_cons]
  exact .inr (Zao (by omega))
theorem Z7G {d:Nat}:∀ {l:List Nat} {j:Nat},Z91 l=true→j<Z29 l→Z1F (Z5A d j l) l=j
 | [],j,_,h=>by simp [Z29] at h
 | i::l,0,_,_=>by simp [Z5A,Z1F]
 | i::l,j+1,hu,h=>by
  simp only [Z29] at h
  simp only [Z91,Bool.and_eq_true,Bool.not_eq_true'] at hu
  have hm:=Zao (d:=d) (l:=l) (j:=j) (by omega)
  have hne:¬ Z5A d j l=i:=fun e=>by
   have:=Z2V.2 hm
   rw [e,hu.1] at this;cases this
  simp only [Z5A,Z1F,Tr.beq_dec,hne,decide_false,cond_false,Z7G hu.2 (by omega:j<Z29 l)]
theorem Z4W {j:Nat}:∀ {n i:Nat},j∈upN i n↔i≤j∧j<i+n
 | 0,i=>by simp [upN]
 | n+1,i=>by
  simp only [upN,List.mem_cons,Z4W]
  omega
theorem Zam {k i:Nat}:∀ {l:List Nat},i∈geN k l↔i∈l∧k≤i
 | []=>by simp [geN]
 | j::l=>by
  simp only [geN]
  cases hb:Nat.ble k j with
  | true =>
   have:=Nat.le_of_ble_eq_true hb
   simp only [cond_true,List.mem_cons,Zam (l:=l)]
   constructor
   ·rintro (e|⟨h1,h2⟩)
    ·subst e;exact ⟨.inl rfl,this⟩
    ·exact ⟨.inr h1,h2⟩
   ·rintro ⟨e|e,h2⟩
    ·exact .inl e
    ·exact .inr ⟨e,h2⟩
  | false =>
   have:¬ k≤j:=fun h=>by rw [Nat.ble_eq_true_of_le h] at hb;cases hb
   simp only [cond_false,List.mem_cons,Zam (l:=l)]
   constructor
   ·rintro ⟨h1,h2⟩;exact ⟨.inr h1,h2⟩
   ·rintro ⟨e|e,h2⟩
    ·subst e;exact absurd h2 this
    ·exact ⟨e,h2⟩
theorem Tr.allV_get {α:Type} {p:α→Bool}:∀ {t:Tr α},t.allV p=true→∀ {k:Nat} {x:α},t.get k=some x→p x=true
 | .leaf,_,k,x,h=>by cases h
 | .node l v r,ha,k,x,h=>by
  simp only [Tr.allV,Bool.and_eq_true] at ha
  rw [Tr.get_node] at h
  by_cases e0:k=0
  ·rw [if_pos e0] at h
   subst h
   exact ha.2.1
  ·rw [if_neg e0] at h
   by_cases e1:k % 2=1
   ·rw [if_pos e1] at h;exact Tr.allV_get ha.1 h
   ·rw [if_neg e1] at h;exact Tr.allV_get ha.2.2 h
theorem Tr.mapv_get' {α β:Type} (f:α→β):∀ (t:Tr α) (k:Nat),(t.mapv f).get k=(t.get k).map f
 | .leaf,_=>rfl
 | .node l v r,k=>by
  simp only [Tr.mapv]
  rw [Tr.get_node,Tr.get_node]
  by_cases e0:k=0
  ·rw [if_pos e0,if_pos e0]
  ·rw [if_neg e0,if_neg e0]
   by_cases e1:k % 2=1
   ·rw [if_pos e1,if_pos e1];exact Tr.mapv_get' f l _
   ·rw [if_neg e1,if_neg e1];exact Tr.mapv_get' f r _
theorem Tr.ents_get {α:Type}:∀ (t:Tr α) (a b k:Nat) (x:α),t.get k=some x→(a*k+b,x)∈t.ents a b
 | .leaf,_,_,_,_,h=>by cases h
 | .node l v r,a,b,k,x,h=>by
  rw [Tr.get_node] at h
  simp only [Tr.ents,List.mem_append]
  by_cases e0:k=0
  ·rw [if_pos e0] at h
   subst h
   subst e0
   exact .inr (.inl (by simp))
  ·rw [if_neg e0] at h
   by_cases e1:k % 2=1
   ·rw [if_pos e1] at h
    have:=Tr.ents_get l (2*a) (a+b) _ _ h
    rw [show 2*a*(k / 2)+(a+b)=a*k+b by
     have:k=2*(k / 2)+1:=by omega
     generalize k / 2=m at this;subst this
     rw [Nat.mul_add,←Nat.mul_assoc,Nat.mul_comm a 2];omega] at this
    exact .inl this
   ·rw [if_neg e1] at h
    have:=Tr.ents_get r (2*a) (2*a+b) _ _ h
    rw [show 2*a*(k / 2-1)+(2*a+b)=a*k+b by
     have:k=2*(k / 2-1)+2:=by omega
     generalize k / 2-1=m at this;subst this
     rw [Nat.mul_add,←Nat.mul_assoc,Nat.mul_comm a 2];omega] at this
    exact .inr (.inr this)
theorem Z3Y (h:Nat→Option Z8):∀ (n:Nat) (todo acc:List Nat) (i:Nat),i∈Z1a h n todo acc→(∀ j∈acc,∃ x,h j=some x)→∃ x,h i=some x
 | 0,_,acc,i,hi,ha=>ha i hi
 | n+1,[],acc,i,hi,ha=>ha i hi
 | n+1,j::todo,acc,i,hi,ha=>by
  simp only [Z1a] at hi
  cases hq:acc.any (Nat.beq j) with
  | true=>rw [hq] at hi;exact Z3Y h n _ _ i hi ha
  | false =>
   rw [hq] at hi
   simp only [cond_false] at hi
   cases hj:h j with
   | none=>rw [hj] at hi;exact Z3Y h n _ _ i hi ha
   | some o =>
    rw [hj] at hi
    refine Z3Y h n _ _ i hi fun k hk => ?_
    rcases List.mem_cons.1 hk with e|e
    ·exact e ▸ ⟨o,hj⟩
    ·exact ha k e
theorem Zaq {p:Nat→Bool} {h:Nat→Option Z8}:∀ {is:List Nat},okH p h is=true→∀ i∈is,∀ o,h i=some o→okO p o=true
 | [],_,i,hi,_,_=>by cases hi
 | j::is,hb,i,hi,o,ho=>by
  simp only [okH,Bool.and_eq_true] at hb
  rcases List.mem_cons.1 hi with e|e
  ·subst e;rw [ho] at hb;exact hb.1
  ·exact Zaq hb.2 i e o ho
mutual
theorem Z6d:∀ d:DV,okD (fun _=>true) d=true
 | .ptr _ _ | .rptr _ _ _ _ _ | .rs _ _ | .map _ | .iter _ | .yld _=>by simp [okD]
 | .agg cs=>by simp only [okD];exact Z2K cs
 | .tup cs=>by simp only [okD];exact Z2K cs
 | .fn _ a b=>by simp only [okD,Z2K a,Z2K b,Bool.and_self]
 | .iface _ v=>by simp only [okD];exact Z6d v
 | .bool _ | .int _ _ | .str _ | .nilp | .pub _ | .nils | .sl _ | .nilfn | .nilmap | .nilif=>by simp [okD]
theorem Z2K:∀ ds:List DV,Z1c (fun _=>true) ds=true
 | []=>by simp [Z1c]
 | d::ds=>by simp only [Z1c,Z6d d,Z2K ds,Bool.and_self]
end
theorem Z6A {α:Type} {p:α→Bool} (hp:∀ x,p x=true):∀ t:Tr α,t.allV p=true
 | .leaf=>rfl
 | .node l v r=>by
  simp only [Tr.allV,Z6A hp l,Z6A hp r,Bool.true_and,Bool.and_true]
  cases v with
  | none=>rfl
  | some x=>exact hp x
theorem Zfb (o:Z8):okO (fun _=>true) o=true:=by
 cases o<;>simp only [okO]
 ·exact Z2K _
 ·exact Z6A Z6d _
def Z77 (p:Nat→Bool) (f:Nat→Nat) (β β':Bi):Prop:=∀ i,p i=true→β'.blk (f i)=β.blk i∧∀ u,β'.hdr (f i) u=β.hdr i u
section
variable {P:Program} {E:Env} {w0:World} {G0:Gh} {D:DD} {w:World} {β β':Bi} {G:Gh} {h:Nat→Option Z8} {p:Nat→Bool} {f:Nat→Nat}
mutual
theorem Rep.rn (hx:Z77 p f β β'):∀ (d:DV) (v:Value),okD p d=true→Rep β G d v→Rep β' G (rn f d) v
 | .bool _,_,_,h=>by unfold Ab.rn;unfold Rep at h ⊢;exact h
 | .int _ _,_,_,h=>by unfold Ab.rn;unfold Rep at h ⊢;exact h
 | .str _,_,_,h=>by unfold Ab.rn;unfold Rep at h ⊢;exact h
 | .nilp,_,_,h=>by unfold Ab.rn;unfold Rep at h ⊢;exact h
 | .ptr i _,_,hb,h=>by
  unfold Ab.rn;unfold Rep at h ⊢;rw [(hx i hb).1];exact h
 | .rptr i _ _ _ _,_,hb,h=>by
  unfold Ab.rn;unfold Rep at h ⊢;simp only [(hx i hb).2];exact h
 | .pub cs,_,_,h=>by
  unfold Ab.rn
  unfold Rep at h ⊢
  obtain ⟨h0,b,o,h1,h2⟩:=h
  exact ⟨h0,b,o,h1,Pub.free cs b o h0 h2⟩
 | .nils,_,_,h=>by unfold Ab.rn;unfold Rep at h ⊢;exact h
 | .sl es,v,_,h=>by unfold Ab.rn;exact Rep.free _ v rfl h
 | .rs i _,_,hb,h=>by
  unfold Ab.rn;unfold Rep at h ⊢;rw [(hx i hb).2];exact h
 | .agg cs,_,hb,h=>by unfold Ab.rn;unfold Rep at h ⊢;obtain ⟨vs,h1,h2⟩:=h;exact ⟨vs,h1,Zd.rn hx cs vs (by simpa [okD] using hb) h2⟩
 | .tup cs,_,hb,h=>by unfold Ab.rn;unfold Rep at h ⊢;obtain ⟨vs,h1,h2⟩:=h;exact ⟨vs,h1,Zd.rn hx cs vs (by simpa [okD] using hb) h2⟩
 | .fn _ a c,_,hb,h=>by
  unfold Ab.rn
  unfold Rep at h ⊢
  obtain ⟨as,cs,h1,h2,h3⟩:=h
  have hb':Z1c p a=true∧Z1c p c=true:=by simpa [okD] using hb
  exact ⟨as,cs,h1,Zd.rn hx a as hb'.1 h2,Zd.rn hx c cs hb'.2 h3⟩
 | .nilfn,_,_,h=>by unfold Ab.rn;unfold Rep at h ⊢;exact h
 | .map i,_,hb,h=>by
  unfold Ab.rn;unfold Rep at h ⊢;rw [(hx i hb).1];exact h
 | .nilmap,_,_,h=>by unfold Ab.rn;unfold Rep at h ⊢;exact h
 | .iface _ d,_,hb,h=>by unfold Ab.rn;unfold Rep at h ⊢;obtain ⟨u,h1,h2⟩:=h;exact ⟨u,h1,Rep.rn hx d u (by simpa [okD] using hb) h2⟩
 | .nilif,_,_,h=>by unfold Ab.rn;unfold Rep at h ⊢;exact h
 | .iter i,_,hb,h=>by
  unfold Ab.rn;unfold Rep at h ⊢;rw [(hx i hb).1];exact h
 | .yld i,_,hb,h=>by
  unfold Ab.rn;unfold Rep at h ⊢;rw [(hx i hb).1];exact h
theorem Zd.rn (hx:Z77 p f β β'):∀ (ds:List DV) (vs:List Value),Z1c p ds=true→Zd β G ds vs→Zd β' G (rns f ds) vs
 | [],_,_,h=>by unfold rns;unfold Zd at h ⊢;exact h
 | d::ds,_,hb,h=>by
  unfold rns
  unfold Zd at h ⊢
  have hb':okD p d=true∧Z1c p ds=true:=by simpa [Z1c] using hb
  obtain ⟨v,vs',h1,h2,h3⟩:=h
  exact ⟨v,vs',h1,Rep.rn hx d v hb'.1 h2,Zd.rn hx ds vs' hb'.2 h3⟩
end
theorem Zgh (f:Nat→Nat) (d:DV):Zz (rn f d)=Zz d:=by cases d<;>simp [rn,Zz]
theorem ZbP (f:Nat→Nat):∀ ds:List DV,(rns f ds).all Zz=ds.all Zz
 | []=>by simp [rns]
 | d::ds=>by simp only [rns,List.all_cons,Zgh,ZbP f ds]
theorem Z66:∀ {es:List (List DV)},(∀ c∈es,Za c=true)→Za es.flatten=true
 | [],_=>rfl
 | c::es,h=>by
  have happ:∀ (a b:List DV),Za a=true→Za b=true→Za (a++b)=true:=fun a b ha hb=>by
   induction a with
   | nil=>exact hb
   | cons x a ih =>
    simp only [Za,Bool.and_eq_true,List.cons_append] at ha ⊢
    exact ⟨ha.1,ih ha.2⟩
  rw [List.flatten_cons]
  exact happ _ _ (h c (by simp)) (Z66 fun c hc=>h c (by simp [hc]))
theorem Z2m.rn (hx:Z77 p f β β') {id base:Nat} (hid:p id=true):∀ {o:Z8},okO p o=true→Z2m E base w β G id o→Z2m E base w β' G (f id) (rnO f o)
 | .cells t cs,hb,hr=>by
  obtain ⟨b,vs,h1,h2,h3,h4,h5⟩:=hr
  exact ⟨b,vs,by rw [(hx id hid).1];exact h1,h2,Zd.rn hx cs _ hb h3,by rw [ZbP];exact h4,h5⟩
 | .row t es q u,_,hr=>by
  obtain ⟨hdr,vals,h1,h2,h3,h4,h5,h6,h7⟩:=hr
  exact ⟨hdr,vals,by rw [(hx id hid).2];exact h1,h2,Zd.free _ _ (Z66 fun c hc=>(h4 c hc).2.1) h3,h4,h5,h6,fun u' hu=>by rw [(hx id hid).2];exact h7 u' hu⟩
 | .map es,_,hr=>by
  obtain ⟨b,ms,clock,h1,h2,h3⟩:=hr
  exact ⟨b,ms,clock,by rw [(hx id hid).1];exact h1,h2,Z6J h3⟩
 | .siter s pos,_,hr=>by
  obtain ⟨b,h1,h2⟩:=hr
  exact ⟨b,by rw [(hx id hid).1];exact h1,h2⟩
 | .loop fid bs ps as bo bid ex,hb,hr=>by
  obtain ⟨b,tmps,df,fn,F,h1,h2,h3,h4,h5,h6⟩:=hr
  refine ⟨b,tmps,df,fn,F,by rw [(hx id hid).1];exact h1,h2,fun t d ht => ?_,h4,h5,fun t d ht => ?_⟩
  ·rw [Tr.mapv_get'] at ht
   cases hq:bs.get t with
   | none=>rw [hq] at ht;cases ht
   | some d0 =>
    rw [hq] at ht;cases ht
    obtain ⟨v,h7,h8⟩:=h3 t d0 hq
    exact ⟨v,h7,Rep.rn hx d0 v (Tr.allV_get hb hq) h8⟩
  ·rw [Tr.mapv_get'] at ht
   cases hq:bs.get t with
   | none=>rw [hq] at ht;cases ht
   | some d0=>exact h6 t d0 hq
theorem Zau (hx:Z77 p f β β') {id:Nat} (hid:p id=true) (o:Z8) (b:Nat):Yl β' (f id) (rnO f o) b↔Yl β id o b:=by
 cases o<;>simp only [rnO,Yl,(hx id hid).1,(hx id hid).2]
theorem HR.rn (hx:Z77 p f β β') (hinj:∀ i j,p i=true→p j=true→f i=f j→i=j) (hh:HR E w0 G0 D w β G h) {h':Nat→Option Z8}
  (hi:∀ i y,h' i=some y→∃ j x,p j=true∧f j=i∧h j=some x∧y=rnO f x∧okO p x=true):HR E w0 G0 D w β' G h' :=
 ⟨hh.below,hh.g0,hh.agree,fun i o ho=>by
   obtain ⟨j,x,h1,rfl,h3,rfl,h5⟩:=hi i o ho
   exact Z2m.rn hx h1 h5 (hh.obj j x h3),
  fun i o b ho hb=>by
   obtain ⟨j,x,h1,rfl,h3,rfl,h5⟩:=hi i o ho
   exact hh.own j x b h3 ((Zau hx h1 x b).1 hb),
  fun i i' o o' b ho ho' hb hb'=>by
   obtain ⟨j,x,h1,rfl,h3,rfl,h5⟩:=hi i o ho
   obtain ⟨j',x',g1,rfl,g3,rfl,g5⟩:=hi i' o' ho'
   rw [hh.inj j j' x x' b h3 g3 ((Zau hx h1 x b).1 hb) ((Zau hx g1 x' b).1 hb')],hh.marks⟩
theorem Z3C:∀ {is:List Nat} {i:Nat} {y:Z8},(Z31 f h is).get i=some y→∃ j∈is,∃ x,f j=i∧h j=some x∧y=rnO f x
 | [],i,y,hy=>by cases hy
 | j::is,i,y,hy=>by
  simp only [Z31,Tr.get_set] at hy
  by_cases e:i=f j
  ·rw [if_pos e] at hy
   cases hj:h j with
   | none=>rw [hj] at hy;cases hy
   | some x=>rw [hj] at hy;cases hy;exact ⟨j,by simp,x,e.symm,hj,rfl⟩
  ·rw [if_neg e] at hy
   obtain ⟨k,h1,x,h2⟩:=Z3C hy
   exact ⟨k,by simp [h1],x,h2⟩
theorem ZaD:∀ {is:List Nat} {j:Nat},j∈is→(∀ i∈is,f i=f j→i=j)→(Z31 f h is).get (f j)=(h j).map (rnO f)
 | i::is,j,hj,hinj=>by
  simp only [Z31,Tr.get_set]
  by_cases e:f j=f i
  ·rw [if_pos e]
   rw [hinj i (by simp) e.symm]
  ·rw [if_neg e]
   have hj':j∈is:=by
    rcases List.mem_cons.1 hj with q|q
    ·subst q;exact absurd rfl e
    ·exact q
   exact ZaD hj' fun i hi=>hinj i (by simp [hi])
theorem Z5N:∀ {is:List Nat} {i:Nat},(∀ j∈is,f j≠i)→Zp i (Z3D f h is)=none
 | [],_,_=>rfl
 | j::is,i,hn=>by
  have h1:Zp i (Z3D f h is)=none:=Z5N fun k hk=>hn k (List.mem_cons_of_mem _ hk)
  have:=hn j (by simp)
  simp only [Z3D,Zp,h1,Tr.beq_dec]
  simp [this]
theorem ZbN:∀ {is:List Nat} {j:Nat},j∈is→(∀ i∈is,f i=f j→i=j)→Zp (f j) (Z3D f h is)=some ((h j).map (rnO f))
 | i::is,j,hj,hinj=>by
  simp only [Z3D,Zp]
  by_cases hm:j∈is
  ·rw [ZbN hm fun i hi=>hinj i (by simp [hi])]
  ·have e:j=i:=by
    rcases List.mem_cons.1 hj with q|q
    ·exact q
    ·exact absurd q hm
   subst e
   have hn:Zp (f j) (Z3D f h is)=none:=Z5N fun k hk q=>by
    have:=hinj k (by simp [hk]) q
    subst this;exact hm hk
   rw [hn]
   simp
theorem Zbf {h':Nat→Option Z8} {G':Gh} (hx:Ext β G β G') (hsame:∀ i t es p u,h i=some (.row t es p u)→∃ p',h' i=some (.row t es p' u)) :
  ∀ {ds:List DV} {vs:List Value},(∀ i∈Zf ds,Z3b E β G' h' i)→Zd β G ds vs→Zd β G' (ds.map fun d=>(frz h d).getD d) vs
 | [],vs,_,hr=>by rw [Zo] at hr;exact Zo.2 hr
 | d::ds,vs,hs,hr=>by
  obtain ⟨v,vs',rfl,h1,h2⟩:=Zc.1 hr
  refine Zc.2 ⟨v,vs',rfl,?_,Zbf hx hsame (fun i hi=>hs i (by simp [Zf,hi])) h2⟩
  show Rep β G' ((frz h d).getD d) v
  cases hq:frz h d with
  | none=>exact Rep.mono hx _ _ h1
  | some d'=>exact (Z64 hx hsame hq (fun i hi=>hs i (by simp [Zf,hi])) h1).1
theorem ZfR {D:DD} {s:Tr Z8} {k:Nat} {β0:Bi} {G1:Gh} {r:DV} {o:Tr Z8} {n:Nat} {e:Ending} {w':World} (hfr:∀ id,k≤id→ZJ β0 s.get id) (hp:Z24 E w0 G0 D β0 G1 s k r o n e w')
  {y:DV×Tr Z8×Nat} (hy:Z7e k (r,o,n)=some y):Z24 E w0 G0 D β0 G1 s k y.1 y.2.1 y.2.2 e w':=by
 obtain ⟨v,β',G',rfl,hle,hgo,hhr,hf',hv⟩:=hp
 unfold Z7e at hy
 simp only at hy
 generalize hR:geN k (Z1a o.get 4096 (rid r++upN 0 k) [])=R at hy
 obtain ⟨hb,hy⟩:=Z2 hy
 cases hy
 simp only [Bool.and_eq_true] at hb
 obtain ⟨hu,hr1,hr2⟩:=hb
 have hge:∀ i∈R,k≤i:=fun i hi=>by rw [←hR] at hi;exact (Zam.1 hi).2
 have hok:∀ j,(Nat.blt j k||Z3o j R)=true↔j<k∨j∈R:=fun j=>by
  simp only [Bool.or_eq_true,Tr.blt_dec,decide_eq_true_eq,Z2V]
 have hF1:∀ j,j<k→Z27 k R j=j:=fun j hj=>by simp [Z27,Tr.blt_dec,hj]
 have hF2:∀ j,j∈R→Z27 k R j=k+Z1F j R:=fun j hj=>by
  have:=hge j hj
  simp [Z27,Tr.blt_dec,show ¬ j<k by omega]
 have hinj:∀ i j,(Nat.blt i k||Z3o i R)=true→(Nat.blt j k||Z3o j R)=true→Z27 k R i=Z27 k R j→i=j:=fun i j hi hj he=>by
  rcases (hok i).1 hi with hi|hi<;>rcases (hok j).1 hj with hj|hj
  ·rw [hF1 i hi,hF1 j hj] at he;exact he
  ·rw [hF1 i hi,hF2 j hj] at he;omega
  ·rw [hF2 i hi,hF1 j hj] at he;omega
  ·rw [hF2 i hi,hF2 j hj] at he
   have:Z1F i R=Z1F j R:=by omega
   rw [←Z3T (d:=0) hi,this,Z3T hj]
 have hin:∀ j,j∈upN 0 k++R↔j<k∨j∈R:=fun j=>by
  rw [List.mem_append,Z4W];simp
 have hsome:∀ i y,(Z31 (Z27 k R) o.get (upN 0 k++R)).get i=some y→∃ j x,(Nat.blt j k||Z3o j R)=true∧Z27 k R j=i∧o.get j=some x∧y=rnO (Z27 k R) x∧okO (fun j=>Nat.blt j k||Z3o j R) x=true:=fun i y hy=>by
  obtain ⟨j,hj,x,h1,h2,h3⟩:=Z3C hy
  exact ⟨j,x,(hok j).2 ((hin j).1 hj),h1,h2,h3,Zaq hr2 j hj x h2⟩
 let β3:Bi:=⟨fun i=>if i<k then β'.blk i else if i<k+Z29 R then β'.blk (Z5A 0 (i-k) R) else none,fun i u=>if i<k then β'.hdr i u else if i<k+Z29 R then β'.hdr (Z5A 0 (i-k) R) u else none⟩
 have hrel:Z77 (fun j=>Nat.blt j k||Z3o j R) (Z27 k R) β' β3:=fun j hj=>by
  rcases (hok j).1 hj with hj|hj
  ·rw [hF1 j hj]
   simp only [β3,if_pos hj]
   exact ⟨trivial,fun _=>trivial⟩
  ·rw [hF2 j hj]
   have:=Z4S hj
   simp only [β3,show ¬ k+Z1F j R<k by omega,if_false,show k+Z1F j R<k+Z29 R by omega,if_true,show k+Z1F j R-k=Z1F j R by omega,Z3T hj]
   exact ⟨trivial,fun _=>trivial⟩
 refine ⟨v,β3,G',rfl,Nat.le_add_right _ _,⟨⟨hgo.ext.g,fun id b hid => ?_,fun id u x hid => ?_⟩,fun id hid hn => ?_⟩,HR.rn hrel hinj hhr hsome,fun id hid=>⟨?_,fun u => ?_,?_⟩,Rep.rn hrel r v hr1 hv⟩
 ·by_cases q:id<k
  ·simp only [β3,if_pos q];exact hgo.ext.blk id b hid
  ·rw [(hfr id (by omega)).blk] at hid;cases hid
 ·by_cases q:id<k
  ·simp only [β3,if_pos q];exact hgo.ext.hdr id u x hid
  ·rw [(hfr id (by omega)).hdr] at hid;cases hid
 ·obtain ⟨k1,k2,k3⟩:=hgo.keep id hid hn
  refine ⟨?_,?_,fun u => ?_⟩
  ·have:=ZaD (f:=Z27 k R) (h:=o.get) (is:=upN 0 k++R) (j:=id) ((hin id).2 (.inl hid)) (fun i hi he=>hinj i id ((hok i).2 ((hin i).1 hi)) ((hok id).2 (.inl hid)) he)
   rw [hF1 id hid,k1] at this
   exact this
  ·simp only [β3,if_pos hid];exact k2
  ·simp only [β3,if_pos hid];exact k3 u
 ·have q:k+Z29 R≤id:=hid
  simp only [β3,show ¬ id<k by omega,if_false,show ¬ id<k+Z29 R by omega]
 ·have q:k+Z29 R≤id:=hid
  simp only [β3,show ¬ id<k by omega,if_false,show ¬ id<k+Z29 R by omega]
 ·have q:k+Z29 R≤id:=hid
  cases hq:(Z31 (Z27 k R) o.get (upN 0 k++R)).get id with
  | none=>rfl
  | some y =>
   obtain ⟨j,x,h1,h2,_⟩:=hsome id y hq
   rcases (hok j).1 h1 with hj|hj
   ·rw [hF1 j hj] at h2;omega
   ·rw [hF2 j hj] at h2
    have:=Z4S hj
    omega
theorem ZdU {callH:Yh} (hH:YY P E callH):YY P E (Z3N E callH):=fun g as o nx r o' nx' hd=>by
 unfold Z3N at hd
 obtain ⟨F,hF,hd⟩:=Z0 hd
 cases hc:F.can with
 | false=>rw [hc] at hd;exact hH g as o nx r o' nx' hd
 | true =>
  rw [hc] at hd
  simp only [cond_true] at hd
  generalize hfs:(as.map fun d=>(frz o.get d).getD d)=fs at hd
  generalize ho1:ZZ o (Zn o.get (Zf as))=o1 at hd
  generalize hR:Z1a o1.get 4096 (Z1k fs) []=R at hd
  generalize hk:Z29 R=k at hd
  obtain ⟨hb,hd⟩:=Z2 hd
  obtain ⟨⟨r1,o2,n2⟩,hcall,hd⟩:=Z0 hd
  obtain ⟨⟨r3,o3,n3⟩,hexit,hd⟩:=Z0 hd
  cases hd
  simp only [Bool.and_eq_true] at hb
  obtain ⟨hu,hb1,hb2⟩:=hb
  obtain ⟨hent,hcs⟩:=hH _ _ _ _ _ _ _ hcall
  refine ⟨hent,fun w0 G0 D w β G vs hh hfr hrep => ?_⟩
  obtain ⟨G1,hx1,hh1,hs1⟩:=Z1R hh (Zf as)
  have hrep1:Zd β G1 fs vs.toList:=by rw [←hfs];exact Zbf hx1 (Z3G _ _) hs1 hrep
  have hget1:∀ i,o1.get i=ZA o.get (Zn o.get (Zf as)) i:=fun i=>by rw [←ho1];exact Z2j _ _ _
  have hh1:HR E w0 G0 D w β G1 o1.get:=hh1.eq hget1
  have hk1:∀ i,o.get i=none→o1.get i=none:=fun i hi=>by
   rw [hget1]
   unfold ZA
   cases hq:Zp i (Zn o.get (Zf as)) with
   | none=>exact hi
   | some y =>
    obtain ⟨t',es',p',u',k1,_⟩:=Y1 o.get _ i y hq
    rw [hi] at k1;cases k1
  have hfr1:∀ id,nx≤id→ZJ β o1.get id:=fun id hid=>⟨(hfr id hid).blk,(hfr id hid).hdr,hk1 id (hfr id hid).h⟩
  have hRs:∀ i∈R,∃ x,o1.get i=some x:=fun i hi=>Z3Y _ _ _ _ _ (by rw [←hR] at hi;exact hi) (fun _ hq=>by cases hq)
  have hRlt:∀ i∈R,i<nx:=fun i hi=>by
   obtain ⟨x,hx⟩:=hRs i hi
   rcases Nat.lt_or_ge i nx with q|q
   ·exact q
   ·rw [(hfr1 i q).h] at hx;cases hx
  have hs:∀ i x,(Z2h o1.get R).get i=some x→o1.get i=some x:=fun i x hi=>by
   rw [Z1S] at hi
   split at hi
   ·exact hi
   ·cases hi
  have hsR:∀ i x,(Z2h o1.get R).get i=some x→i∈R:=fun i x hi=>by
   rw [Z1S] at hi
   split at hi
   ·assumption
   ·cases hi
  have hcut:=Zcn (D:=D) hh1 hs
  have hP1:∀ j,j<k→ZD k nx R j=Z5A 0 j R:=fun j hj=>by simp [ZD,Tr.blt_dec,hj]
  have hP2:∀ j,k≤j→ZD k nx R j=nx+(j-k):=fun j hj=>by simp [ZD,Tr.blt_dec,show ¬ j<k by omega]
  have hP3:∀ i,i∈R→ZD k nx R (Z1F i R)=i:=fun i hi=>by
   rw [hP1 _ (by rw [←hk];exact Z4S hi),Z3T hi]
  let β0:Bi:=⟨fun j=>β.blk (ZD k nx R j),fun j u=>β.hdr (ZD k nx R j) u⟩
  have hrel0:Z77 (fun i=>Z3o i R) (Z49 R) β β0:=fun i hi=>by
   have hi:=Z2V.1 hi
   show β.blk (ZD k nx R (Z1F i R))=_∧∀ u,β.hdr (ZD k nx R (Z1F i R)) u=_
   rw [hP3 i hi]
   exact ⟨rfl,fun _=>rfl⟩
  have hinj0:∀ i j,Z3o i R=true→Z3o j R=true→Z49 R i=Z49 R j→i=j:=fun i j hi hj he=>by
   have hi:=Z2V.1 hi
   have hj:=Z2V.1 hj
   have he:Z1F i R=Z1F j R:=he
   rw [←Z3T (d:=0) hi,he,Z3T hj]
  have hh0:HR E w0 G0 (Z6D D w β G1 o1.get (Z2h o1.get R).get) w β0 G1 (Z31 (Z49 R) o1.get R).get:=HR.rn hrel0 hinj0 hcut fun i y hy=>by
   obtain ⟨j,hj,x,h1,h2,h3⟩:=Z3C hy
   exact ⟨j,x,Z2V.2 hj,h1,by rw [Z1S,if_pos hj];exact h2,h3,Zaq hb2 j hj x h2⟩
  have hfr0:∀ j,k≤j→ZJ β0 (Z31 (Z49 R) o1.get R).get j:=fun j hj=>by
   have hq:=hfr (nx+(j-k)) (by omega)
   refine ⟨?_,fun u => ?_,?_⟩
   ·show β.blk (ZD k nx R j)=none
    rw [hP2 j hj];exact hq.blk
   ·show β.hdr (ZD k nx R j) u=none
    rw [hP2 j hj];exact hq.hdr u
   ·cases hq:(Z31 (Z49 R) o1.get R).get j with
    | none=>rfl
    | some y =>
     obtain ⟨i,hi,x,h1,_⟩:=Z3C hq
     have:Z1F i R<Z29 R:=Z4S hi
     have h1:Z1F i R=j:=h1
     omega
  refine Calls.mono (hcs w0 G0 _ w β0 G1 vs hh0 hfr0 (Zd.rn hrel0 _ _ hb1 hrep1)) fun e w' he => ?_
  obtain ⟨v,β3,G',rfl,hle,hgo,hhr,hf3,hv⟩:=ZfR hfr0 he hexit
  simp only at hle hgo hhr hf3 hv
  let β4:Bi:=⟨fun i=>if i∈R then β3.blk (Z1F i R) else if nx≤i then β3.blk (i-nx+k) else β.blk i,fun i u=>if i∈R then β3.hdr (Z1F i R) u else if nx≤i then β3.hdr (i-nx+k) u else β.hdr i u⟩
  have hP1m:∀ j,j<k→ZD k nx R j∈R:=fun j hj=>by rw [hP1 j hj];exact Zao (by omega)
  have hP2m:∀ j,k≤j→ZD k nx R j∉R:=fun j hj hm=>by
   rw [hP2 j hj] at hm
   have:=hRlt _ hm
   omega
  have hrel4:Z77 (fun _=>true) (ZD k nx R) β3 β4:=fun j _=>by
   by_cases q:j<k
   ·have hm:=hP1m j q
    simp only [β4,if_pos hm]
    rw [hP1 j q,Z7G hu (by omega)]
    exact ⟨rfl,fun _=>rfl⟩
   ·have hm:=hP2m j (by omega)
    simp only [β4,if_neg hm]
    rw [hP2 j (by omega),if_pos (by omega),show nx+(j-k)-nx+k=j by omega]
    refine ⟨rfl,fun u => ?_⟩
    rw [if_pos (by omega)]
  have hinj4:∀ i j,ZD k nx R i=ZD k nx R j→i=j:=fun i j he=>by
   by_cases qi:i<k<;>by_cases qj:j<k
   ·have h1:=Z7G (d:=0) hu (by omega:i<Z29 R)
    rw [←hP1 i qi,he,hP1 j qj,Z7G hu (by omega)] at h1
    exact h1.symm
   ·have:=hP1m i qi
    rw [he] at this
    exact absurd this (hP2m j (by omega))
   ·have:=hP1m j qj
    rw [←he] at this
    exact absurd this (hP2m i (by omega))
   ·rw [hP2 i (by omega),hP2 j (by omega)] at he
    omega
  have hsome4:∀ i y,(Z31 (ZD k nx R) o3.get (upN 0 n3)).get i=some y→∃ j x,j<n3∧ZD k nx R j=i∧o3.get j=some x∧y=rnO (ZD k nx R) x:=fun i y hy=>by
   obtain ⟨j,hj,x,h1,h2,h3⟩:=Z3C hy
   exact ⟨j,x,by rw [Z4W] at hj;omega,h1,h2,h3⟩
  have hat4:∀ j,j<n3→(Z31 (ZD k nx R) o3.get (upN 0 n3)).get (ZD k nx R j)=(o3.get j).map (rnO (ZD k nx R)):=fun j hj =>
   ZaD (Z4W.2 ⟨by omega,by omega⟩) fun i _ he=>hinj4 i j he
  have hpost:Z24 E w0 G0 (Z6D D w β G1 o1.get (Z2h o1.get R).get) β G1 (Z2h o1.get R) nx (rn (ZD k nx R) r3) (Z31 (ZD k nx R) o3.get (upN 0 n3)) (nx+(n3-k)) (.returned v) w':=by
   refine ⟨v,β4,G',rfl,Nat.le_add_right _ _,⟨⟨hgo.ext.g,fun id b hid => ?_,fun id u x hid => ?_⟩,fun id hid hn => ?_⟩,?_,fun id hid => ?_,Rep.rn hrel4 _ _ (Z6d _) hv⟩
   ·simp only [β4]
    by_cases q:id∈R
    ·rw [if_pos q]
     refine hgo.ext.blk _ b ?_
     show β.blk (ZD k nx R (Z1F id R))=some b
     rw [hP3 id q];exact hid
    ·rw [if_neg q]
     by_cases q2:nx≤id
     ·rw [(hfr id q2).blk] at hid;cases hid
     ·rw [if_neg q2];exact hid
   ·simp only [β4]
    by_cases q:id∈R
    ·rw [if_pos q]
     refine hgo.ext.hdr _ u x ?_
     show β.hdr (ZD k nx R (Z1F id R)) u=some x
     rw [hP3 id q];exact hid
    ·rw [if_neg q]
     by_cases q2:nx≤id
     ·rw [(hfr id q2).hdr] at hid;cases hid
     ·rw [if_neg q2];exact hid
   ·by_cases q:id∈R
    ·rw [Z1S,if_pos q] at hn
     obtain ⟨x,hx⟩:=hRs id q
     rw [hn] at hx;cases hx
    ·refine ⟨?_,?_,fun u => ?_⟩
     ·cases hq:(Z31 (ZD k nx R) o3.get (upN 0 n3)).get id with
      | none=>rfl
      | some y =>
       obtain ⟨j,x,_,h1,_⟩:=hsome4 id y hq
       by_cases qj:j<k
       ·exact absurd (h1 ▸ hP1m j qj) q
       ·rw [hP2 j (by omega)] at h1;omega
     ·simp only [β4,if_neg q,show ¬ nx≤id by omega,if_false]
     ·simp only [β4,if_neg q,show ¬ nx≤id by omega,if_false]
   ·refine HR.rn hrel4 (fun i j _ _ he=>hinj4 i j he) hhr fun i y hy => ?_
    obtain ⟨j,x,_,h1,h2,h3⟩:=hsome4 i y hy
    exact ⟨j,x,rfl,h1,h2,h3,Zfb x⟩
   ·have hm:id∉R:=fun hm=>by have:=hRlt id hm;omega
    have hf:=hf3 (id-nx+k) (by omega)
    refine ⟨?_,fun u => ?_,?_⟩
    ·simp only [β4,if_neg hm,show nx≤id by omega,if_true];exact hf.blk
    ·simp only [β4,if_neg hm,show nx≤id by omega,if_true];exact hf.hdr u
    ·cases hq:(Z31 (ZD k nx R) o3.get (upN 0 n3)).get id with
     | none=>rfl
     | some y =>
      obtain ⟨j,x,h0,h1,_⟩:=hsome4 id y hq
      by_cases qj:j<k
      ·exact absurd (h1 ▸ hP1m j qj) hm
      ·rw [hP2 j (by omega)] at h1;omega
  obtain ⟨v2,β2,G2,e2,hle2,hx2,hkp,hh2,hf2,hv2⟩:=Za7 hh1 hs hsR hfr1 hpost
  have heq:∀ i,(ZZ o1 (Z3D (ZD k nx R) o3.get (upN 0 n3))).get i=ZA o1.get (Z4m (Z31 (ZD k nx R) o3.get (upN 0 n3)) R nx) i:=fun i=>by
   rw [Z2j,Z6x]
   by_cases hi:∃ j,j<n3∧ZD k nx R j=i
   ·obtain ⟨j,hj,rfl⟩:=hi
    have h1:ZA o1.get (Z3D (ZD k nx R) o3.get (upN 0 n3)) (ZD k nx R j)=(o3.get j).map (rnO (ZD k nx R)):=by
     unfold ZA
     rw [ZbN (Z4W.2 ⟨by omega,by omega⟩) fun i _ he=>hinj4 i j he]
    rw [h1,←hat4 j hj]
    split
    ·rfl
    ·rename_i hm
     have hm1:ZD k nx R j∉R:=fun q=>hm (List.mem_append_left _ q)
     have hkj:¬ j<k:=fun q=>hm1 (hP1m j q)
     have hge:nx≤ZD k nx R j:=by rw [hP2 j (by omega)];omega
     rw [(hfr1 _ hge).h]
     cases hq:(Z31 (ZD k nx R) o3.get (upN 0 n3)).get (ZD k nx R j) with
     | none=>rfl
     | some y =>
      refine absurd ?_ hm
      refine List.mem_append_right _ (List.mem_filter.2 ⟨List.mem_map.2 ⟨(1*ZD k nx R j+0,y),Tr.ents_get _ 1 0 _ y hq,by simp⟩,Nat.ble_eq_true_of_le hge⟩)
   ·have h1:ZA o1.get (Z3D (ZD k nx R) o3.get (upN 0 n3)) i=o1.get i:=by
     unfold ZA
     rw [Z5N fun j hj he=>hi ⟨j,by rw [Z4W] at hj;omega,he⟩]
    have h2:(Z31 (ZD k nx R) o3.get (upN 0 n3)).get i=none:=by
     cases hq:(Z31 (ZD k nx R) o3.get (upN 0 n3)).get i with
     | none=>rfl
     | some y =>
      obtain ⟨j,x,h0,h1,_⟩:=hsome4 i y hq
      exact absurd ⟨j,h0,h1⟩ hi
    rw [h1,h2]
    split
    ·rename_i hm
     rcases ZeK hm with q|q
     ·refine absurd ⟨Z1F i R,?_,hP3 i q⟩ hi
      have:=Z4S q
      omega
     ·exact (hfr1 i q).h
    ·rfl
  refine ⟨v2,β2,G2,e2,hle2,⟨hx1.trans hx2,fun id hid hn => ?_⟩,hh2.eq heq,fun id hid => ?_,hv2⟩
  ·obtain ⟨k1,k2,k3⟩:=hkp id hid (hk1 id hn)
   exact ⟨by rw [heq];exact k1,k2,k3⟩
  ·have:=hf2 id hid
   exact ⟨this.blk,this.hdr,by rw [heq];exact this.h⟩
end
end Go.Ab
namespace Go.Ab
def Le (h h':Nat→Option Z8) (d:DV):Prop:=∀ id,id∈Zy d→∀ o,h id=some o→h' id=some o
section
variable {E:Env} {ρ ρ':Nat→Option DV} {h h':Nat→Option Z8} {nid:Nat}
def OkX (ρ ρ':Nat→Option DV) (h h':Nat→Option Z8) (x:Operand):Prop:=∀ d,ZT ρ x=some d→ZT ρ' x=some d∧Le h h' d
mutual
theorem Z8L:∀ (d:DV) (i:Nat),i∈Ze d→i∈Zy d
 | .rs _ _,_,h=>by simpa [Ze,Zy] using h
 | .agg cs,i,h=>by simp only [Ze,Zy] at h ⊢;exact Z2L cs i h
 | .tup cs,i,h=>by simp only [Ze,Zy] at h ⊢;exact Z2L cs i h
 | .iface _ v,i,h=>by simp only [Ze,Zy] at h ⊢;exact Z8L v i h
 | .bool _,_,h=>by simp [Ze] at h
 | .int _ _,_,h=>by simp [Ze] at h
 | .str _,_,h=>by simp [Ze] at h
 | .nilp,_,h=>by simp [Ze] at h
 | .ptr _ _,_,h=>by simp [Ze] at h
 | .rptr _ _ _ _ _,_,h=>by simp [Ze] at h
 | .pub _,_,h=>by simp [Ze] at h
 | .nils,_,h=>by simp [Ze] at h
 | .sl _,_,h=>by simp [Ze] at h
 | .fn _ _ _,_,h=>by simp [Ze] at h
 | .nilfn,_,h=>by simp [Ze] at h
 | .map _,_,h=>by simp [Ze] at h
 | .nilmap,_,h=>by simp [Ze] at h
 | .nilif,_,h=>by simp [Ze] at h
 | .iter _,_,h=>by simp [Ze] at h
 | .yld _,_,h=>by simp [Ze] at h
theorem Z2L:∀ (ds:List DV) (i:Nat),i∈Zf ds→i∈ZC ds
 | [],_,h=>by simp [Zf] at h
 | d::ds,i,h=>by
  simp only [Zf,ZC,List.mem_append] at h ⊢
  rcases h with h|h
  ·exact .inl (Z8L d i h)
  ·exact .inr (Z2L ds i h)
end
mutual
theorem Z9t:∀ (d d':DV),frz h d=some d'→∀ i∈Ze d,∃ o,h i=some o
 | .rs id v,_,hd,i,hi=>by
  simp only [frz] at hd
  obtain ⟨o,ho,_⟩:=Z0 hd
  simp only [Ze,List.mem_singleton] at hi
  subst hi;exact ⟨o,ho⟩
 | .agg cs,_,hd,i,hi=>by
  simp only [frz] at hd
  obtain ⟨cs',h1,_⟩:=Z0 hd
  exact Z2R cs cs' h1 i (by simpa [Ze] using hi)
 | .tup cs,_,hd,i,hi=>by
  simp only [frz] at hd
  obtain ⟨cs',h1,_⟩:=Z0 hd
  exact Z2R cs cs' h1 i (by simpa [Ze] using hi)
 | .iface _ v,_,hd,i,hi=>by
  simp only [frz] at hd
  obtain ⟨v',h1,_⟩:=Z0 hd
  exact Z9t v v' h1 i (by simpa [Ze] using hi)
 | .bool _,_,_,_,h=>by simp [Ze] at h
 | .int _ _,_,_,_,h=>by simp [Ze] at h
 | .str _,_,_,_,h=>by simp [Ze] at h
 | .nilp,_,_,_,h=>by simp [Ze] at h
 | .ptr _ _,_,_,_,h=>by simp [Ze] at h
 | .rptr _ _ _ _ _,_,_,_,h=>by simp [Ze] at h
 | .pub _,_,_,_,h=>by simp [Ze] at h
 | .nils,_,_,_,h=>by simp [Ze] at h
 | .sl _,_,_,_,h=>by simp [Ze] at h
 | .fn _ _ _,_,_,_,h=>by simp [Ze] at h
 | .nilfn,_,_,_,h=>by simp [Ze] at h
 | .map _,_,_,_,h=>by simp [Ze] at h
 | .nilmap,_,_,_,h=>by simp [Ze] at h
 | .nilif,_,_,_,h=>by simp [Ze] at h
 | .iter _,_,_,_,h=>by simp [Ze] at h
 | .yld _,_,_,_,h=>by simp [Ze] at h
theorem Z2R:∀ (ds ds':List DV),Z1o h ds=some ds'→∀ i∈Zf ds,∃ o,h i=some o
 | [],_,_,i,hi=>by simp [Zf] at hi
 | d::ds,_,hd,i,hi=>by
  simp only [Z1o] at hd
  obtain ⟨c,h1,hd⟩:=Z0 hd
  obtain ⟨cs,h2,_⟩:=Z0 hd
  simp only [Zf,List.mem_append] at hi
  rcases hi with hi|hi
  ·exact Z9t d c h1 i hi
  ·exact Z2R ds cs h2 i hi
end
mutual
theorem Zbj:∀ (d d':DV),Le h h' d→frz h d=some d'→frz h' d=some d'
 | .rs id v,d',hl,hd=>by
  simp only [frz] at hd ⊢
  obtain ⟨o,ho,h2⟩:=Z0 hd
  rw [hl id (by simp [Zy]) o ho];exact h2
 | .agg cs,d',hl,hd=>by
  simp only [frz] at hd ⊢
  obtain ⟨cs',h1,h2⟩:=Z0 hd
  rw [Z3x cs cs' (fun id hid=>hl id (by simpa [Zy] using hid)) h1];exact h2
 | .tup cs,d',hl,hd=>by
  simp only [frz] at hd ⊢
  obtain ⟨cs',h1,h2⟩:=Z0 hd
  rw [Z3x cs cs' (fun id hid=>hl id (by simpa [Zy] using hid)) h1];exact h2
 | .iface _ v,d',hl,hd=>by
  simp only [frz] at hd ⊢
  obtain ⟨v',h1,h2⟩:=Z0 hd
  rw [Zbj v v' (fun id hid=>hl id (by simpa [Zy] using hid)) h1];exact h2
 | .bool _,_,_,hd=>by simpa only [frz] using hd
 | .int _ _,_,_,hd=>by simpa only [frz] using hd
 | .str _,_,_,hd=>by simpa only [frz] using hd
 | .nilp,_,_,hd=>by simpa only [frz] using hd
 | .ptr _ _,_,_,hd=>by simpa only [frz] using hd
 | .rptr _ _ _ _ _,_,_,hd=>by simpa only [frz] using hd
 | .pub _,_,_,hd=>by simpa only [frz] using hd
 | .nils,_,_,hd=>by simpa only [frz] using hd
 | .sl _,_,_,hd=>by simpa only [frz] using hd
 | .fn _ _ _,_,_,hd=>by simpa only [frz] using hd
 | .nilfn,_,_,hd=>by simpa only [frz] using hd
 | .map _,_,_,hd=>by simpa only [frz] using hd
 | .nilmap,_,_,hd=>by simpa only [frz] using hd
 | .nilif,_,_,hd=>by simpa only [frz] using hd
 | .iter _,_,_,hd=>by simpa only [frz] using hd
 | .yld _,_,_,hd=>by simpa only [frz] using hd
theorem Z3x:∀ (ds ds':List DV),(∀ id,id∈ZC ds→∀ o,h id=some o→h' id=some o)→Z1o h ds=some ds'→Z1o h' ds=some ds'
 | [],_,_,hd=>hd
 | d::ds,d',hl,hd=>by
  simp only [Z1o] at hd ⊢
  obtain ⟨c,h1,h2⟩:=Z0 hd
  obtain ⟨cs,h3,h4⟩:=Z0 h2
  rw [Zbj d c (fun id hid=>hl id (by simp [ZC,hid])) h1]
  simp only [Option.bind_some]
  rw [Z3x ds cs (fun id hid=>hl id (by simp [ZC,hid])) h3]
  exact h4
end
theorem Z4M:∀ (is:List Nat),(∀ i∈is,h i=h' i)→Zn h is=Zn h' is
 | [],_=>rfl
 | i::is,hs=>by
  simp only [Zn]
  rw [hs i (by simp),Z4M is (fun j hj=>hs j (by simp [hj]))]
theorem Z2D:∀ (is:List Nat) (u:Nat×Option Z8),u∈Zn h is→u.1∈is
 | [],u,hu=>by simp [Zn] at hu
 | i::is,u,hu=>by
  simp only [Zn,List.mem_append] at hu
  rcases hu with hu|hu
  ·split at hu
   ·rename_i p _ _
    cases hp:Nat.beq p 1 with
    | true=>rw [hp] at hu;cases hu
    | false=>rw [hp] at hu;simp only [cond_false,List.mem_singleton] at hu;subst hu;simp
   ·cases hu
  ·exact List.mem_cons_of_mem _ (Z2D is u hu)
theorem Z71 {ds:List DV} (hl:∀ id,id∈ZC ds→∀ o,h id=some o→h' id=some o) (hk:∀ i∈Zf ds,∃ o,h i=some o):Zn h' (Zf ds)=Zn h (Zf ds) :=
 (Z4M _ fun i hi=>by
  obtain ⟨o,ho⟩:=hk i hi
  rw [ho,hl i (Z2L ds i hi) o ho]).symm
theorem Z5t {d:DV} {es:List (List DV)} (hl:Le h h' d) (hd:Ym h d=some es):Ym h' d=some es:=by
 cases d with
 | rs id v =>
  simp only [Ym] at hd ⊢
  obtain ⟨o,ho,h2⟩:=Z0 hd
  rw [hl id (by simp [Zy]) o ho];exact h2
 | nils=>exact hd
 | sl es=>exact hd
 | _=>cases hd
theorem Zb5 {d:DV} {es:List (List DV)} (hd:Ym h d=some es):∀ i∈Zf [d],∃ o,h i=some o:=fun i hi=>by
 cases d with
 | rs id v =>
  simp only [Ym] at hd
  obtain ⟨o,ho,_⟩:=Z0 hd
  simp [Zf,Ze] at hi
  subst hi;exact ⟨o,ho⟩
 | nils=>simp [Zf,Ze] at hi
 | sl es=>simp [Zf,Ze] at hi
 | _=>cases hd
theorem Ze7 {ti:TI} {a d:DV} (hl:Le h h' a) (hd:Z2U ti h a=some d):Z2U ti h' a=some d:=by
 cases a with
 | ptr id off =>
  simp only [Z2U] at hd ⊢
  obtain ⟨o,ho,h2⟩:=Z0 hd
  rw [hl id (by simp [Zy]) o ho];exact h2
 | rptr id v i e off =>
  simp only [Z2U] at hd ⊢
  obtain ⟨o,ho,h2⟩:=Z0 hd
  rw [hl id (by simp [Zy]) o ho];exact h2
 | pub cs=>exact hd
 | _=>cases hd
theorem ZcX {ti:TI} {a v:DV} {us:List (Nat×Option Z8)} (hl:Le h h' a) (hd:Z4N ti h a v=some us):Z4N ti h' a v=some us∧∀ u∈us,u.1∈Zy a:=by
 unfold Z4N at hd ⊢
 obtain ⟨hq,hd⟩:=Z2 hd
 rw [hq]
 cases a with
 | ptr id off =>
  simp only [cond_true] at hd ⊢
  obtain ⟨o,ho,h2⟩:=Z0 hd
  rw [hl id (by simp [Zy]) o ho]
  refine ⟨h2,?_⟩
  split at h2
  ·obtain ⟨_,h3⟩:=Z2 h2
   cases h3
   intro u hu
   simp only [List.mem_singleton] at hu
   subst hu;simp [Zy]
  ·cases h2
 | rptr id v i e off =>
  simp only [cond_true] at hd ⊢
  obtain ⟨o,ho,h2⟩:=Z0 hd
  rw [hl id (by simp [Zy]) o ho]
  refine ⟨h2,?_⟩
  split at h2
  ·obtain ⟨_,_,h2⟩:=Z0 h2
   obtain ⟨_,h3⟩:=Z2 h2
   cases h3
   intro u hu
   simp only [List.mem_singleton] at hu
   subst hu;simp [Zy]
  ·cases h2
 | _=>cases hd
theorem ZeZ {k:TK} {d r:DV} (hl:Le h h' d) (hd:Z5y k h d=some r):Z5y k h' d=some r:=by
 unfold Z5y at hd ⊢
 split at hd
 ·exact hd
 ·exact hd
 ·rename_i id
  obtain ⟨o,ho,h2⟩:=Z0 hd
  rw [hl id (by simp [Zy]) o ho];exact h2
 ·obtain ⟨es,h1,h2⟩:=Z0 hd
  rw [Z5t hl h1];exact h2
 ·exact hd
 ·cases hd
theorem ZaW {t:TypeId} {s x:DV} {r:Out} (hs:Le h h' s) (hx:Le h h' x) (hd:Z3c E nid h t s x=some r):Z3c E nid h' t s x=some r∧∀ u∈r.upd,u.1=nid∨u.1∈Zy s:=by
 unfold Z3c at hd ⊢
 obtain ⟨ti,hti,hd⟩:=Z0 hd
 rw [hti]
 simp only [Option.bind_some]
 split at hd
 ·obtain ⟨ei,hei,hd⟩:=Z0 hd
  obtain ⟨xs,hxs,hd⟩:=Z0 hd
  rw [hei]
  simp only [Option.bind_some,Z5t hx hxs]
  obtain ⟨hq,hd⟩:=Z2 hd
  rw [hq]
  simp only [cond_true]
  cases s with
  | nils =>
   refine ⟨hd,?_⟩
   cases xs with
   | nil=>cases hd;simp
   | cons c cs =>
    obtain ⟨_,hd⟩:=Z2 hd
    cases hd
    intro u hu
    simp only [List.mem_singleton] at hu
    subst hu;exact .inl rfl
  | rs id v =>
   simp only at hd ⊢
   obtain ⟨o,ho,h2⟩:=Z0 hd
   rw [hs id (by simp [Zy]) o ho]
   refine ⟨h2,?_⟩
   split at h2
   ·obtain ⟨_,h3⟩:=Z2 h2
    cases h3
    intro u hu
    simp only [List.mem_singleton] at hu
    subst hu;exact .inr (by simp [Zy])
   ·cases h2
  | _=>cases hd
 ·cases hd
theorem Z1q:∀ {xs:List Operand} {ds:List DV},(∀ x∈xs,OkX ρ ρ' h h' x)→Z1j ρ xs=some ds→Z1j ρ' xs=some ds∧∀ id,id∈ZC ds→(∀ o,h id=some o→h' id=some o)∧∃ x∈xs,∃ d,ZT ρ x=some d∧id∈Zy d
 | [],ds,_,hd=>by simp only [Z1j,Option.some.injEq] at hd;subst hd;exact ⟨rfl,fun id hid=>by simp [ZC] at hid⟩
 | x::xs,ds,ho,hd=>by
  simp only [Z1j] at hd ⊢
  obtain ⟨d,h1,hd⟩:=Z0 hd
  obtain ⟨ds',h2,hd⟩:=Z0 hd
  cases hd
  obtain ⟨k1,k2⟩:=ho x (by simp) d h1
  obtain ⟨k3,k4⟩:=Z1q (fun y hy=>ho y (by simp [hy])) h2
  refine ⟨by rw [k1,k3];rfl,fun id hid => ?_⟩
  simp only [ZC,List.mem_append] at hid
  rcases hid with hid|hid
  ·exact ⟨k2 id hid,x,by simp,d,h1,hid⟩
  ·obtain ⟨m1,y,m2,m3⟩:=k4 id hid
   exact ⟨m1,y,by simp [m2],m3⟩
theorem Z5B:∀ {ps:List (Nat×Operand)} {vs:List (Nat×DV)},(∀ x∈ps.map (·.2),OkX ρ ρ' h h' x)→Z1O ρ ps=some vs→Z1O ρ' ps=some vs∧∀ id,id∈ZC (vs.map (·.2))→(∀ o,h id=some o→h' id=some o)∧∃ x∈ps.map (·.2),∃ d,ZT ρ x=some d∧id∈Zy d
 | [],vs,_,hd=>by simp only [Z1O,Option.some.injEq] at hd;subst hd;exact ⟨rfl,fun id hid=>by simp [ZC] at hid⟩
 | (i,x)::ps,vs,ho,hd=>by
  simp only [Z1O] at hd ⊢
  obtain ⟨d,h1,hd⟩:=Z0 hd
  obtain ⟨vs',h2,hd⟩:=Z0 hd
  cases hd
  obtain ⟨k1,k2⟩:=ho x (by simp) d h1
  obtain ⟨k3,k4⟩:=Z5B (fun y hy=>ho y (by simp at hy ⊢;exact .inr hy)) h2
  refine ⟨by rw [k1,k3];rfl,fun id hid => ?_⟩
  simp only [List.map_cons,ZC,List.mem_append] at hid
  rcases hid with hid|hid
  ·exact ⟨k2 id hid,x,by simp,d,h1,hid⟩
  ·obtain ⟨m1,y,m2,m3⟩:=k4 id hid
   exact ⟨m1,y,by simp at m2 ⊢;exact .inr m2,m3⟩
theorem Ze5 (d:DV):ZC (cellsOf d)=Zy d:=by
 cases d<;>simp [cellsOf,ZC,Zy]
theorem Z8K {size:Nat}:∀ {ps:List (Nat×DV)} {k:Nat} {es:List (List DV)},(∀ id,id∈ZC (ps.map (·.2))→∀ o,h id=some o→h' id=some o)→Z5i h size k ps=some es→Z5i h' size k ps=some es∧∀ i∈Zf (ps.map (·.2)),∃ o,h i=some o
 | [],k,es,_,hd=>⟨hd,fun i hi=>by simp [Zf] at hi⟩
 | (i,v)::ps,k,es,hl,hd=>by
  simp only [Z5i] at hd ⊢
  obtain ⟨hq,hd⟩:=Z2 hd
  obtain ⟨c,h1,hd⟩:=Z0 hd
  obtain ⟨hq2,hd⟩:=Z2 hd
  obtain ⟨r,h2,hd⟩:=Z0 hd
  obtain ⟨k1,k2⟩:=Z8K (fun id hid=>hl id (by simp [ZC,hid])) h2
  refine ⟨?_,fun j hj => ?_⟩
  ·rw [hq]
   simp only [cond_true]
   rw [Z3x _ _ (fun id hid=>hl id (by rw [Ze5] at hid;simp [ZC,hid])) h1]
   simp only [Option.bind_some,hq2,cond_true]
   rw [k1];exact hd
  ·simp only [List.map_cons,Zf,List.mem_append] at hj
   rcases hj with hj|hj
   ·exact Z2R _ _ h1 j (by rw [Z6q];exact hj)
   ·exact k2 j hj
end
end Go.Ab
namespace Go.Ab
section
variable {E:Env} {ρ ρ':Nat→Option DV} {h h':Nat→Option Z8} {nid:Nat}
theorem YE {x:Option DV} {r:Out} (hd:x.bind ret=some r):r.upd=[]:=by
 obtain ⟨d,_,h⟩:=Z0 hd
 cases h;rfl
def Ups (ρ:Nat→Option DV) (nid:Nat) (xs:Array Operand) (r:Out):Prop:=∀ u∈r.upd,u.1=nid∨∃ x∈xs,∃ d,ZT ρ x=some d∧u.1∈Zy d
theorem ZO {xs:Array Operand} {r:Out} (h:r.upd=[]):Ups ρ nid xs r:=fun u hu=>by rw [h] at hu;cases hu
theorem Ze8 {c:Call} {r:Out} (hx:∀ x∈c.operands,OkX ρ ρ' h h' x) (hd:Zx E nid ρ h (.call c)=some r):Zx E nid ρ' h' (.call c)=some r∧Ups ρ nid c.operands r:=by
 have hargs:∀ x∈c.args.toList,x∈c.operands:=fun x hm=>by simp [Call.operands];exact .inr (by simpa using hm)
 simp only [Zx] at hd ⊢
 split at hd
 ·split at hd
  ·rename_i x t ts hxx _
   obtain ⟨ti,hti,hd⟩:=Z0 hd
   obtain ⟨d,h1,hd⟩:=Z0 hd
   have hm:=hargs x (by rw [hxx];simp)
   obtain ⟨k1,k2⟩:=hx x hm d h1
   obtain ⟨q,h2,h3⟩:=Z0 hd
   rw [hti];simp only [Option.bind_some];rw [k1];simp only [Option.bind_some];rw [ZeZ k2 h2]
   exact ⟨h3,ZO (YE hd)⟩
  ·cases hd
 ·split at hd
  ·rename_i s x t t' hxx _
   have hq:=(Z2 hd).1
   replace hd:=(Z2 hd).2
   rw [hq]
   obtain ⟨ds,h1,hd⟩:=Z0 hd
   obtain ⟨dx,h2,hd⟩:=Z0 hd
   have hms:=hargs s (by rw [hxx];simp)
   obtain ⟨k1,k2⟩:=hx s hms ds h1
   obtain ⟨k3,k4⟩:=hx x (hargs x (by rw [hxx];simp)) dx h2
   obtain ⟨k5,k6⟩:=ZaW k2 k4 hd
   simp only [cond_true,k1,k3,Option.bind_some]
   refine ⟨k5,fun u hu => ?_⟩
   rcases k6 u hu with e|e
   ·exact .inl e
   ·exact .inr ⟨s,hms,ds,h1,e⟩
  ·cases hd
 ·obtain ⟨vs,h1,hd⟩:=Z0 hd
  obtain ⟨k1,_⟩:=Z1q (h:=h) (h':=h') (fun x hm=>hx x (hargs x hm)) h1
  rw [k1]
  refine ⟨hd,?_⟩
  split at hd
  ·exact ZO (YE hd)
  ·cases hd
 ·obtain ⟨vs,h1,hd⟩:=Z0 hd
  obtain ⟨k1,_⟩:=Z1q (h:=h) (h':=h') (fun x hm=>hx x (hargs x hm)) h1
  rw [k1]
  refine ⟨hd,?_⟩
  split at hd
  ·exact ZO (YE hd)
  ·cases hd
 ·cases hd
theorem Z9A {x:Option Operand} {d:Option DV} (hx:∀ y,x=some y→OkX ρ ρ' h h' y) (hd:Z1Y ρ x=some d):Z1Y ρ' x=some d:=by
 cases x with
 | none=>exact hd
 | some y =>
  simp only [Z1Y] at hd ⊢
  obtain ⟨v,h1,h2⟩:=Z0 hd
  rw [(hx y rfl v h1).1];exact h2
theorem Zg7 {op:Op} {r:Out} (hx:∀ x∈op.operands,OkX ρ ρ' h h' x) (hd:Zx E nid ρ h op=some r):Zx E nid ρ' h' op=some r∧Ups ρ nid op.operands r:=by
 cases op with
 | call c=>exact Ze8 hx hd
 | move x =>
  simp only [Zx] at hd ⊢
  obtain ⟨d,h1,h2⟩:=Z0 hd
  rw [(hx x (by simp [Op.operands]) d h1).1]
  exact ⟨h2,ZO (YE hd)⟩
 | assign x =>
  simp only [Zx] at hd ⊢
  obtain ⟨d,h1,h2⟩:=Z0 hd
  rw [(hx x (by simp [Op.operands]) d h1).1]
  exact ⟨h2,ZO (YE hd)⟩
 | pick c x y =>
  simp only [Zx] at hd ⊢
  obtain ⟨d,h1,h2⟩:=Z0 hd
  rw [(hx c (by simp [Op.operands]) d h1).1]
  simp only [Option.bind_some]
  split at h2
  ·rename_i b
   cases b
   ·obtain ⟨e,h3,h4⟩:=Z0 h2
    simp only [cond_false]
    rw [show ZT ρ' y=some e from (hx y (by simp [Op.operands]) e h3).1]
    exact ⟨h4,ZO (YE h2)⟩
   ·obtain ⟨e,h3,h4⟩:=Z0 h2
    simp only [cond_true]
    rw [show ZT ρ' x=some e from (hx x (by simp [Op.operands]) e h3).1]
    exact ⟨h4,ZO (YE h2)⟩
  ·cases h2
 | alloc t =>
  simp only [Zx] at hd ⊢
  refine ⟨hd,?_⟩
  obtain ⟨ti,_,h2⟩:=Z0 hd
  cases h2
  intro u hu;simp only [List.mem_singleton] at hu;subst hu;exact .inl rfl
 | box t x =>
  simp only [Zx] at hd ⊢
  obtain ⟨d,h1,h2⟩:=Z0 hd
  rw [(hx x (by simp [Op.operands]) d h1).1]
  refine ⟨h2,?_⟩
  obtain ⟨_,h3⟩:=Z2 h2
  cases h3
  intro u hu;simp only [List.mem_singleton] at hu;subst hu;exact .inl rfl
 | build t ps =>
  simp only [Zx] at hd ⊢
  obtain ⟨ti,hti,h1⟩:=Z0 hd
  obtain ⟨vs,h2,h3⟩:=Z0 h1
  rw [hti];simp only [Option.bind_some]
  rw [(Z5B (h:=h) (h':=h') (fun x hm=>hx x (by simpa [Op.operands] using hm)) h2).1]
  refine ⟨h3,?_⟩
  split at h3
  ·obtain ⟨cs,_,h5⟩:=Z0 h3
   cases h5;exact ZO rfl
  ·obtain ⟨ei,_,h4⟩:=Z0 h3
   obtain ⟨cs,_,h5⟩:=Z0 h4
   cases h5;exact ZO rfl
  ·cases h3
 | buildSlice t n ps =>
  simp only [Zx] at hd ⊢
  obtain ⟨ti,hti,h1⟩:=Z0 hd
  rw [hti];simp only [Option.bind_some]
  cases hk:ti.k with
  | slice e =>
   rw [hk] at h1
   simp only at h1 ⊢
   obtain ⟨ei,hei,h2⟩:=Z0 h1
   obtain ⟨vs,h3,h4⟩:=Z0 h2
   obtain ⟨es,h5,h6⟩:=Z0 h4
   obtain ⟨k1,k2⟩:=Z5B (h:=h) (h':=h') (fun x hm=>hx x (by simpa [Op.operands] using hm)) h3
   obtain ⟨k3,k4⟩:=Z8K (fun id hid=>(k2 id hid).1) h5
   have k5:=Z71 (fun id hid=>(k2 id hid).1) k4
   rw [hei];simp only [Option.bind_some];rw [k1];simp only [Option.bind_some];rw [k3];simp only [Option.bind_some];rw [k5]
   refine ⟨h6,?_⟩
   obtain ⟨_,h7⟩:=Z2 h6
   cases h7
   intro u hu
   rcases List.mem_cons.1 hu with rfl|hu
   ·exact .inl rfl
   ·obtain ⟨_,x,m1,d,m2,m3⟩:=k2 u.1 (Z2L _ _ (Z2D _ u hu))
    exact .inr ⟨x,by simpa [Op.operands] using m1,d,m2,m3⟩
  | _=>rw [hk] at h1;cases h1
 | load t x =>
  simp only [Zx] at hd ⊢
  obtain ⟨ti,hti,h1⟩:=Z0 hd
  obtain ⟨d,h2,h3⟩:=Z0 h1
  obtain ⟨v,h4,h5⟩:=Z0 h3
  obtain ⟨k1,k2⟩:=hx x (by simp [Op.operands]) d h2
  rw [hti];simp only [Option.bind_some];rw [k1];simp only [Option.bind_some];rw [Ze7 k2 h4]
  exact ⟨h5,ZO (YE h3)⟩
 | store t x y =>
  simp only [Zx] at hd ⊢
  obtain ⟨ti,hti,h1⟩:=Z0 hd
  obtain ⟨d,h2,h3⟩:=Z0 h1
  obtain ⟨v,h4,h5⟩:=Z0 h3
  obtain ⟨us,h6,h7⟩:=Z0 h5
  obtain ⟨k1,k2⟩:=hx x (by simp [Op.operands]) d h2
  obtain ⟨k3,_⟩:=hx y (by simp [Op.operands]) v h4
  obtain ⟨k5,k6⟩:=ZcX k2 h6
  rw [hti];simp only [Option.bind_some];rw [k1];simp only [Option.bind_some];rw [k3];simp only [Option.bind_some];rw [k5]
  refine ⟨h7,?_⟩
  cases h7
  intro u hu
  exact .inr ⟨x,by simp [Op.operands],d,h2,k6 u hu⟩
 | nilCheck x =>
  simp only [Zx] at hd ⊢
  obtain ⟨d,h1,h2⟩:=Z0 hd
  rw [(hx x (by simp [Op.operands]) d h1).1]
  refine ⟨h2,?_⟩
  split at h2<;>first|(cases h2;exact ZO rfl)|cases h2
 | binOp op t x y z =>
  simp only [Zx] at hd ⊢
  obtain ⟨d,h1,h2⟩:=Z0 hd
  obtain ⟨e,h3,h4⟩:=Z0 h2
  rw [(hx x (by simp [Op.operands]) d h1).1];simp only [Option.bind_some];rw [(hx y (by simp [Op.operands]) e h3).1]
  exact ⟨h4,ZO (YE h4)⟩
 | unOp op t x =>
  simp only [Zx] at hd ⊢
  obtain ⟨d,h1,h2⟩:=Z0 hd
  rw [(hx x (by simp [Op.operands]) d h1).1]
  exact ⟨h2,ZO (YE h2)⟩
 | convert s t x =>
  simp only [Zx] at hd ⊢
  obtain ⟨si,hsi,h0⟩:=Z0 hd
  obtain ⟨ti,hti,h1⟩:=Z0 h0
  obtain ⟨d,h2,h3⟩:=Z0 h1
  rw [hsi];simp only [Option.bind_some];rw [hti];simp only [Option.bind_some];rw [(hx x (by simp [Op.operands]) d h2).1]
  refine ⟨h3,?_⟩
  split at h3<;>first|(cases h3;exact ZO rfl)|cases h3
 | makeInterface t x =>
  simp only [Zx] at hd ⊢
  obtain ⟨ti,hti,h1⟩:=Z0 hd
  obtain ⟨d,h2,h3⟩:=Z0 h1
  rw [hti];simp only [Option.bind_some];rw [(hx x (by simp [Op.operands]) d h2).1]
  refine ⟨h3,?_⟩
  cases hk:ti.k<;>rw [hk] at h3<;>first|(cases h3;exact ZO rfl)|cases h3
 | typeAssert x xt t ok =>
  simp only [Zx] at hd ⊢
  obtain ⟨ti,hti,h1⟩:=Z0 hd
  obtain ⟨d,h2,h3⟩:=Z0 h1
  rw [hti];simp only [Option.bind_some];rw [(hx x (by simp [Op.operands]) d h2).1]
  refine ⟨h3,?_⟩
  have fin:∀ {r:Out},(bif ok then (Z17 ti).bind fun z=>ret (.tup [z,.bool false]) else none)=some r→r.upd=[]:=fun h=>by
   obtain ⟨_,h⟩:=Z2 h
   obtain ⟨z,_,h⟩:=Z0 h
   cases h;rfl
  have fin2:∀ {v:DV} {q:Bool} {r:Out},(bif q then ret v else bif ok then (Z17 ti).bind fun z=>ret (.tup [z,.bool false]) else none)=some r→r.upd=[]:=fun {v q r} h=>by
   cases q with
   | true=>cases h;rfl
   | false=>exact fin h
  cases d with
  | nilif=>cases hk:ti.k<;>rw [hk] at h3<;>first|exact ZO (fin h3)|cases h3
  | iface t' v=>cases hk:ti.k<;>rw [hk] at h3<;>first|exact ZO (fin2 h3)|cases h3
  | _=>cases hk:ti.k<;>rw [hk] at h3<;>cases h3
 | makeSlice t l c =>
  simp only [Zx] at hd ⊢
  obtain ⟨ti,hti,h1⟩:=Z0 hd
  obtain ⟨dl,h2,h3⟩:=Z0 h1
  obtain ⟨dc,h4,h5⟩:=Z0 h3
  rw [hti];simp only [Option.bind_some];rw [(hx l (by simp [Op.operands]) dl h2).1];simp only [Option.bind_some];rw [(hx c (by simp [Op.operands]) dc h4).1]
  refine ⟨h5,?_⟩
  split at h5
  ·obtain ⟨ei,_,h6⟩:=Z0 h5
   obtain ⟨_,h7⟩:=Z2 h6
   cases h7
   intro u hu
   simp only [List.mem_singleton] at hu
   subst hu
   exact .inl rfl
  ·cases h5
 | makeFunc f x y =>
  simp only [Zx] at hd ⊢
  obtain ⟨d,h1,h2⟩:=Z0 hd
  obtain ⟨e,h3,h4⟩:=Z0 h2
  rw [(Z1q (h:=h) (h':=h') (fun z hm=>hx z (by simp [Op.operands];exact .inl (by simpa using hm))) h1).1];simp only [Option.bind_some]
  rw [(Z1q (h:=h) (h':=h') (fun z hm=>hx z (by simp [Op.operands];exact .inr (by simpa using hm))) h3).1]
  refine ⟨h4,?_⟩
  cases h4;exact ZO rfl
 | makeMap t x =>
  cases x with
  | some x=>simp [Zx] at hd
  | none =>
   refine ⟨by simpa only [Zx] using hd,?_⟩
   simp only [Zx] at hd
   cases hd
   intro u hu;simp only [List.mem_singleton] at hu;subst hu;exact .inl rfl
 | slice t x lo hi mx =>
  cases mx with
  | some m=>simp [Zx] at hd
  | none =>
   simp only [Zx] at hd ⊢
   obtain ⟨ti,hti,h1⟩:=Z0 hd
   obtain ⟨d,h2,h3⟩:=Z0 h1
   obtain ⟨dl,h4,h5⟩:=Z0 h3
   obtain ⟨dh,h6,h7⟩:=Z0 h5
   obtain ⟨k1,k2⟩:=hx x (by simp [Op.operands]) d h2
   rw [hti];simp only [Option.bind_some];rw [k1];simp only [Option.bind_some]
   rw [Z9A (h:=h) (h':=h') (fun y hy=>hx y (by subst hy;simp [Op.operands])) h4];simp only [Option.bind_some]
   rw [Z9A (h:=h) (h':=h') (fun y hy=>hx y (by subst hy;simp [Op.operands])) h6];simp only [Option.bind_some]
   cases hk:ti.k with
   | string =>
    rw [hk] at h7
    cases d with
    | str s=>exact ⟨h7,ZO (YE h7)⟩
    | _=>cases h7
   | array n e =>
    rw [hk] at h7
    cases d with
    | ptr id off =>
     simp only at h7 ⊢
     obtain ⟨ei,hei,h8⟩:=Z0 h7
     obtain ⟨ob,h9,h10⟩:=Z0 h8
     rw [hei];simp only [Option.bind_some];rw [k2 id (by simp [Zy]) _ h9];simp only [Option.bind_some]
     refine ⟨h10,?_⟩
     cases ob with
     | cells ct cs =>
      obtain ⟨_,h11⟩:=Z2 h10
      obtain ⟨q,_,h12⟩:=Z0 h11
      cases h12
      intro u hu
      simp only [List.mem_singleton] at hu
      subst hu
      exact .inr ⟨x,by simp [Op.operands],.ptr id off,h2,by simp [Zy]⟩
     | _=>cases h10
    | _=>cases h7
   | slice e =>
    rw [hk] at h7
    simp only at h7 ⊢
    obtain ⟨ei,hei,h8⟩:=Z0 h7
    obtain ⟨es,h9,h10⟩:=Z0 h8
    have k5:=Z71 (h:=h) (h':=h') (ds:=[d]) (fun id hid=>k2 id (by simpa [ZC] using hid)) (Zb5 h9)
    simp only [Zf,List.append_nil] at k5
    rw [hei];simp only [Option.bind_some];rw [Z5t k2 h9];simp only [Option.bind_some];rw [k5]
    refine ⟨h10,?_⟩
    obtain ⟨_,h11⟩:=Z2 h10
    obtain ⟨q,_,h12⟩:=Z0 h11
    cases h12
    intro u hu
    exact .inr ⟨x,by simp [Op.operands],d,h2,Z8L d _ (Z2D _ u hu)⟩
   | _=>rw [hk] at h7;cases h7
 | fieldAddr s x f =>
  simp only [Zx] at hd ⊢
  obtain ⟨ti,hti,h1⟩:=Z0 hd
  obtain ⟨d,h2,h3⟩:=Z0 h1
  rw [hti];simp only [Option.bind_some];rw [(hx x (by simp [Op.operands]) d h2).1]
  refine ⟨h3,?_⟩
  split at h3
  ·obtain ⟨q,_,h4⟩:=Z0 h3
   obtain ⟨fi,_,h5⟩:=Z0 h4
   obtain ⟨_,h6⟩:=Z2 h5
   exact ZO (YE h6)
  ·cases h3
 | field s x f =>
  simp only [Zx] at hd ⊢
  obtain ⟨ti,hti,h1⟩:=Z0 hd
  obtain ⟨d,h2,h3⟩:=Z0 h1
  rw [hti];simp only [Option.bind_some];rw [(hx x (by simp [Op.operands]) d h2).1]
  refine ⟨h3,?_⟩
  split at h3
  ·obtain ⟨q,_,h4⟩:=Z0 h3
   obtain ⟨fi,_,h5⟩:=Z0 h4
   exact ZO (YE h5)
  ·cases h3
 | indexAddr t x i =>
  simp only [Zx] at hd ⊢
  obtain ⟨ti,hti,h1⟩:=Z0 hd
  obtain ⟨d,h2,h3⟩:=Z0 h1
  obtain ⟨di,h4,h5⟩:=Z0 h3
  obtain ⟨k1,k2⟩:=hx x (by simp [Op.operands]) d h2
  rw [hti];simp only [Option.bind_some];rw [k1];simp only [Option.bind_some];rw [(hx i (by simp [Op.operands]) di h4).1];simp only [Option.bind_some]
  cases hk:ti.k with
  | array len e =>
   rw [hk] at h5
   refine ⟨h5,?_⟩
   obtain ⟨ei,_,h6⟩:=Z0 h5
   obtain ⟨j,_,h7⟩:=Z0 h6
   exact ZO (YE h7)
  | slice e =>
   rw [hk] at h5
   simp only at h5 ⊢
   obtain ⟨ei,hei,h6⟩:=Z0 h5
   rw [hei];simp only [Option.bind_some]
   cases d with
   | sl es =>
    refine ⟨h6,?_⟩
    obtain ⟨j,_,h7⟩:=Z0 h6
    obtain ⟨c,_,h8⟩:=Z0 h7
    obtain ⟨_,h9⟩:=Z2 h8
    cases h9;exact ZO rfl
   | rs id v =>
    simp only at h6 ⊢
    obtain ⟨o,ho,h7⟩:=Z0 h6
    rw [k2 id (by simp [Zy]) o ho]
    refine ⟨h7,?_⟩
    split at h7
    ·obtain ⟨j,_,h8⟩:=Z0 h7
     obtain ⟨_,h9⟩:=Z2 h8
     cases h9;exact ZO rfl
    ·cases h7
   | _=>cases h6
  | _=>rw [hk] at h5;cases h5
 | index t x i =>
  simp only [Zx] at hd ⊢
  obtain ⟨ti,hti,h1⟩:=Z0 hd
  obtain ⟨d,h2,h3⟩:=Z0 h1
  obtain ⟨di,h4,h5⟩:=Z0 h3
  rw [hti];simp only [Option.bind_some];rw [(hx x (by simp [Op.operands]) d h2).1];simp only [Option.bind_some];rw [(hx i (by simp [Op.operands]) di h4).1]
  refine ⟨h5,?_⟩
  split at h5
  ·obtain ⟨ei,_,h6⟩:=Z0 h5
   obtain ⟨j,_,h7⟩:=Z0 h6
   exact ZO (YE h7)
  ·obtain ⟨j,_,h7⟩:=Z0 h5
   obtain ⟨c,_,h8⟩:=Z0 h7
   cases h8;exact ZO rfl
  ·cases h5
 | lookup t m k ok =>
  simp only [Zx] at hd ⊢
  obtain ⟨ti,hti,h1⟩:=Z0 hd
  obtain ⟨dm,h2,h3⟩:=Z0 h1
  obtain ⟨dk,h4,h5⟩:=Z0 h3
  obtain ⟨k1,k2⟩:=hx m (by simp [Op.operands]) dm h2
  rw [hti];simp only [Option.bind_some];rw [k1];simp only [Option.bind_some];rw [(hx k (by simp [Op.operands]) dk h4).1];simp only [Option.bind_some]
  cases hk:ti.k with
  | map kt e =>
   rw [hk] at h5
   simp only at h5 ⊢
   obtain ⟨ei,hei,h6⟩:=Z0 h5
   obtain ⟨ki,hki,h7⟩:=Z0 h6
   obtain ⟨hq,h8⟩:=Z2 h7
   obtain ⟨es,h9,h10⟩:=Z0 h8
   rw [hei];simp only [Option.bind_some];rw [hki];simp only [Option.bind_some];rw [hq];simp only [cond_true]
   have k3:∀ (z:Option (List (DV×DV))),z=some es→(z.bind fun es=>(Z2A dk es).bind fun r=>match r,ei.zero with
     | some v,_=>ret (bif ok then .tup [v,.bool true] else v)
     | none,z::_=>ret (bif ok then .tup [z,.bool false] else z)
     | _,_=>none)=some r:=fun z hz=>by rw [hz];exact h10
   refine ⟨k3 _ ?_,?_⟩
   ·cases dm with
    | nilmap=>exact h9
    | map id =>
     simp only at h9 ⊢
     obtain ⟨o,ho,h11⟩:=Z0 h9
     rw [k2 id (by simp [Zy]) o ho];exact h11
    | _=>cases h9
   ·obtain ⟨q,_,h12⟩:=Z0 h10
    split at h12<;>first|(cases h12;exact ZO rfl)|cases h12
  | _=>rw [hk] at h5;cases h5
 | mapUpdate t m k x =>
  simp only [Zx] at hd ⊢
  obtain ⟨ti,hti,h1⟩:=Z0 hd
  obtain ⟨dm,h2,h3⟩:=Z0 h1
  obtain ⟨dk,h4,h5⟩:=Z0 h3
  obtain ⟨dx,h6,h7⟩:=Z0 h5
  obtain ⟨k1,k2⟩:=hx m (by simp [Op.operands]) dm h2
  rw [hti];simp only [Option.bind_some];rw [k1];simp only [Option.bind_some];rw [(hx k (by simp [Op.operands]) dk h4).1];simp only [Option.bind_some];rw [(hx x (by simp [Op.operands]) dx h6).1];simp only [Option.bind_some]
  cases hk:ti.k with
  | map kt e =>
   rw [hk] at h7
   cases dm with
   | map id =>
    simp only at h7 ⊢
    obtain ⟨ki,hki,h8⟩:=Z0 h7
    obtain ⟨o,ho,h9⟩:=Z0 h8
    rw [hki];simp only [Option.bind_some];rw [k2 id (by simp [Zy]) o ho]
    refine ⟨h9,?_⟩
    split at h9
    ·obtain ⟨_,h10⟩:=Z2 h9
     obtain ⟨es,_,h11⟩:=Z0 h10
     cases h11
     intro u hu
     simp only [List.mem_singleton] at hu
     subst hu;exact .inr ⟨m,by simp [Op.operands],.map id,h2,by simp [Zy]⟩
    ·cases h9
   | _=>cases h7
  | _=>rw [hk] at h7;cases h7
 | range t x =>
  simp only [Zx] at hd ⊢
  obtain ⟨ti,hti,h1⟩:=Z0 hd
  obtain ⟨d,h2,h3⟩:=Z0 h1
  rw [hti];simp only [Option.bind_some];rw [(hx x (by simp [Op.operands]) d h2).1]
  refine ⟨h3,?_⟩
  split at h3
  ·cases h3
   intro u hu;simp only [List.mem_singleton] at hu;subst hu;exact .inl rfl
  ·cases h3
 | next it s =>
  cases s with
  | false=>simp [Zx] at hd
  | true =>
   simp only [Zx] at hd ⊢
   obtain ⟨d,h1,h2⟩:=Z0 hd
   obtain ⟨k1,k2⟩:=hx it (by simp [Op.operands]) d h1
   rw [k1];simp only [Option.bind_some]
   cases d with
   | iter id =>
    simp only at h2 ⊢
    obtain ⟨o,ho,h3⟩:=Z0 h2
    rw [k2 id (by simp [Zy]) o ho]
    refine ⟨h3,?_⟩
    split at h3
    ·rename_i s pos
     by_cases hp:pos<s.size
     ·simp only [hp,decide_true,cond_true] at h3
      cases h3
      intro u hu
      simp only [List.mem_singleton] at hu
      subst hu;exact .inr ⟨it,by simp [Op.operands],.iter id,h1,by simp [Zy]⟩
     ·simp only [hp,decide_false,cond_false] at h3
      cases h3;exact ZO rfl
    ·cases h3
   | _=>cases h2
 | extract t i =>
  simp only [Zx] at hd ⊢
  obtain ⟨d,h1,h2⟩:=Z0 hd
  rw [(hx t (by simp [Op.operands]) d h1).1]
  refine ⟨h2,?_⟩
  split at h2
  ·exact ZO (YE h2)
  ·cases h2
 | _=>simp [Zx] at hd
theorem Zah:∀ (xs ys:List DV) (i:Nat),i∈ZC (xs++ys)↔i∈ZC xs∨i∈ZC ys
 | [],ys,i=>by simp [ZC]
 | x::xs,ys,i=>by simp [ZC,Zah xs ys i,or_assoc]
theorem Zc5 {c:Call} {g:FuncId} {x y as:List DV} (hx:∀ z∈c.operands,OkX ρ ρ' h h' z) (hd:target E ρ c=some (.fn (.func g) x y,as)) :
  target E ρ' c=some (.fn (.func g) x y,as)∧∀ id,id∈ZC as→(∀ o,h id=some o→h' id=some o)∧∃ z∈c.operands,∃ d,ZT ρ z=some d∧id∈Zy d:=by
 unfold target at hd ⊢
 split at hd
 ·rename_i f hc
  have hf:f∈c.operands:=by simp [Call.operands,hc]
  have hargs:∀ z∈c.args.toList,z∈c.operands:=fun z hm=>by simp [Call.operands];exact .inr (by simpa using hm)
  obtain ⟨d,h1,h2⟩:=Z0 hd
  obtain ⟨k1,k2⟩:=hx f hf d h1
  rw [k1];simp only [Option.bind_some]
  split at h2
  ·rename_i g' first caps
   obtain ⟨as',h3,h4⟩:=Z0 h2
   obtain ⟨k3,k4⟩:=Z1q (h:=h) (h':=h') (fun z hm=>hx z (hargs z hm)) h3
   rw [k3]
   cases h4
   refine ⟨rfl,fun id hid => ?_⟩
   rw [Zah,Zah] at hid
   rcases hid with (hid|hid)|hid
   ·have:id∈Zy (.fn (.func g) first caps):=by simp only [Zy,List.mem_append];exact .inl hid
    exact ⟨k2 id this,f,hf,_,h1,this⟩
   ·obtain ⟨m1,z,m2,m3⟩:=k4 id hid
    exact ⟨m1,z,hargs z m2,m3⟩
   ·have:id∈Zy (.fn (.func g) first caps):=by simp only [Zy,List.mem_append];exact .inr hid
    exact ⟨k2 id this,f,hf,_,h1,this⟩
  ·obtain ⟨as',h3,h4⟩:=Z0 h2
   cases h4
  ·cases h2
 ·rename_i f m hc
  have hf:f∈c.operands:=by simp [Call.operands,hc]
  have hargs:∀ z∈c.args.toList,z∈c.operands:=fun z hm=>by simp [Call.operands];exact .inr (by simpa using hm)
  obtain ⟨d,h1,h2⟩:=Z0 hd
  obtain ⟨k1,k2⟩:=hx f hf d h1
  rw [k1];simp only [Option.bind_some]
  split at h2
  ·rename_i t v
   obtain ⟨ti,hti,h2⟩:=Z0 h2
   obtain ⟨g',hg,h2⟩:=Z0 h2
   obtain ⟨as',h3,h4⟩:=Z0 h2
   obtain ⟨k3,k4⟩:=Z1q (h:=h) (h':=h') (fun z hm=>hx z (hargs z hm)) h3
   simp only [hti,hg,k3,Option.bind_some]
   cases h4
   refine ⟨rfl,fun id hid => ?_⟩
   simp only [ZC,List.mem_append] at hid
   rcases hid with hid|hid
   ·have:id∈Zy (.iface t v):=by simpa only [Zy] using hid
    exact ⟨k2 id this,f,hf,_,h1,this⟩
   ·obtain ⟨m1,z,m2,m3⟩:=k4 id hid
    exact ⟨m1,z,hargs z m2,m3⟩
  ·cases h2
 ·cases hd
theorem Zf7 {call:Nat→List DV→Option DV} {op:Op} {r:Out} (hx:∀ x∈op.operands,OkX ρ ρ' h h' x) (hd:Z7c E call nid ρ h op=some r):Z7c E call nid ρ' h' op=some r∧Ups ρ nid op.operands r:=by
 unfold Z7c at hd ⊢
 split at hd
 ·rename_i c hc
  have hop:=Z3e hc
  subst hop
  unfold Z5u at hd ⊢
  obtain ⟨tg,h1,h2⟩:=Z0 hd
  split at h2
  ·rename_i g x y as
   obtain ⟨fs,h3,h4⟩:=Z0 h2
   obtain ⟨q,h5,h6⟩:=Z0 h4
   cases h6
   have hx':∀ z∈c.operands,OkX ρ ρ' h h' z:=hx
   obtain ⟨k1,k2⟩:=Zc5 hx' h1
   rw [k1];simp only [Option.bind_some]
   rw [Z3x as fs (fun id hid=>(k2 id hid).1) h3];simp only [Option.bind_some]
   rw [h5];simp only [Option.bind_some]
   rw [Z71 (fun id hid=>(k2 id hid).1) (Z2R as fs h3)]
   refine ⟨rfl,fun u hu => ?_⟩
   obtain ⟨_,z,m1,m2⟩:=k2 u.1 (Z2L as _ (Z2D _ u hu))
   exact .inr ⟨z,m1,m2⟩
  ·cases h2
 ·exact Zg7 hx hd
end
end Go.Ab
namespace Go.Ab
open Go.RowKit
section
variable {E:Env} {call:Nat→List DV→Option DV} {callH callY:Yh} {V nt:Nat} {ops:Array Oper} {b:Nat}
structure Z3H (E:Env) (call:Nat→List DV→Option DV) (callH callY:Yh) (V nt:Nat) (ops:Array Oper) (b:Nat) (m:Mid) (k nx nx2:Nat) (o:Oper) (d:Yv) (ds:List (Nat×Yv)):Prop where
 op:ops[k]? = some o
 dst:d.dst=o.dst
 anc:d.anc=Z1C ops ds o k
 edges:∀ e∈o.after,Region.binds .any e=true→e.on<k
 fits:∀ t,o.dst=some t→t<nt
 apart:∀ e∈ds,Nat.testBit d.anc e.1=true∨∀ t,o.dst=some t→t∉(ops.getD e.1 o).looksAt ops∧e.2.dst≠some t
 ups:∀ e∈ds,Nat.testBit d.anc e.1=true∨((d.new≠none→e.2.new=none)∧∀ u∈d.out.upd,u.1∉e.2.touch∧Zp u.1 e.2.out.upd=none)
 run:(Z1n ops (Z5O d.anc (ZV V m.base m.loc) ds) o=some true∧Z7c E call (b+k) (Z5O d.anc (ZV V m.base m.loc) ds) (Z5k d.anc m.objs.get ds) o.op=some d.out∧d.touch=touch (Z5O d.anc (ZV V m.base m.loc) ds) o.op∧d.new=none∧nx2=nx) ∨
  (Z1n ops (Z5O d.anc (ZV V m.base m.loc) ds) o=some false∧d.touch=[]∧d.out=⟨some (.tup []),[]⟩∧d.new=none∧nx2=nx) ∨
  (Z1n ops (Z5O d.anc (ZV V m.base m.loc) ds) o=some true∧d.new=some (nx,nx2)∧∃ cl tgt,Z3m o.op=some cl∧target E (Z5O d.anc (ZV V m.base m.loc) ds) cl=some tgt∧YL callH callY (Z5k d.anc m.objs.get ds) nx tgt=some (d.out,d.touch,nx2))
def Z2P (E:Env) (call:Nat→List DV→Option DV) (callH callY:Yh) (V nt:Nat) (ops:Array Oper) (b:Nat) (m:Mid):Nat→Nat→List (Nat×Yv)→Prop
 | k,nx,[]=>k=0∧nx=m.next
 | k,nx,(j,d)::ds=>k=j+1∧∃ nx0,(∃ o,Z3H E call callH callY V nt ops b m j nx0 nx o d ds)∧Z2P E call callH callY V nt ops b m j nx0 ds
theorem ZdZ {k:Nat} {o:Oper} {os:List Oper} (h:o::os=ops.toList.drop k):ops[k]? = some o∧os=ops.toList.drop (k+1):=by
 have hlt:k<ops.toList.length:=by
  rcases Nat.lt_or_ge k ops.toList.length with h1|h1
  ·exact h1
  ·rw [List.drop_eq_nil_of_le h1] at h;cases h
 rw [List.drop_eq_getElem_cons hlt] at h
 simp only [List.cons.injEq] at h
 refine ⟨?_,h.2⟩
 rw [h.1,←Array.getElem?_toList]
 exact List.getElem?_eq_getElem hlt
theorem Z3P {m:Mid}:∀ (os:List Oper) (k:Nat) (mf:Mid) (nx:Nat) (ds:List (Nat×Yv)),Z12 E call callH callY V nt ops b k os { m with next:=nx } ds=some mf→os=ops.toList.drop k→Z2P E call callH callY V nt ops b m k nx ds→k≤ops.size →
  ∃ nx2 ds2,Z2P E call callH callY V nt ops b m ops.size nx2 ds2∧mf=YG V nt ds2 { m with next:=nx2 }
 | [],k,mf,nx,ds,hd,ho,hs,hk=>by
  simp only [Z12,Option.some.injEq] at hd
  have:=List.drop_eq_nil_iff.1 ho.symm
  simp at this
  have:k=ops.size:=by omega
  subst this
  exact ⟨nx,ds,hs,hd.symm⟩
 | o::os,k,mf,nx,ds,hd,ho,hs,hk=>by
  obtain ⟨hop,hos⟩:=ZdZ ho
  have hlt:k<ops.size:=(Array.getElem?_eq_some_iff.1 hop).1
  simp only [Z12] at hd
  obtain ⟨hq,hd⟩:=Z2 hd
  simp only [Bool.and_eq_true,List.all_eq_true,Bool.or_eq_true] at hq
  obtain ⟨⟨q1,q2⟩,q4⟩:=hq
  have hedges:∀ e∈o.after,Region.binds .any e=true→e.on<k:=fun e he hb=>by
   have:=(Array.all_eq_true_iff_forall_mem.1 q1) e he
   simp only [hb,Bool.not_true,Bool.false_or,Tr.blt_dec,decide_eq_true_eq] at this
   exact this
  have hfits:∀ t,o.dst=some t→t<nt:=fun t ht=>by
   rw [ht] at q2
   simpa [Tr.blt_dec] using q2
  have hap:∀ e∈ds,Nat.testBit (Z1C ops ds o k) e.1=true∨∀ t,o.dst=some t→t∉(ops.getD e.1 o).looksAt ops∧e.2.dst≠some t:=fun e he=>by
   rcases q4 e he with h|h
   ·exact .inl h
   ·refine .inr fun t ht => ?_
    rw [ht] at h
    simp only [Bool.and_eq_true,Bool.not_eq_true'] at h
    refine ⟨by simpa using h.1,fun hdst => ?_⟩
    have h2:=h.2
    rw [hdst] at h2
    simp at h2
  obtain ⟨want,hw,hd⟩:=Z0 hd
  cases want with
  | false =>
   simp only [cond_false] at hd
   exact Z3P os (k+1) mf nx _ hd hos ⟨rfl,nx,⟨o,hop,rfl,rfl,hedges,hfits,hap,fun e _ => .inr ⟨fun h=>absurd rfl h,fun u hu=>by cases hu⟩,.inr (.inl ⟨hw,rfl,rfl,rfl,rfl⟩)⟩,hs⟩ hlt
  | true =>
   simp only [cond_true] at hd
   obtain ⟨so,hso,hd⟩:=Z0 hd
   cases so with
   | some r =>
    have hr:=Z9Q hso
    obtain ⟨hup,hd⟩:=Z2 hd
    have hups:∀ e∈ds,Nat.testBit (Z1C ops ds o k) e.1=true∨(((none:Option (Nat×Nat))≠none→e.2.new=none)∧∀ u∈r.upd,u.1∉e.2.touch∧Zp u.1 e.2.out.upd=none):=fun e he=>by
     simp only [List.all_eq_true,Bool.or_eq_true,Bool.and_eq_true,Bool.not_eq_true',Option.isNone_iff_eq_none] at hup
     by_cases hq:Nat.testBit (Z1C ops ds o k) e.1=true
     ·exact .inl hq
     ·refine .inr ⟨fun h=>absurd rfl h,fun u hu => ?_⟩
      rcases hup u hu e he with h|h
      ·exact absurd h hq
      ·exact ⟨by simpa using h.1,h.2⟩
    exact Z3P os (k+1) mf nx _ hd hos ⟨rfl,nx,⟨o,hop,rfl,rfl,hedges,hfits,hap,hups,.inl ⟨hw,hr,rfl,rfl,rfl⟩⟩,hs⟩ hlt
   | none =>
    obtain ⟨cl,h1,hd⟩:=Z0 hd
    obtain ⟨tgt,h2,hd⟩:=Z0 hd
    obtain ⟨⟨out,T,nx2⟩,h3,hd⟩:=Z0 hd
    obtain ⟨hall,hd⟩:=Z2 hd
    simp only [List.all_eq_true,Bool.or_eq_true,Bool.and_eq_true,Bool.not_eq_true',Option.isNone_iff_eq_none] at hall
    have hups:∀ e∈ds,Nat.testBit (Z1C ops ds o k) e.1=true∨((some (nx,nx2)≠none→e.2.new=none)∧∀ u∈out.upd,u.1∉e.2.touch∧Zp u.1 e.2.out.upd=none):=fun e he=>by
     rcases hall e he with h|⟨h,h'⟩
     ·exact .inl h
     ·exact .inr ⟨fun _=>h,fun u hu=>⟨by simpa using (h' u hu).1,(h' u hu).2⟩⟩
    exact Z3P os (k+1) mf nx2 _ hd hos ⟨rfl,nx,⟨o,hop,rfl,rfl,hedges,hfits,hap,hups,.inr (.inr ⟨hw,rfl,cl,tgt,h1,h2,h3⟩)⟩,hs⟩ hlt
theorem ZeC {ds:List (Nat×Yv)} {o:Oper} {k i:Nat} (h:Nat.testBit (Z1C ops ds o k) i=true):∃ e∈o.after,Region.binds .any e=true∧e.on<k∧(i=e.on∨∃ d,(e.on,d)∈ds∧Nat.testBit d.anc i=true):=by
 unfold Z1C at h
 have key:∀ (es:List Edge) (x:Nat),Nat.testBit (es.foldl (fun m e=>bif Region.binds .any e&&Nat.blt e.on k then m ||| (1 <<< e.on) ||| ((ds.find? (fun d=>Nat.beq d.1 e.on)).map (·.2.anc)).getD 0 else m) x) i=true →
   Nat.testBit x i=true∨∃ e∈es,Region.binds .any e=true∧e.on<k∧(i=e.on∨∃ d,(e.on,d)∈ds∧Nat.testBit d.anc i=true):=by
  intro es
  induction es with
  | nil=>intro x hx;exact .inl hx
  | cons e es ih =>
   intro x hx
   rw [List.foldl_cons] at hx
   rcases ih _ hx with h1|⟨e',h1,h2⟩
   ·cases hq:(Region.binds .any e&&Nat.blt e.on k) with
    | false=>rw [hq] at h1;exact .inl h1
    | true =>
     rw [hq] at h1
     simp only [Bool.and_eq_true,Tr.blt_dec,decide_eq_true_eq] at hq
     simp only [cond_true,Nat.testBit_or,Bool.or_eq_true] at h1
     rcases h1 with (h1|h1)|h1
     ·exact .inl h1
     ·refine .inr ⟨e,by simp,hq.1,hq.2,.inl ?_⟩
      rw [Nat.one_shiftLeft,Nat.testBit_two_pow] at h1
      simpa using (of_decide_eq_true h1).symm
     ·refine .inr ⟨e,by simp,hq.1,hq.2,.inr ?_⟩
      cases hf:ds.find? (fun d=>Nat.beq d.1 e.on) with
      | none=>rw [hf] at h1;simp at h1
      | some p =>
       rw [hf] at h1
       obtain ⟨j,d⟩:=p
       have hj:=List.find?_some hf
       have hj:j=e.on:=Nat.eq_of_beq_eq_true hj
       subst hj
       exact ⟨d,List.mem_of_find?_eq_some hf,h1⟩
   ·exact .inr ⟨e',by simp [h1],h2⟩
 rcases key _ _ h with h1|⟨e,h1,h2⟩
 ·simp at h1
 ·exact ⟨e,by simpa using h1,h2⟩
def Z1A (L:Nat→Bool) (ρ:Nat→Option DV):List (Nat×Yv)→Nat→Option DV
 | [],t=>ρ t
 | (j,d)::ds,t=>if L j=true∧d.dst=some t then d.out.val else Z1A L ρ ds t
def hL (L:Nat→Bool) (h:Nat→Option Z8):List (Nat×Yv)→Nat→Option Z8
 | [],id=>h id
 | (j,d)::ds,id=>if L j=true then (match Zp id d.out.upd with|some x=>x|none=>hL L h ds id) else hL L h ds id
theorem Z7u {id:Nat}:∀ {us:List (Nat×Option Z8)} {x:Option Z8},Zp id us=some x→∃ u∈us,u.1=id
 | [],_,h=>by cases h
 | (i,y)::us,x,h=>by
  simp only [Zp] at h
  cases hq:Zp id us with
  | some z =>
   obtain ⟨u,h1,h2⟩:=Z7u hq
   exact ⟨u,by simp [h1],h2⟩
  | none =>
   rw [hq] at h
   simp only [Tr.beq_dec] at h
   by_cases e:i=id
   ·exact ⟨(i,y),by simp,e⟩
   ·simp [e] at h
variable {m:Mid}
theorem ZaJ:∀ {ds:List (Nat×Yv)} {k nx:Nat},Z2P E call callH callY V nt ops b m k nx ds→∀ j d,(j,d)∈ds→j<k
 | [],k,_,h=>fun _ _ h=>by cases h
 | (j,d)::ds,k,_,h=>by
  obtain ⟨rfl,_,_,h2⟩:=h
  have k2:=ZaJ h2
  intro i e hi
  rcases List.mem_cons.1 hi with hi|hi
  ·cases hi;omega
  ·have:=k2 i e hi
   omega
def Zex (L:Nat→Bool) (ds:List (Nat×Yv)):Prop:=∀ j d,(j,d)∈ds→L j=true→∀ i,Nat.testBit d.anc i=true→L i=true
theorem Zfs:∀ {ds:List (Nat×Yv)} {k nx:Nat},Z2P E call callH callY V nt ops b m k nx ds→∀ j,j<k→∃ d tl o nx1 nx2,(j,d)∈ds∧Z3H E call callH callY V nt ops b m j nx1 nx2 o d tl∧(∀ e∈tl,e∈ds)∧Z2P E call callH callY V nt ops b m j nx1 tl
 | [],k,_,h,j,h2=>by rw [h.1] at h2;omega
 | (i,d)::ds,k,nx,h,j,h2=>by
  obtain ⟨rfl,nx0,⟨o,ho⟩,h4⟩:=h
  by_cases e:j=i
  ·subst e;exact ⟨d,ds,o,nx0,nx,by simp,ho,fun e he=>by simp [he],h4⟩
  ·obtain ⟨d',tl,o',n1,n2,k1,k2,k3,k4⟩:=Zfs h4 j (by omega)
   exact ⟨d',tl,o',n1,n2,by simp [k1],k2,fun e he=>by simp [k3 e he],k4⟩
theorem Z9O {L:Nat→Bool} {anc:Nat} (hanc:∀ i,Nat.testBit anc i=true→L i=true) {ρ:Nat→Option DV} {t:Nat} {v:DV}:∀ {ds:List (Nat×Yv)},Z5O anc ρ ds t=some v→Z1A L ρ ds t=some v
 | [],h=>h
 | (j,d)::ds,h=>by
  simp only [Z5O] at h
  simp only [Z1A]
  by_cases e:d.dst=some t
  ·rw [e] at h
   simp only [Tr.beq_dec,decide_true,cond_true] at h
   cases hq:Nat.testBit anc j with
   | false=>rw [hq] at h;cases h
   | true=>rw [hq] at h;rw [if_pos ⟨hanc j hq,e⟩];exact h
  ·rw [if_neg (fun q=>e q.2)]
   refine Z9O hanc ?_
   cases hd:d.dst with
   | none=>rw [hd] at h;exact h
   | some s =>
    have hne:s≠t:=fun q=>e (by rw [hd,q])
    rw [hd] at h
    simpa [Tr.beq_dec,hne] using h
theorem Z8S {L:Nat→Bool} {anc:Nat} (hanc:∀ i,Nat.testBit anc i=true→L i=true) {h:Nat→Option Z8} {id:Nat} {ob:Z8}:∀ {ds:List (Nat×Yv)},Z5k anc h ds id=some ob→hL L h ds id=some ob
 | [],h=>h
 | (j,d)::ds,h=>by
  simp only [Z5k] at h
  simp only [hL]
  cases hq:Zp id d.out.upd with
  | some x =>
   rw [hq] at h
   simp only at h ⊢
   cases hb:Nat.testBit anc j with
   | false=>rw [hb] at h;cases h
   | true=>rw [hb] at h;rw [if_pos (hanc j hb)];exact h
  | none =>
   rw [hq] at h
   simp only at h ⊢
   have:=Z8S hanc h
   by_cases e:L j=true
   ·rw [if_pos e];exact this
   ·rw [if_neg e];exact this
theorem Z7r {L L':Nat→Bool} {ρ:Nat→Option DV} {t:Nat}:∀ {ds:List (Nat×Yv)},(∀ i e,(i,e)∈ds→L' i=L i)→Z1A L' ρ ds t=Z1A L ρ ds t
 | [],_=>rfl
 | (j,d)::ds,h=>by
  simp only [Z1A]
  rw [h j d (by simp),Z7r fun i e hi=>h i e (by simp [hi])]
theorem Zbk {L L':Nat→Bool} {h:Nat→Option Z8} {id:Nat}:∀ {ds:List (Nat×Yv)},(∀ i e,(i,e)∈ds→L' i=L i)→hL L' h ds id=hL L h ds id
 | [],_=>rfl
 | (j,d)::ds,h=>by
  simp only [hL]
  rw [h j d (by simp),Zbk fun i e hi=>h i e (by simp [hi])]
theorem ZbY {L:Nat→Bool} {k:Nat} (hk:L k=false) {L':Nat→Bool} (hL':∀ j,L' j=if j=k then true else L j):∀ {ds:List (Nat×Yv)} {n nx:Nat},Z2P E call callH callY V nt ops b m n nx ds→Zex L ds→k<n→∃ d tl o nx1 nx2,(k,d)∈ds∧Z3H E call callH callY V nt ops b m k nx1 nx2 o d tl ∧
  ((∀ i,Nat.testBit d.anc i=true→L i=true) →
   (∀ t v,t∈o.looksAt ops→Z5O d.anc (ZV V m.base m.loc) tl t=some v→Z1A L (ZV V m.base m.loc) ds t=some v) ∧
   (∀ id ob,id∈d.touch→Z5k d.anc m.objs.get tl id=some ob→hL L m.objs.get ds id=some ob)) ∧
  (∀ t,Z1A L' (ZV V m.base m.loc) ds t=if d.dst=some t then d.out.val else Z1A L (ZV V m.base m.loc) ds t) ∧
  (∀ id,hL L' m.objs.get ds id=match Zp id d.out.upd with|some x=>x|none=>hL L m.objs.get ds id)
 | [],n,_,h,_,h2=>by rw [h.1] at h2;omega
 | (j,dj)::ds,n,nx,h,hd,h2=>by
  obtain ⟨rfl,nx0,⟨o,ho⟩,h4⟩:=h
  have hd':Zex L ds:=fun i e hi=>hd i e (by simp [hi])
  by_cases e:k=j
  ·subst e
   have hlt:=ZaJ h4
   have hself:L' k=true:=by rw [hL'];simp
   have hsame:∀ i e,(i,e)∈ds→L' i=L i:=fun i e hi=>by
    have:=hlt i e hi
    rw [hL',if_neg (by omega)]
   refine ⟨dj,ds,o,nx0,nx,by simp,ho,fun hanc=>⟨fun t v _ hs => ?_,fun id ob _ hs => ?_⟩,fun t => ?_,fun id => ?_⟩
   ·simp only [Z1A,hk,Bool.false_eq_true,false_and,if_false]
    exact Z9O hanc hs
   ·simp only [hL,hk,Bool.false_eq_true,if_false]
    exact Z8S hanc hs
   ·simp only [Z1A,hself,hk,Bool.false_eq_true,false_and,if_false,true_and]
    rw [Z7r hsame]
   ·simp only [hL,hself,hk,Bool.false_eq_true,if_false,if_true]
    rw [Zbk hsame]
  ·obtain ⟨d,tl,o',n1,n2,k1,k2,k3,k4,k5⟩:=ZbY hk hL' h4 hd' (by omega)
   have hne:L' j=L j:=by rw [hL',if_neg (fun q=>e q.symm)]
   have hnb:L j=true→Nat.testBit dj.anc k=false:=fun hj=>by
    cases hq:Nat.testBit dj.anc k with
    | false=>rfl
    | true=>have:=hd j dj (by simp) hj k hq;rw [hk] at this;cases this
   have hgo:(ops.getD k o).looksAt ops=o'.looksAt ops:=by
    have:ops.getD k o=o':=by
     have:=k2.op
     simp [this]
    rw [this]
   have hup:L j=true→∀ id x,Zp id dj.out.upd=some x→id∉d.touch∧Zp id d.out.upd=none:=fun hj id x hq=>by
    obtain ⟨u,hu,rfl⟩:=Z7u hq
    rcases ho.ups (k,d) k1 with q|q
    ·rw [hnb hj] at q;cases q
    ·exact q.2 u hu
   refine ⟨d,tl,o',n1,n2,by simp [k1],k2,fun hanc=>⟨fun t v ht hs => ?_,fun id ob hid hs => ?_⟩,fun t => ?_,fun id => ?_⟩
   ·simp only [Z1A]
    rw [if_neg,(k3 hanc).1 t v ht hs]
    rintro ⟨e1,e2⟩
    rcases ho.apart (k,d) k1 with q|q
    ·rw [hnb e1] at q;cases q
    ·have:=(q t (by rw [←ho.dst];exact e2)).1
     rw [hgo] at this
     exact this ht
   ·simp only [hL]
    rw [(k3 hanc).2 id ob hid hs]
    by_cases e1:L j=true
    ·rw [if_pos e1]
     cases hq:Zp id dj.out.upd with
     | none=>rfl
     | some x=>exact absurd hid (hup e1 id x hq).1
    ·rw [if_neg e1]
   ·simp only [Z1A,hne]
    rw [k4]
    by_cases e1:L j=true∧dj.dst=some t
    ·rw [if_pos e1,if_pos e1,if_neg]
     intro e2
     rcases ho.apart (k,d) k1 with q|q
     ·rw [hnb e1.1] at q;cases q
     ·exact (q t (by rw [←ho.dst];exact e1.2)).2 e2
    ·rw [if_neg e1,if_neg e1]
   ·simp only [hL,hne]
    rw [k5]
    by_cases e1:L j=true
    ·rw [if_pos e1,if_pos e1]
     cases hq:Zp id dj.out.upd with
     | none=>rfl
     | some x=>rw [(hup e1 id x hq).2]
    ·rw [if_neg e1,if_neg e1]
theorem ZeR {k nx nx2:Nat} {o:Oper} {d:Yv} {ds:List (Nat×Yv)} (ho:Z3H E call callH callY V nt ops b m k nx nx2 o d ds):nx≤nx2:=by
 rcases ho.run with ⟨_,_,_,_,h⟩|⟨_,_,_,_,h⟩|⟨_,_,_,_,_,_,h⟩
 ·omega
 ·omega
 ·exact Zck _ _ _ _ _ _ h
theorem Z4R {k nx nx2:Nat} {o:Oper} {d:Yv} {ds:List (Nat×Yv)} (ho:Z3H E call callH callY V nt ops b m k nx nx2 o d ds) {lo hi:Nat} (hn:d.new=some (lo,hi)):lo=nx∧hi=nx2:=by
 rcases ho.run with ⟨_,_,_,h,_⟩|⟨_,_,_,h,_⟩|⟨_,h,_⟩
 ·rw [hn] at h;cases h
 ·rw [hn] at h;cases h
 ·rw [hn] at h;cases h;exact ⟨rfl,rfl⟩
theorem Zcq {k nx nx2:Nat} {o:Oper} {d:Yv} {ds:List (Nat×Yv)} (ho:Z3H E call callH callY V nt ops b m k nx nx2 o d ds) (hn:d.new=none):nx2=nx:=by
 rcases ho.run with ⟨_,_,_,_,h⟩|⟨_,_,_,_,h⟩|⟨_,h,_⟩
 ·exact h
 ·exact h
 ·rw [hn] at h;cases h
theorem ZaI:∀ {ds:List (Nat×Yv)} {k nx:Nat},Z2P E call callH callY V nt ops b m k nx ds→m.next≤nx∧∀ j d lo hi,(j,d)∈ds→d.new=some (lo,hi)→m.next≤lo∧lo≤hi∧hi≤nx
 | [],k,nx,h=>⟨by rw [h.2];exact Nat.le_refl _,fun _ _ _ _ h=>by cases h⟩
 | (i,d)::ds,k,nx,h=>by
  obtain ⟨rfl,nx0,⟨o,ho⟩,h4⟩:=h
  obtain ⟨h5,h6⟩:=ZaI h4
  have h7:=ZeR ho
  refine ⟨by omega,fun j d' lo hi hj hn => ?_⟩
  rcases List.mem_cons.1 hj with hj|hj
  ·cases hj
   obtain ⟨rfl,rfl⟩:=Z4R ho hn
   exact ⟨h5,h7,Nat.le_refl _⟩
  ·obtain ⟨a,b,c⟩:=h6 j d' lo hi hj hn
   exact ⟨a,b,by omega⟩
theorem Z9P:∀ {ds:List (Nat×Yv)} {n nx:Nat},Z2P E call callH callY V nt ops b m n nx ds→∀ k d lo hi,(k,d)∈ds→d.new=some (lo,hi)→∀ id,lo≤id→id<nx →
  ∃ j dj lo' hi',(j,dj)∈ds∧dj.new=some (lo',hi')∧lo'≤id∧id<hi'∧(j=k∨Nat.testBit dj.anc k=true)
 | [],_,_,_,_,_,_,_,h,_,_,_,_=>by cases h
 | (i,di)::ds,n,nx,h,k,d,lo,hi,hk,hn,id,h1,h2=>by
  obtain ⟨rfl,nx0,⟨o,ho⟩,h4⟩:=h
  rcases List.mem_cons.1 hk with hk|hk
  ·cases hk
   obtain ⟨rfl,rfl⟩:=Z4R ho hn
   exact ⟨i,di,_,_,by simp,hn,h1,h2,.inl rfl⟩
  ·rcases Nat.lt_or_ge id nx0 with h3|h3
   ·obtain ⟨j,dj,lo',hi',a,b,c,d',e⟩:=Z9P h4 k d lo hi hk hn id h1 h3
    exact ⟨j,dj,lo',hi',by simp [a],b,c,d',e⟩
   ·cases hq:di.new with
    | none=>have:=Zcq ho hq;omega
    | some p =>
     obtain ⟨lo',hi'⟩:=p
     obtain ⟨rfl,rfl⟩:=Z4R ho hq
     refine ⟨i,di,lo',hi',by simp,hq,h3,h2,.inr ?_⟩
     rcases ho.ups (k,d) hk with q|q
     ·exact q
     ·have:=q.1 (by rw [hq];simp)
      rw [hn] at this;cases this
theorem ZdL:∀ {ds:List (Nat×Yv)} {n nx:Nat},Z2P E call callH callY V nt ops b m n nx ds→∀ k d lo hi j dj lo' hi',(k,d)∈ds→d.new=some (lo,hi)→(j,dj)∈ds→dj.new=some (lo',hi')→j≠k→Nat.testBit d.anc j=true∨hi≤lo'
 | [],_,_,_,_,_,_,_,_,_,_,_,h,_,_,_,_=>by cases h
 | (i,di)::ds,n,nx,h,k,d,lo,hi,j,dj,lo',hi',hk,hn,hj,hnj,hne=>by
  obtain ⟨rfl,nx0,⟨o,ho⟩,h4⟩:=h
  rcases List.mem_cons.1 hk with hk|hk
  ·cases hk
   rcases List.mem_cons.1 hj with hj|hj
   ·cases hj;exact absurd rfl hne
   ·rcases ho.ups (j,dj) hj with q|q
    ·exact .inl q
    ·have:=q.1 (by rw [hn];simp)
     rw [hnj] at this;cases this
  ·rcases List.mem_cons.1 hj with hj|hj
   ·cases hj
    obtain ⟨rfl,rfl⟩:=Z4R ho hnj
    exact .inr ((ZaI h4).2 k d lo hi hk hn).2.2
   ·exact ZdL h4 k d lo hi j dj lo' hi' hk hn hj hnj hne
end
end Go.Ab
namespace Go.Ab
open Go.RowKit
section
variable {P:Program} {E:Env} {w0:World} {G0:Gh} {outer:DD} {own:List Nat} {V nt:Nat} {a:Act} {w:World} {β:Bi} {G:Gh} {ro:Option Nat} {n:Nat} {call:Nat→List DV→Option DV} {callH callY:Yh} {ops:Array Oper} {b:Nat} {m:Mid}
structure DS (E:Env) (w0:World) (G0:Gh) (outer:DD) (V nt:Nat) (own:List Nat) (ops:Array Oper) (b nx:Nat) (m:Mid) (ds:List (Nat×Yv)) (L:Nat→Bool) (β0:Bi) (Gz:Gh) (hz:Nat→Option Z8) (a:Act) (w:World) (β:Bi) (G:Gh):Prop where
 fr:FrM β G (Z1A L (ZV V m.base m.loc) ds) a.tmps
 dom:∀ t d,m.base.get t=some d→Nat.testBit V t=true
 sz:a.tmps.size=nt
 hr:HR E w0 G0 (YA own outer) w β G (hL L m.objs.get ds)
 fresh:∀ id,nx≤id→ZJ β (hL L m.objs.get ds) id
 df:a.defers=own.map Z8t∧Z9X own outer
 un:∀ j,j<ops.size→L j=false→ZJ β (hL L m.objs.get ds) (b+j)
 unc:∀ j d lo hi,(j,d)∈ds→d.new=some (lo,hi)→L j=false→∀ id,lo≤id→id<hi→ZJ β (hL L m.objs.get ds) id
 down:Zex L ds
 go:Go2 b β0 Gz β G hz (hL L m.objs.get ds)
theorem ZdK:∀ {ds:List (Nat×Yv)} {k nx:Nat},Z2P E call callH callY V nt ops b m k nx ds→∀ j d,(j,d)∈ds→∃ tl o nx1 nx2,Z3H E call callH callY V nt ops b m j nx1 nx2 o d tl∧∀ e∈tl,e∈ds
 | [],_,_,_,_,_,h=>by cases h
 | (i,d)::ds,k,nx,h,j,d',hj=>by
  obtain ⟨_,nx0,⟨o,ho⟩,h4⟩:=h
  rcases List.mem_cons.1 hj with hj|hj
  ·cases hj;exact ⟨ds,o,nx0,nx,ho,fun e he=>by simp [he]⟩
  ·obtain ⟨tl,o',n1,n2,k1,k2⟩:=ZdK h4 j d' hj
   exact ⟨tl,o',n1,n2,k1,fun e he=>by simp [k2 e he]⟩
theorem ZeD {ds:List (Nat×Yv)} {L:Nat→Bool} {o:Oper} {k:Nat} (hd:Zex L ds) {tl:List (Nat×Yv)} (htl:∀ e∈tl,e∈ds) (he:∀ e∈o.after,Region.binds .any e=true→L e.on=true) :
  ∀ i,Nat.testBit (Z1C ops tl o k) i=true→L i=true:=fun i hi=>by
 obtain ⟨e,h1,h2,_,h4⟩:=ZeC hi
 rcases h4 with rfl|⟨d,h5,h6⟩
 ·exact he e h1 h2
 ·exact hd e.on d (htl _ h5) (he e h1 h2) i h6
theorem Zf3 {o:Oper} {t:Nat} (h:Operand.tmp t∈o.op.operands):t∈o.looksAt ops :=
 List.mem_append_left _ (List.mem_filterMap.2 ⟨.tmp t,by simpa using h,rfl⟩)
theorem Z9z {o:Oper} {ρ ρ':Nat→Option DV} (h:∀ t v,t∈o.looksAt ops→ρ t=some v→ρ' t=some v) {x:Operand} (hx:x∈o.op.operands) {d:DV} (hd:ZT ρ x=some d):ZT ρ' x=some d:=by
 cases x with
 | tmp t=>exact h t d (Zf3 hx) hd
 | _=>exact hd
theorem Z4P {o:Oper} {ρ ρ':Nat→Option DV} (h:∀ t v,t∈o.looksAt ops→ρ t=some v→ρ' t=some v) {want:Bool} (hw:Z1n ops ρ o=some want):Z1n ops ρ' o=some want:=by
 unfold Z1n at hw ⊢
 cases hg:o.guard with
 | none=>rw [hg] at hw;exact hw
 | some g =>
  obtain ⟨j,wt⟩:=g
  rw [hg] at hw
  simp only at hw ⊢
  cases hd:(ops[j]?).bind (·.dst) with
  | none=>rw [hd] at hw;cases hw
  | some t =>
   rw [hd] at hw
   simp only at hw ⊢
   cases hr:ρ t with
   | none=>rw [hr] at hw;cases hw
   | some d =>
    rw [hr] at hw
    rw [h t d (List.mem_append_right _ (by rw [hg];simp [hd])) hr]
    exact hw
theorem Z3U {ρ ρ':Nat→Option DV}:∀ {xs:List Operand} {ds:List DV},(∀ x∈xs,∀ dd,ZT ρ x=some dd→ZT ρ' x=some dd)→Z1j ρ xs=some ds→Z1j ρ' xs=some ds
 | [],_,_,h=>h
 | x::xs,ds,hv,h=>by
  simp only [Z1j] at h ⊢
  obtain ⟨v,h1,h⟩:=Z0 h
  obtain ⟨vs,h2,h⟩:=Z0 h
  rw [hv x (by simp) v h1,Option.bind_some,Z3U (fun y hy=>hv y (by simp [hy])) h2]
  exact h
theorem Zc6 {ρ ρ':Nat→Option DV} {c:Call} {tgt:DV×List DV} (hv:∀ x∈c.operands,∀ dd,ZT ρ x=some dd→ZT ρ' x=some dd) (h:target E ρ c=some tgt):target E ρ' c=some tgt:=by
 have hargs:∀ x∈c.args.toList,x∈c.operands:=fun x hx=>by
  unfold Call.operands
  split<;>simp_all
 unfold target at h ⊢
 split at h
 ·rename_i f hc
  obtain ⟨v,h1,h⟩:=Z0 h
  have hf:f∈c.operands:=by unfold Call.operands;rw [hc];simp
  rw [hv f hf v h1]
  simp only [Option.bind_some]
  split at h
  ·obtain ⟨as,h2,h⟩:=Z0 h
   rw [Z3U (fun x hx=>hv x (hargs x hx)) h2];exact h
  ·obtain ⟨as,h2,h⟩:=Z0 h
   rw [Z3U (fun x hx=>hv x (hargs x hx)) h2];exact h
  ·cases h
 ·rename_i rv mm hc
  obtain ⟨v,h1,h⟩:=Z0 h
  have hf:rv∈c.operands:=by unfold Call.operands;rw [hc];simp
  rw [hv rv hf v h1]
  simp only [Option.bind_some]
  split at h
  ·obtain ⟨ti,h2,h⟩:=Z0 h
   obtain ⟨g,h3,h⟩:=Z0 h
   obtain ⟨as,h4,h⟩:=Z0 h
   rw [h2,Option.bind_some,h3,Option.bind_some,Z3U (fun x hx=>hv x (hargs x hx)) h4];exact h
  ·cases h
 ·cases h
theorem Zeq {ρ:Nat→Option DV} {op:Op} {x:Operand} (hx:x∈op.operands) {d:DV} (hd:ZT ρ x=some d) {id:Nat} (hid:id∈Zy d):id∈touch ρ op:=by
 unfold touch
 rw [List.mem_flatMap]
 exact ⟨x,by simpa using hx,by rw [hd];exact hid⟩
theorem Zga (hE:∀ t ti,E.ty t=some ti→ZN P t ti) (hp:Z2O P call) (hH:YY P E callH) (hY:Z18 P E callY) {ds:List (Nat×Yv)} {nx:Nat} (hs:Z2P E call callH callY V nt ops b m ops.size nx ds) {L L':Nat→Bool} {k:Nat} (hk2:k<ops.size) (hle:b+ops.size≤m.next)
  (hk:L k=false) (hL':∀ j,L' j=if j=k then true else L j) {o:Oper} (ho:ops[k]? = some o) (hready:∀ e∈o.after,Region.binds .any e=true→L e.on=true) {β0:Bi} {Gz:Gh} {hz:Nat→Option Z8}
  (hst:DS E w0 G0 outer V nt own ops b nx m ds L β0 Gz hz a w β G) {K:Act→World→Prop} {Q:Exit→Act→World→Prop} (hK:∀ a' w' β' G',DS E w0 G0 outer V nt own ops b nx m ds L' β0 Gz hz a' w' β' G'→K a' w'):wpOpIn (fw ro) n P ops Q k K a w:=by
 obtain ⟨d,tl,o',nx1,nx2,h1,h2,h3,h4,h5⟩:=ZbY hk hL' hs hst.down hk2
 have heo:o'=o:=by have:=h2.op;rw [ho] at this;cases this;rfl
 subst heo
 obtain ⟨hnx,hcalls⟩:=ZaI hs
 have hanc_all:∀ d',(k,d')∈ds→∀ i,Nat.testBit d'.anc i=true→L i=true:=fun d' hd' i hi=>by
  obtain ⟨tl',o2,_,_,q1,q2⟩:=ZdK hs k d' hd'
  have:o2=o':=by have:=q1.op;rw [ho] at this;cases this;rfl
  subst this
  rw [q1.anc] at hi
  exact ZeD hst.down q2 hready i hi
 obtain ⟨v1,v2⟩:=h3 (hanc_all d h1)
 have hdown:Zex L' ds:=fun j dj hj hlj i hi=>by
  rw [hL']
  by_cases e:i=k
  ·rw [if_pos e]
  ·rw [if_neg e]
   by_cases e2:j=k
   ·subst e2;exact hanc_all dj hj i hi
   ·rw [hL',if_neg e2] at hlj
    exact hst.down j dj hj hlj i hi
 have heq:∀ id,hL L' m.objs.get ds id=ZA (hL L m.objs.get ds) d.out.upd id:=fun id=>h5 id
 have hnext:∀ (v:Value) (w':World) (β':Bi) (G':Gh),(∀ dd,d.out.val=some dd→Rep β' G' dd v)→Ext β G β' G'→HR E w0 G0 (YA own outer) w' β' G' (ZA (hL L m.objs.get ds) d.out.upd) →
   (∀ id,id<b→YZ β β' (hL L m.objs.get ds) (hL L' m.objs.get ds) id)→(∀ id,nx≤id→ZJ β' (hL L' m.objs.get ds) id)→(∀ j,j<ops.size→j≠k→ZJ β (hL L m.objs.get ds) (b+j)→ZJ β' (hL L' m.objs.get ds) (b+j)) →
   (∀ j dj lo hi,(j,dj)∈ds→dj.new=some (lo,hi)→L' j=false→∀ id,lo≤id→id<hi→ZJ β' (hL L' m.objs.get ds) id) →
   DS E w0 G0 outer V nt own ops b nx m ds L' β0 Gz hz (a.put o'.dst v) w' β' G':=fun v w' β' G' hv hx hh hkp hf1 hf2 hf3=>by
  obtain ⟨s1,s2⟩:=ZbF (a:=a) o'.dst v
  refine ⟨Zdj hx hst.sz hst.fr hv fun t dd ht => ?_,hst.dom,s1.trans hst.sz,hh.eq heq,hf1,⟨s2.trans hst.df.1,hst.df.2⟩,fun j hjs hlj => ?_,hf3,hdown,hst.go.trans ⟨hx,hkp⟩⟩
  ·rw [h4,h2.dst] at ht
   by_cases e:o'.dst=some t
   ·rw [if_pos e] at ht
    exact .inl ⟨e,h2.fits t e,ht⟩
   ·rw [if_neg e] at ht
    exact .inr ⟨fun q=>e q.1,ht⟩
  ·rw [hL'] at hlj
   by_cases e:j=k
   ·rw [if_pos e] at hlj;cases hlj
   ·rw [if_neg e] at hlj
    exact hf2 j hjs e (hst.un j hjs hlj)
 have hsimple:d.new=none→∀ (v:Value) (w':World) (β':Bi) (G':Gh),(∀ dd,d.out.val=some dd→Rep β' G' dd v)→Ext β G β' G'→HR E w0 G0 (YA own outer) w' β' G' (ZA (hL L m.objs.get ds) d.out.upd)→Z2M β β' (hL L m.objs.get ds) (ZA (hL L m.objs.get ds) d.out.upd) (b+k) →
   DS E w0 G0 outer V nt own ops b nx m ds L' β0 Gz hz (a.put o'.dst v) w' β' G':=fun hdn v w' β' G' hv hx hh hkp=>by
  have hfr:∀ id,id≠b+k→YZ β β' (hL L m.objs.get ds) (hL L' m.objs.get ds) id:=fun id hid hf=>by
   obtain ⟨q1,q2,q3⟩:=hkp id hid hf
   exact ⟨by rw [heq];exact q1,q2,q3⟩
  refine hnext v w' β' G' hv hx hh (fun id hid=>hfr id (by omega)) (fun id hid=>(hfr id (by omega)).fresh (hst.fresh id hid)) (fun j hjs hne hf=>(hfr _ (by omega)).fresh hf) fun j dj lo hi hj hn hlj id hl1 hl2 => ?_
  have hjk:j≠k:=fun e=>by subst e;rw [hL',if_pos rfl] at hlj;cases hlj
  rw [hL',if_neg hjk] at hlj
  have:=(hcalls j dj lo hi hj hn).1
  exact (hfr id (by omega)).fresh (hst.unc j dj lo hi hj hn hlj id hl1 hl2)
 unfold wpOpIn
 rw [ho]
 simp only
 rcases h2.run with ⟨r1,r2,r3,r4,_⟩|⟨r1,_,r3,r4,_⟩|⟨r1,r4,cl,tgt,r5,r6,r7⟩
 ·rw [Z2G hst.fr (Z4P v1 r1)]
  simp only [if_true]
  have hmono:=(Zf7 (ρ':=Z1A L (ZV V m.base m.loc) ds) (h':=hL L m.objs.get ds) (fun x hx dd hd=>⟨Z9z v1 hx hd,fun id hid ob hob=>v2 id ob (by rw [r3];exact Zeq hx hd hid) hob⟩) r2).1
  exact Z7d hE hp hst.fr hst.hr (hst.un k hk2 hk) hmono K Q fun v w' β' G' hv hx hh hkp=>hK _ _ _ _ (hsimple r4 v w' β' G' hv hx hh hkp)
 ·rw [Z2G hst.fr (Z4P v1 r1)]
  simp only [Bool.false_eq_true,if_false]
  refine ⟨fun _ _=>trivial,hK _ _ β G (hsimple r4 undef w β G (fun dd hdd => ?_) (Ext.refl _ _) ?_ ?_)⟩
  ·rw [r3] at hdd;cases hdd;exact Z52
  ·rw [r3];exact hst.hr
  ·rw [r3];exact Z2M.refl _ _ _
 ·rw [Z2G hst.fr (Z4P v1 r1)]
  simp only [if_true]
  obtain ⟨c1,c2,c3⟩:=hcalls k d nx1 nx2 h1 r4
  have hop:=Z3e r5
  have htgt:target E (Z1A L (ZV V m.base m.loc) ds) cl=some tgt:=Zc6 (fun x hx dd hd=>Z9z v1 (by rw [hop];exact hx) hd) r6
  have hlow:∀ id,nx1≤id→ZJ β (hL L m.objs.get ds) id:=fun id hid=>by
   rcases Nat.lt_or_ge id nx with q|q
   ·obtain ⟨j,dj,lo',hi',g1,g2,g3,g4,g5⟩:=Z9P hs k d nx1 nx2 h1 r4 id hid q
    refine hst.unc j dj lo' hi' g1 g2 ?_ id g3 g4
    rcases g5 with rfl|g5
    ·exact hk
    ·cases hq:L j with
     | false=>rfl
     | true=>have:=hst.down j dj g1 hq k g5;rw [hk] at this;cases this
   ·exact hst.fresh id q
  refine Z59 hE hH hY hst.fr r5 htgt hst.hr r7 (fun i hi x hx=>v2 i x hi hx) hlow fun v w' β' G' hv hle2 hx hkp hh hff=>hK _ _ β' G' ?_
  have hkp':∀ id,id<nx1→YZ β β' (hL L m.objs.get ds) (hL L' m.objs.get ds) id:=fun id hid hf=>by
   obtain ⟨q1,q2,q3⟩:=hkp id hid hf
   exact ⟨by rw [heq];exact q1,q2,q3⟩
  have hff':∀ id,nx2≤id→ZJ β' (hL L' m.objs.get ds) id:=fun id hid=>by
   have:=hff id hid
   exact ⟨this.blk,this.hdr,by rw [heq];exact this.h⟩
  refine hnext v w' β' G' hv hx hh (fun id hid=>hkp' id (by omega)) (fun id hid=>hff' id (by omega)) (fun j hjs hne hf=>(hkp' _ (by omega)).fresh hf) fun j dj lo hi hj hn hlj id hl1 hl2 => ?_
  have hjk:j≠k:=fun e=>by subst e;rw [hL',if_pos rfl] at hlj;cases hlj
  rw [hL',if_neg hjk] at hlj
  rcases ZdL hs k d nx1 nx2 j dj lo hi h1 r4 hj hn hjk with q|q
  ·rw [hanc_all d h1 j q] at hlj;cases hlj
  ·exact hff' id (by omega)
theorem Z4F {L:Nat→Bool} {nx0:Nat}:∀ {ds:List (Nat×Yv)} {k nx:Nat},Z2P E call callH callY V nt ops b m k nx ds→(∀ j d,(j,d)∈ds→L j=true) →
  (∀ t,Z1A L (ZV V m.base m.loc) ds t=ZV V (YG V nt ds { m with next:=nx0 }).base (YG V nt ds { m with next:=nx0 }).loc t)∧(∀ id,hL L m.objs.get ds id=(YG V nt ds { m with next:=nx0 }).objs.get id)∧(YG V nt ds { m with next:=nx0 }).next=nx0 ∧
   ((∀ t d,m.base.get t=some d→Nat.testBit V t=true)→∀ t d,(YG V nt ds { m with next:=nx0 }).base.get t=some d→Nat.testBit V t=true)
 | [],k,_,_,_=>⟨fun _=>rfl,fun _=>rfl,rfl,fun h=>h⟩
 | (j,d)::ds,k,nx,hs,hl=>by
  obtain ⟨_,_,⟨o,ho⟩,h4⟩:=hs
  obtain ⟨k1,k2,k3,k4⟩:=Z4F (nx0:=nx0) h4 (fun i e hi=>hl i e (by simp [hi]))
  have hlj:=hl j d (by simp)
  simp only [YG]
  obtain ⟨p1,p2⟩:=Z4G V nt ({ YG V nt ds { m with next:=nx0 } with objs:=ZZ (YG V nt ds { m with next:=nx0 }).objs d.out.upd }:Mid) d.dst d.out.val
  refine ⟨fun t => ?_,fun id => ?_,by rw [p2];exact k3,fun hd=>ZdA V nt _ d.dst d.out.val (k4 hd)⟩
  ·rw [Zc0]
   simp only [Z1A,hlj,true_and]
   by_cases e:d.dst=some t
   ·rw [if_pos e,if_pos ⟨e,ho.fits t (by rw [←ho.dst];exact e)⟩]
   ·rw [if_neg e,if_neg (fun q=>e q.1)];exact k1 t
  ·rw [p1,Z2j]
   simp only [hL,hlj,if_true]
   unfold ZA
   cases Zp id d.out.upd with
   | some x=>rfl
   | none=>exact k2 id
theorem DS.full {ds:List (Nat×Yv)} {k nx:Nat} (hs:Z2P E call callH callY V nt ops b m k nx ds) {L:Nat→Bool} (hl:∀ j d,(j,d)∈ds→L j=true) {β0:Bi} {Gz:Gh} {hz:Nat→Option Z8} (hst:DS E w0 G0 outer V nt own ops b nx m ds L β0 Gz hz a w β G) :
  MM E w0 G0 outer V nt own (YG V nt ds { m with next:=nx }) a w β G∧Go2 b β0 Gz β G hz (YG V nt ds { m with next:=nx }).objs.get∧(YG V nt ds { m with next:=nx }).next=nx:=by
 obtain ⟨k1,k2,k3,k4⟩:=Z4F (nx0:=nx) hs hl
 have hf:∀ id,ZJ β (hL L m.objs.get ds) id→ZJ β (YG V nt ds { m with next:=nx }).objs.get id:=fun id h=>⟨h.blk,h.hdr,by rw [←k2];exact h.h⟩
 refine ⟨⟨fun t d ht=>hst.fr t d (by rw [k1];exact ht),k4 hst.dom,hst.sz,hst.hr.eq fun i=>(k2 i).symm,fun id hid=>hf id (hst.fresh id (by rw [←k3];exact hid)),hst.df⟩,⟨hst.go.ext,fun id hid hn => ?_⟩,k3⟩
 obtain ⟨q1,q2,q3⟩:=hst.go.keep id hid hn
 exact ⟨by rw [←k2];exact q1,q2,q3⟩
end
end Go.Ab
namespace Go.Ab
open Go.RowKit
section
variable {P:Program} {E:Env} {w0:World} {G0:Gh} {outer:DD} {own:List Nat} {V nt:Nat} {a:Act} {w:World} {β:Bi} {G:Gh} {ro:Option Nat} {n:Nat} {call:Nat→List DV→Option DV} {callH callY:Yh} {ops:Array Oper} {b:Nat} {m:Mid} {c:Nat}
theorem Z9l {p p':Nat→Bool}:∀ {l:List Nat} {x:Nat},x∈l→p x=true→p' x=false→(∀ y,p' y=true→p y=true)→l.countP p'+1≤l.countP p
 | [],_,h,_,_,_=>by cases h
 | y::l,x,h,h1,h2,h3=>by
  have hle:l.countP p'≤l.countP p:=List.countP_mono_left fun z _ hz=>h3 z hz
  rw [List.countP_cons,List.countP_cons]
  rcases List.mem_cons.1 h with rfl|h
  ·rw [if_pos h1,if_neg (by rw [h2];simp)];omega
  ·have:=Z9l h h1 h2 h3
   by_cases e:p' y=true
   ·rw [if_pos e,if_pos (h3 y e)];omega
   ·rw [if_neg e];split<;>omega
def lst (listed:Array Bool) (j:Nat):Bool:=listed.getD j false
def cnt (N:Nat) (listed:Array Bool):Nat:=(List.range N).countP fun j => !lst listed j
theorem Zak {listed:Array Bool} {i:Nat} (hi:i<listed.size) (j:Nat):lst (listed.setIfInBounds i true) j=if j=i then true else lst listed j:=by
 unfold lst
 by_cases e:j=i
 ·subst e;simp [hi]
 ·have:i≠j:=fun h=>e h.symm
  simp [e,Array.getElem?_setIfInBounds_ne this]
theorem ZfJ {listed:Array Bool} {i:Nat} (hi:i<listed.size) (hl:lst listed i=false):cnt listed.size (listed.setIfInBounds i true)+1≤cnt listed.size listed:=by
 unfold cnt
 refine Z9l (x:=i) (List.mem_range.2 hi) (by simp [hl]) (by simp [Zak hi]) fun y hy => ?_
 rw [Zak hi] at hy
 by_cases e:y=i
 ·rw [if_pos e] at hy;simp at hy
 ·rw [if_neg e] at hy;exact hy
theorem ZeI {N:Nat} {listed:Array Bool} (h:cnt N listed=0):∀ j,j<N→lst listed j=true:=fun j hj=>by
 have:=List.countP_eq_zero.1 h j (List.mem_range.2 hj)
 simpa using this
theorem Z6U {listed:Array Bool} (hsz:listed.size=ops.size) {j:Nat}:j∈Region.ready .any ops listed↔lst listed j=false∧∃ o,ops[j]? = some o∧∀ e∈o.after,Region.binds .any e=true→lst listed e.on=true:=by
 rw [mem_ready]
 constructor
 ·rintro ⟨h1,o,h2,h3⟩
  have hlt:j<listed.size:=by rw [hsz];exact (Array.getElem?_eq_some_iff.1 h2).1
  refine ⟨?_,o,h2,h3⟩
  unfold lst
  simp [hlt] at h1 ⊢;exact h1
 ·rintro ⟨h1,o,h2,h3⟩
  have hlt:j<listed.size:=by rw [hsz];exact (Array.getElem?_eq_some_iff.1 h2).1
  refine ⟨?_,o,h2,h3⟩
  unfold lst at h1
  simp [hlt] at h1 ⊢;exact h1
theorem ZdY (hE:∀ t ti,E.ty t=some ti→ZN P t ti) (hp:Z2O P call) (hH:YY P E callH) (hY:Z18 P E callY) {Q:Exit→Act→World→Prop} {β0:Bi} {Gz:Gh} {hz:Nat→Option Z8} {m:Mid} {ds:List (Nat×Yv)} {nx:Nat} (hs:Z2P E call callH callY V nt ops b m ops.size nx ds) (hle:b+ops.size≤m.next)
  (hq:∀ a' w' β' G',MM E w0 G0 outer V nt own (YG V nt ds { m with next:=nx }) a' w' β' G'→Go2 b β0 Gz β' G' hz (YG V nt ds { m with next:=nx }).objs.get→Q .normal a' w') :
  ∀ (fuel:Nat) (listed:Array Bool) (a:Act) (w:World) (β:Bi) (G:Gh),listed.size=ops.size→cnt ops.size listed≤fuel→DS E w0 G0 outer V nt own ops b nx m ds (lst listed) β0 Gz hz a w β G→wpAnyIn (fw ro) n P .any ops Q fuel listed a w:=by
 intro fuel
 induction fuel with
 | zero =>
  intro listed a w β G hsz hcnt hst
  have hall:=ZeI (Nat.le_zero.1 hcnt)
  have hr:Region.ready .any ops listed=[]:=by
   cases hrr:Region.ready .any ops listed with
   | nil=>rfl
   | cons j l =>
    obtain ⟨h1,o,h2,_⟩:=(Z6U (j:=j) hsz).1 (by rw [hrr];simp)
    rw [hall j (Array.getElem?_eq_some_iff.1 h2).1] at h1;cases h1
  obtain ⟨f1,f2,_⟩:=hst.full hs fun j d hj=>hall j (ZaJ hs j d hj)
  exact ⟨hr,hq a w β G f1 f2⟩
 | succ fuel ihf =>
  intro listed a w β G hsz hcnt hst
  refine ⟨fun hr => ?_,fun i hi => ?_⟩
  ·
   have hall:∀ j,j<ops.size→lst listed j=true:=fun j=>by
    induction j using Nat.strongRecOn with
    | _ j ihj =>
     intro hj
     obtain ⟨d,tl,o,_,_,_,h2,_⟩:=Zfs hs j hj
     cases hlj:lst listed j with
     | true=>rfl
     | false =>
      have:j∈Region.ready .any ops listed:=(Z6U hsz).2 ⟨hlj,o,h2.op,fun e he hb=>ihj e.on (h2.edges e he hb) (by have:=h2.edges e he hb;omega)⟩
      rw [hr] at this;cases this
   obtain ⟨f1,f2,_⟩:=hst.full hs fun j d hj=>hall j (ZaJ hs j d hj)
   exact hq a w β G f1 f2
  ·obtain ⟨hli,o,hoi,hed⟩:=(Z6U hsz).1 hi
   have hilt:=(Array.getElem?_eq_some_iff.1 hoi).1
   have hset:=Zak (listed:=listed) (i:=i) (by omega)
   have hcnt':cnt ops.size (listed.setIfInBounds i true)≤fuel:=by
    have:=ZfJ (listed:=listed) (i:=i) (by omega) hli
    rw [hsz] at this;omega
   exact Zga hE hp hH hY hs hilt hle hli hset hoi hed hst fun a' w' β' G' hst'=>ihf _ a' w' β' G' (by simpa using hsz) hcnt' hst'
theorem Zco (hE:∀ t ti,E.ty t=some ti→ZN P t ti) (hp:Z2O P call) (hH:YY P E callH) (hY:Z18 P E callY) {Q:Exit→Act→World→Prop} {m mf:Mid}
  (hd:Z12 E call callH callY V nt ops b 0 ops.toList m []=some mf) (hle:b+ops.size≤m.next) (hfr:∀ j,j<ops.size→ZJ β m.objs.get (b+j)) (hm:MM E w0 G0 outer V nt own m a w β G)
  (hq:∀ a' w' β' G',m.next≤mf.next→MM E w0 G0 outer V nt own mf a' w' β' G'→Go2 b β G β' G' m.objs.get mf.objs.get→Q .normal a' w') :
  wpAnyIn (fw ro) n P .any ops Q ops.size (Array.replicate ops.size false) a w:=by
 obtain ⟨nx,ds,hs,rfl⟩:=Z3P (m:=m) ops.toList 0 mf m.next [] hd rfl ⟨rfl,rfl⟩ (Nat.zero_le _)
 have hno:∀ j,lst (Array.replicate ops.size false) j=false:=fun j=>by
  unfold lst
  by_cases e:j<ops.size
  ·simp [e]
  ·simp [e]
 obtain ⟨hnx,hcalls⟩:=ZaI hs
 have e1:∀ (l:List (Nat×Yv)) t,Z1A (lst (Array.replicate ops.size false)) (ZV V m.base m.loc) l t=ZV V m.base m.loc t:=fun l t=>by
  induction l with
  | nil=>rfl
  | cons p l ihl =>
   obtain ⟨i,e⟩:=p
   simp only [Z1A,hno i,Bool.false_eq_true,false_and,if_false]
   exact ihl
 have e2:∀ (l:List (Nat×Yv)) id,hL (lst (Array.replicate ops.size false)) m.objs.get l id=m.objs.get id:=fun l id=>by
  induction l with
  | nil=>rfl
  | cons p l ihl =>
   obtain ⟨i,e⟩:=p
   simp only [hL,hno i,Bool.false_eq_true,if_false]
   exact ihl
 have hF:∀ id,ZJ β m.objs.get id→ZJ β (hL (lst (Array.replicate ops.size false)) m.objs.get ds) id:=fun id h=>⟨h.blk,h.hdr,by rw [e2];exact h.h⟩
 have hnext:(YG V nt ds { m with next:=nx }).next=nx:=(Z4F (L:=fun _=>true) (nx0:=nx) hs fun _ _ _=>rfl).2.2.1
 refine ZdY hE hp hH hY hs hle (fun a' w' β' G' h1 h2=>hq a' w' β' G' (by rw [hnext];exact hnx) h1 h2) ops.size _ a w β G (by simp) (by unfold cnt;exact Nat.le_trans (List.countP_le_length) (by simp))
  ⟨fun t d ht=>hm.fr t d (by rw [←e1];exact ht),hm.dom,hm.sz,hm.hr.eq (e2 ds),fun id hid=>hF id (hm.fresh id (by omega)),hm.df,fun j hj _=>hF _ (hfr j hj),(fun j d lo hi hj hn _ id h1 _=>hF id (hm.fresh id (by have:=(hcalls j d lo hi hj hn).1;omega))),
   (fun j d hj hlj=>by rw [hno j] at hlj;cases hlj),⟨Ext.refl _ _,fun id hid hn=>⟨by rw [e2];exact hn,rfl,fun _=>rfl⟩⟩⟩
end
end Go.Ab
namespace Go.Ab
open Go.RowKit
def ZgW:Ex→Exit
 | .normal => .normal
 | .exit id => .exit id
 | .ret => .ret
 | .busy => .outgrown
section
variable {P:Program} {E:Env} {w0:World} {G0:Gh} {outer:DD} {own:List Nat} {D:DD} {V nt:Nat} {a:Act} {w:World} {β:Bi} {G:Gh} {ro:Option Nat} {n:Nat} {h:Nat→Option Z8}
theorem Z56 {F:Fence} {c:Code} {Q:Exit→Act→World→Prop} (h:c.wpIn F n P (fun e a w=>match e with | .goto _=>False|e=>Q e a w) a w):(Code.scope c).wpIn F n P Q a w:=by
 intro b k cs hro hb hr
 have h0:(lone (b.atR a (.code (.scope c)::k)) cs w).fenced P F:=fenced_calm hb hr rfl
 have s1:step P (lone (b.atR a (.code (.scope c)::k)) cs w) = .next (lone (b.atR a (.code c :: .inScope c::k)) cs w):=step_lone_go (by simp [stepG,stepG.exec,Frame.atR])
 obtain ⟨e,a₁,w₁,hq,harr⟩:=h b (.inScope c::k) cs hro hb hr
 cases e with
 | normal=>exact ⟨.normal,a₁,w₁,hq,.head h0 s1 (StepsIn.trans harr (.one (fenced_calm hb hr rfl) (step_lone_go (by simp [stepG,stepG.exec,Frame.atR]))))⟩
 | exit id =>
  have hx:exitTo id (.inScope c::k)=exitTo id k:=by simp [exitTo]
  exact ⟨.exit id,a₁,w₁,hq,fun k' hk => .head h0 s1 (harr.1 k' (by rw [hx];exact hk)),
   fun hr' hk=>let ⟨k₁,h1,h2⟩:=harr.2 hr' (by rw [hx];exact hk);⟨k₁,h1,.head h0 s1 h2⟩⟩
 | goto l=>exact hq.elim
 | ret=>exact ⟨_,a₁,w₁,hq,.of_steps (.one h0 s1) harr⟩
 | panic ch=>exact ⟨_,a₁,w₁,hq,.of_steps (.one h0 s1) harr⟩
 | outgrown=>exact ⟨_,a₁,w₁,hq,.of_steps (.one h0 s1) harr⟩
theorem SS.mid {s:St} (hm:SS E w0 G0 outer V nt own s a w β G) (k:Nat):MM E w0 G0 outer V nt own ⟨s.base,[],s.objs,s.next+k⟩ a w β G:=by
 refine ⟨fun t d ht => ?_,hm.dom,hm.sz,hm.hr,fun id hid=>hm.fresh id (by have:s.next+k≤id:=hid;omega),hm.df⟩
 unfold ZV at ht
 cases hv:Nat.testBit V t with
 | true=>rw [hv] at ht;exact hm.fr t d ht
 | false=>rw [hv] at ht;cases ht
theorem MM.st {m:Mid} (hm:MM E w0 G0 outer V nt own m a w β G):SS E w0 G0 outer V nt own ⟨m.base,m.objs,m.next⟩ a w β G:=by
 refine ⟨fun t d ht=>hm.fr t d ?_,hm.dom,hm.sz,hm.hr,hm.fresh,hm.df⟩
 unfold ZV
 rw [hm.dom t d ht];exact ht
theorem SS.drew {s:St} (hm:SS E w0 G0 outer V nt own s a w β G) (k:Nat):SS E w0 G0 outer V nt own s a { w with drawn:=k } β G :=
 ⟨hm.fr,hm.dom,hm.sz,hm.hr.drew k,hm.fresh,hm.df⟩
theorem HR.mark (hh:HR E w0 G0 D w β G h):HR E w0 G0 (YA [w.heap.size] D) (w.alloc (.deferred (some []))) β G h:=by
 have hnew:∀ b,b<w.heap.size→(w.alloc (.deferred (some []))).heap[b]? = w.heap[b]? := fun b hb=>Below.heap_alloc w _ b hb
 refine ⟨hh.below.alloc hh.below.size _,hh.g0,fun b o v hg => ?_,fun i o hi => ?_,fun i o b hi hb => ?_,hh.inj,fun d x hd => ?_⟩
 ·have hc:=hh.agree b o v hg
  have hlt:=block_lt_of_cell hc
  exact (World.cell?_of_block (w:=w) (w':=w.alloc (.deferred (some []))) (a:=⟨b,o,none⟩) (hnew b hlt)).trans hc
 ·exact Z2m.keep (Ext.refl _ _) (fun _=>rfl) (fun b hb=>⟨hnew b (hh.own i o b hi hb).2.1,fun _=>rfl⟩) (hh.obj i o hi)
 ·obtain ⟨k1,k2,k3⟩:=hh.own i o b hi hb
  refine ⟨k1,by simp;omega,?_⟩
  unfold YA
  rw [if_neg (by simp;omega)]
  exact k3
 ·unfold YA at hd
  by_cases e:d=w.heap.size
  ·subst e
   rw [if_pos (by simp)] at hd
   cases hd
   exact ⟨hh.below.size,heap_alloc_new w _,fun o=>glt hh (Nat.le_refl _) o⟩
  ·rw [if_neg (by simpa using e)] at hd
   obtain ⟨k1,k2,k3⟩:=hh.marks d x hd
   exact ⟨k1,(hnew d (Array.getElem?_eq_some_iff.1 k2).1).trans k2,k3⟩
theorem HR.drop (hh:HR E w0 G0 D w β G h) {id b:Nat} {o:Z8} {ob ob':Obj} (ho:h id=some o) (hown:Yl β id o b) (hb:w.heap[b]? = some ob) (hnc:∀ c t f,ob ≠ .cells c t f) :
  HR E w0 G0 D (w.putObj b ob') β G (fun i=>if i=id then none else h i):=by
 obtain ⟨k1,_,k3⟩:=hh.own id o b ho hown
 have hget:∀ i x,(if i=id then none else h i)=some x→i≠id∧h i=some x:=fun i x hi=>by
  by_cases e:i=id
  ·rw [if_pos e] at hi;cases hi
  ·rw [if_neg e] at hi;exact ⟨e,hi⟩
 have hother:∀ i x c,i≠id→h i=some x→Yl β i x c→c≠b:=fun i x c hi hx hc e=>hi (hh.inj i id x o b hx ho (e ▸ hc) hown)
 refine ⟨hh.below.trans ⟨rfl,rfl,rfl,by simp,fun k hk=>World.putObj_heap_other (by omega)⟩,hh.g0,fun c off v hg => ?_,fun i x hi => ?_,fun i x c hi hc => ?_,fun i j x y c hi hj hc hc' => ?_,fun d x hd => ?_⟩
 ·have hc:=hh.agree c off v hg
  by_cases e:c=b
  ·subst e
   unfold World.cell? at hc
   rw [hb] at hc
   cases ob<;>first|cases hc|exact absurd rfl (hnc _ _ _)
  ·exact (World.cell?_of_block (w:=w) (w':=w.putObj b ob') (a:=⟨c,off,none⟩) (World.putObj_heap_other e)).trans hc
 ·obtain ⟨hne,hx⟩:=hget i x hi
  exact Z2m.keep (Ext.refl _ _) (fun _=>rfl) (fun c hc=>⟨World.putObj_heap_other (hother i x c hne hx hc),fun _=>rfl⟩) (hh.obj i x hx)
 ·obtain ⟨hne,hx⟩:=hget i x hi
  obtain ⟨m1,m2,m3⟩:=hh.own i x c hx hc
  exact ⟨m1,by simpa using m2,m3⟩
 ·exact hh.inj i j x y c (hget i x hi).2 (hget j y hj).2 hc hc'
 ·obtain ⟨m1,m2,m3⟩:=hh.marks d x hd
  exact ⟨m1,(World.putObj_heap_other (fun e=>by rw [e,k3] at hd;cases hd)).trans m2,m3⟩
def Zev (E:Env) (w0:World) (G0:Gh) (outer:DD) (V nt:Nat) (s:St) (β:Bi) (G:Gh) (ex:Ex) (s':St) (Q:Exit→Act→World→Prop):Prop :=
 ∀ own' a' w' β' G',s.next≤s'.next→SS E w0 G0 outer V nt own' s' a' w' β' G'→Go2 s.next β G β' G' s.objs.get s'.objs.get→Q (ZgW ex) a' w'
def Z9g (rnd ro:Option Nat) (β:Bi):Prop:=match rnd with
 | none=>ro=none
 | some l=>∃ b,ro=some b∧β.blk l=some b
theorem Z9g.mono {rnd ro:Option Nat} {β':Bi} {G G':Gh} (hx:Ext β G β' G') (h:Z9g rnd ro β):Z9g rnd ro β':=by
 cases rnd with
 | none=>exact h
 | some l=>obtain ⟨b,h1,h2⟩:=h;exact ⟨b,h1,hx.blk _ _ h2⟩
theorem ZeB {n0:Nat} {β β1 β':Bi} {G G1:Gh} {h h1 h':Nat→Option Z8} (hf:∀ id,n0≤id→ZJ β h id) (hg:Go2 n0 β G β1 G1 h h1) (ha:Z4d n0 β1 β') (hn:∀ i,i<n0→h1 i=none→h' i=none):Go2 n0 β G β' G1 h h':=by
 have hlt:∀ id b,β.blk id=some b→id<n0:=fun id b hb=>by
  rcases Nat.lt_or_ge id n0 with h|h
  ·exact h
  ·rw [(hf id h).blk] at hb;cases hb
 have hlt2:∀ id u v,β.hdr id u=some v→id<n0:=fun id u v hb=>by
  rcases Nat.lt_or_ge id n0 with h|h
  ·exact h
  ·rw [(hf id h).hdr] at hb;cases hb
 refine ⟨⟨hg.ext.g,fun id b hb => ?_,fun id u v hb => ?_⟩,fun id hid hfr => ?_⟩
 ·rw [ha.blk id (hlt id b hb)];exact hg.ext.blk id b hb
 ·rw [ha.hdr id (hlt2 id u v hb)];exact hg.ext.hdr id u v hb
 ·obtain ⟨q1,q2,q3⟩:=hg.keep id hid hfr
  exact ⟨hn id hid q1,(ha.blk id hid).trans q2,fun u=>(ha.hdr id hid u).trans (q3 u)⟩
theorem Z8l {c:Code} {hint:Z3I} {step:St→Option (Ex×St)} {rnd:Option Nat} {s0:St} {β0:Bi} {Gx:Gh} (hf0:∀ id,s0.next≤id→ZJ β0 s0.objs.get id)
  (hstep:∀ s ex s',step s=some (ex,s')→∀ own a w β G Q,Z9g rnd ro β→SS E w0 G0 outer V nt own s a w β G→Zev E w0 G0 outer V nt s β G ex s' Q→c.wpIn (fw ro) n P Q a w) {ex:Ex} {s':St} {Q:Exit→Act→World→Prop}
  (hr0:Z9g rnd ro β0) (hq:Zev E w0 G0 outer V nt s0 β0 Gx ex s' Q) :
  ∀ (m:Nat) (s:St) (own:List Nat) (a:Act) (w:World) (β:Bi) (G:Gh),iter (Zbz E hint s0.next) step m s=some (ex,s')→SS E w0 G0 outer V nt own s a w β G→Go2 s0.next β0 Gx β G s0.objs.get s.objs.get→Code.roundsIn (fw ro) n P c Q m a w
 | 0,s,own,a,w,β,G,h,_,_=>by cases h
 | m+1,s,own,a,w,β,G,h,hm,hg=>by
  simp only [iter] at h
  obtain ⟨s1,hn,h⟩:=Z0 h
  obtain ⟨⟨ex1,s2⟩,hs,h⟩:=Z0 h
  obtain ⟨β1,hm1,hag,hnone,hle⟩:=ZcB hn hm
  have hg1:=ZeB hf0 hg hag hnone
  rw [roundsIn_succ]
  refine hstep s1 ex1 s2 hs own a w β1 G _ (hr0.mono hg1.ext) hm1 fun own' a' w' β' G' hl hm2 hg2 => ?_
  have hg3:=hg1.trans (hg2.less hle)
  cases ex1 with
  | normal=>exact Z8l hf0 hstep hr0 hq m s2 own' a' w' β' G' h hm2 hg3
  | _ =>
   simp only [Option.some.injEq,Prod.mk.injEq] at h
   obtain ⟨rfl,rfl⟩:=h
   exact hq own' a' w' β' G' (by omega) hm2 hg3
theorem Zcs {hints:List Z3I} {bid:Nat} {s0 s:St} (h:(match (hints.find? fun h=>Nat.beq h.bid bid:Option Z3I) with
   | some hint=>(Yd E s0.next 0 hint.accs (s0.base,s0.objs)).bind fun r=>some (St.mk r.1 r.2 (s0.next+hint.accs.length))
   | none=>some s0)=some s) (hm:SS E w0 G0 outer V nt own s0 a w β G):∃ β',SS E w0 G0 outer V nt own s a w β' G∧Go2 s0.next β G β' G s0.objs.get s.objs.get∧s0.next≤s.next:=by
 split at h
 ·rename_i hint _
  obtain ⟨r,hr,h⟩:=Z0 h
  cases h
  obtain ⟨β',k1,k2,k3,k4,k5,k6,k7⟩:=Z1X a.tmps V hint.accs 0 s0.base s0.objs β r hr hm.hr hm.fr hm.dom (fun i hi _=>hm.fresh i hi) (fun i hi=>(hm.fresh i (by omega)).h)
  refine ⟨β',⟨k4,k5,hm.sz,k3,fun i hi=>k6 i (by simpa using hi),hm.df⟩,⟨k1,fun id hid hf=>⟨k7 id hid hf,k2.blk id hid,fun u=>k2.hdr id hid u⟩⟩,by show s0.next≤s0.next+hint.accs.length;omega⟩
 ·cases h
  exact ⟨β,hm,Go2.refl _ _ _ _,Nat.le_refl _⟩
theorem Zb8 {s:St} {fid:Nat} {F:FI} (hF:E.fn fid=some F) (hm:SS E w0 G0 outer F.vmask F.nt own s a w β G) (hro:∀ b,ro=some b→∃ r,w.heap[b]? = some (.loop r)) (fn:FuncId) (ps:Array Tmp) (assign body:Code) (bid:Nat) :
  ∃ l mark w1 own1 β2,(Instr.enterLoop fn a.tmps ps assign body ro).run P w = .ok (l,mark) w1∧(mark++a.defers=own1.map Z8t∧Z9X own1 outer)∧Ext β G β2 G∧β2.blk s.next=some l ∧
   HR E w0 G0 (YA own1 outer) w1 β2 G (ZA s.objs.get [(s.next,some (.loop fid s.base ps.toList assign body bid .normal))])∧Z2M β β2 s.objs.get (ZA s.objs.get [(s.next,some (.loop fid s.base ps.toList assign body bid .normal))]) s.next:=by
 have hfr:=hm.fresh s.next (Nat.le_refl _)
 have hob:∀ (w':World) (D:DD) (df:Nat),HR E w0 G0 D w' β G s.objs.get→∀ β',Ext β G β' G→β'.blk s.next=some w'.heap.size →
   Z2m E w0.heap.size (w'.alloc (.loop { state := .ready,pending:=none,fn,tmps:=a.tmps,params:=ps,assign,body,defers:=df })) β' G s.next (.loop fid s.base ps.toList assign body bid .normal):=fun w' D df _ β' hx hb =>
  ⟨_,a.tmps,df,fn,F,hb,by rw [heap_alloc_new];simp [YF],hm.fr.mono hx,hF,hm.sz,hm.dom⟩
 cases ro with
 | none =>
  have hh1:=hm.hr.mark
  obtain ⟨β2,h1,h2,h3,h4⟩:=hh1.lay hfr (.loop { state := .ready,pending:=none,fn,tmps:=a.tmps,params:=ps,assign,body,defers:=w.heap.size }) (.loop fid s.base ps.toList assign body bid .normal) (by simp) (hob _ _ _ hh1)
  refine ⟨w.heap.size+1,[Z8t w.heap.size],_,w.heap.size::own,β2,run_enterLoop_outer fn a.tmps ps assign body,⟨by simp [hm.df.1],List.nodup_cons.2 ⟨(Z3W (hm.hr.dfree (Nat.le_refl _))).1,hm.df.2.1⟩,fun b hb => ?_⟩,h1,by simpa using h2,by rw [Z5f];exact h3,h4⟩
  rcases List.mem_cons.1 hb with rfl|hb
  ·exact (Z3W (hm.hr.dfree (Nat.le_refl _))).2
  ·exact hm.df.2.2 b hb
 | some b =>
  obtain ⟨r,hr⟩:=hro b rfl
  obtain ⟨β2,h1,h2,h3,h4⟩:=hm.hr.lay hfr (.loop { state := .ready,pending:=none,fn,tmps:=a.tmps,params:=ps,assign,body,defers:=r.defers }) (.loop fid s.base ps.toList assign body bid .normal) (by simp) (hob _ _ _ hm.hr)
  refine ⟨w.heap.size,[],_,own,β2,?_,⟨by simp [hm.df.1],hm.df.2⟩,h1,h2,h3,h4⟩
  unfold Instr.enterLoop
  simp only [Sem.run_bind,run_getLoop hr,run_newObj_alloc,Result.andThen,Sem.run_pure]
theorem ZdM {E:Env} {w0:World} {G0:Gh} {outer:DD} {own:List Nat} {V nt m:Nat} {s:St} {a:Act} {w:World} {β:Bi} {G:Gh} (h:SS E w0 G0 outer V nt own s a w β G):SS E w0 G0 outer V nt own (s.keep m) a w β G :=
 ⟨fun t d ht=>h.fr t d (Tr.filt_sub ht),fun t d ht=>h.dom t d (Tr.filt_sub ht),h.sz,h.hr,h.fresh,h.df⟩
theorem Z8m (F:FI) (id:Nat) (s:St):(s.keepX F id).objs=s.objs∧(s.keepX F id).next=s.next:=by
 unfold St.keepX
 cases F.xm.find? fun p=>Nat.beq p.1 id<;>exact ⟨rfl,rfl⟩
theorem Zfv {E:Env} {w0:World} {G0:Gh} {outer:DD} {own:List Nat} {V nt:Nat} {F:FI} {id:Nat} {s:St} {a:Act} {w:World} {β:Bi} {G:Gh} (h:SS E w0 G0 outer V nt own s a w β G):SS E w0 G0 outer V nt own (s.keepX F id) a w β G:=by
 unfold St.keepX
 cases F.xm.find? fun p=>Nat.beq p.1 id with
 | none=>exact h
 | some p=>exact ZdM h
theorem Z6F (hE:∀ t ti,E.ty t=some ti→ZN P t ti) (hmix:P.follows .mixedOrders=true) {call:Nat→List DV→Option DV} (hp:Z2O P call) {callH callY:Yh} (hH:YY P E callH) (hY:Z18 P E callY)
  {rnd:Option Nat} {fid:Nat} {F:FI} (hF:E.fn fid=some F) (fuel:Nat):∀ (c:Code) (bid:Nat) (s:St) (ex:Ex) (s':St),evC E rnd fid F call callH callY fuel bid c s=some (ex,s') →
   ∀ (own:List Nat) (a:Act) (w:World) (β:Bi) (G:Gh) (Q:Exit→Act→World→Prop),Z9g rnd ro β→SS E w0 G0 outer F.vmask F.nt own s a w β G→Zev E w0 G0 outer F.vmask F.nt s β G ex s' Q→c.wpIn (fw ro) n P Q a w:=by
 intro c
 induction c with
 | skip =>
  intro bid s ex s' h own a w β G Q _ hm hq
  simp only [evC,Option.some.injEq,Prod.mk.injEq] at h
  obtain ⟨rfl,rfl⟩:=h
  exact wpIn_skip (hq own a w β G (Nat.le_refl _) hm (Go2.refl _ _ _ _))
 | label l =>
  intro bid s ex s' h own a w β G Q _ hm hq
  simp only [evC,Option.some.injEq,Prod.mk.injEq] at h
  obtain ⟨rfl,rfl⟩:=h
  exact wpIn_label (hq own a w β G (Nat.le_refl _) hm (Go2.refl _ _ _ _))
 | ret =>
  intro bid s ex s' h own a w β G Q _ hm hq
  simp only [evC,Option.some.injEq,Prod.mk.injEq] at h
  obtain ⟨rfl,rfl⟩:=h
  exact wpIn_ret (hq own a w β G (Nat.le_refl _) (ZdM hm) (Go2.refl _ _ _ _))
 | exit id =>
  intro bid s ex s' h own a w β G Q _ hm hq
  simp only [evC,Option.some.injEq,Prod.mk.injEq] at h
  obtain ⟨rfl,rfl⟩:=h
  refine wpIn_exit (hq own a w β G ?_ ?_ ?_)
  ·rw [(Z8m F id s).2];exact Nat.le_refl _
  ·exact Zfv hm
  ·rw [(Z8m F id s).1];exact Go2.refl _ _ _ _
 | scope c ih =>
  intro bid s ex s' h own a w β G Q hr hm hq
  simp only [evC] at h
  refine Z56 (ih bid s ex s' h own a w β G _ hr hm fun own' a' w' β' G' h1 h2 h3 => ?_)
  have:=hq own' a' w' β' G' h1 h2 h3
  cases ex<;>exact this
 | block id c ih =>
  intro bid s ex s' h own a w β G Q hr hm hq
  simp only [evC] at h
  obtain ⟨⟨ex1,s1⟩,h1,h⟩:=Z0 h
  refine wpIn_block (ih id s ex1 s1 h1 own a w β G _ hr hm fun own' a' w' β' G' k1 k2 k3 => ?_)
  cases ex1 with
  | exit i =>
   simp only [ZgW,Exit.inBlock]
   simp only [Tr.beq_dec] at h
   by_cases e:i=id
   ·simp only [e,decide_true,cond_true,Option.some.injEq,Prod.mk.injEq] at h
    obtain ⟨rfl,rfl⟩:=h
    rw [if_pos e]
    exact hq own' a' w' β' G' k1 k2 k3
   ·simp only [e,decide_false,cond_false,Option.some.injEq,Prod.mk.injEq] at h
    obtain ⟨rfl,rfl⟩:=h
    rw [if_neg e]
    exact hq own' a' w' β' G' k1 k2 k3
  | _ =>
   simp only [Option.some.injEq,Prod.mk.injEq] at h
   obtain ⟨rfl,rfl⟩:=h
   exact hq own' a' w' β' G' k1 k2 k3
 | seq x y ihx ihy =>
  intro bid s ex s' h own a w β G Q hr hm hq
  simp only [evC] at h
  obtain ⟨⟨ex1,s1⟩,h1,h⟩:=Z0 h
  refine wpIn_seq (ihx bid s ex1 s1 h1 own a w β G _ hr hm fun own' a' w' β' G' k1 k2 k3 => ?_)
  cases ex1 with
  | normal =>
   refine ihy bid s1 ex s' h own' a' w' β' G' Q (hr.mono k3.ext) k2 fun own'' a'' w'' β'' G'' m1 m2 m3 => ?_
   exact hq own'' a'' w'' β'' G'' (Nat.le_trans k1 m1) m2 (k3.trans (m3.less k1))
  | _ =>
   simp only [Option.some.injEq,Prod.mk.injEq] at h
   obtain ⟨rfl,rfl⟩:=h
   exact hq own' a' w' β' G' k1 k2 k3
 | cond x c d ihc ihd =>
  intro bid s ex s' h own a w β G Q hr hm hq
  simp only [evC] at h
  split at h
  ·rename_i t ht
   have hv:=ZK.1 (Zq hm.fr ht)
   cases t with
   | true=>exact wpIn_cond hv (ihc bid s ex s' h own a w β G Q hr hm hq)
   | false=>exact wpIn_cond hv (ihd bid s ex s' h own a w β G Q hr hm hq)
  ·cases h
 | loop c ih =>
  intro bid s ex s' h own a w β G Q hr hm hq
  simp only [evC] at h
  obtain ⟨hint,_,h⟩:=Z0 h
  exact wpIn_loop_rounds fuel (Z8l (rnd:=rnd) hm.fresh (fun s1 ex1 s2 h1 own1 a1 w1 β1 G1 Q1 r1 m1 q1=>ih bid s1 ex1 s2 h1 own1 a1 w1 β1 G1 Q1 r1 m1 q1) hr hq fuel s own a w β G h hm (Go2.refl _ _ _ _))
 | region id ops draw =>
  intro bid s ex s' h own a w β G Q hr hm hq
  simp only [evC] at h
  obtain ⟨s1,h1,h⟩:=Z0 h
  simp only [Option.some.injEq,Prod.mk.injEq] at h
  obtain ⟨rfl,rfl⟩:=h
  unfold Z26 at h1
  obtain ⟨mf,h2,h1⟩:=Z0 h1
  cases h1
  cases draw with
  | false =>
   refine wpIn_region_list (Z53 hE hp hH hY ops.toList 0 _ mf a w β G h2 (by simp) (fun j _ _=>hm.fresh _ (by omega)) (hm.mid ops.size) fun a' w' β' G' k1 k2 k3 => ?_)
   exact hq own a' w' β' G' (Nat.le_trans (Nat.le_add_right _ _) k1) k2.st k3
  | true =>
   refine wpIn_region_any hmix (Zco hE hp hH hY h2 (Nat.le_refl _) (fun j _=>hm.fresh _ (by omega)) ((hm.drew _).mid ops.size) fun a' w' β' G' k1 k2 k3 => ?_)
   exact hq own a' w' β' G' (Nat.le_trans (Nat.le_add_right _ _) k1) k2.st k3
 | rangeFunc f ps assign body _ _ =>
  intro bid s0 ex s' h own a w β G Q hr hm hq
  simp only [evC] at h
  obtain ⟨hin,h⟩:=Z2 h
  obtain ⟨s,hhint,h⟩:=Z0 h
  obtain ⟨β1,hm1,hg1,hle1⟩:=Zcs hhint hm
  obtain ⟨fv,hfv,h⟩:=Z0 h
  split at h
  ·rename_i g first caps
   obtain ⟨⟨rv,objs',nx'⟩,hcall,h⟩:=Z0 h
   simp only at h
   obtain ⟨hent,hcs⟩:=hH _ _ _ _ _ _ _ hcall
   obtain ⟨vf,vc,hv,hr1,hr2⟩:=ZcL.1 (Zq hm1.fr hfv)
   have hro:∀ b,ro=some b→∃ r,w.heap[b]? = some (.loop r):=fun b hb=>by
    cases rnd with
    | none=>rw [show ro=none from hr] at hb;cases hb
    | some lo =>
     obtain ⟨b',e1,e2⟩:=hr
     rw [e1] at hb;cases hb
     simp only [Z67] at hin
     split at hin
     ·rename_i hlo
      obtain ⟨b2,_,_,_,_,k1,k2,_⟩:=hm.hr.obj lo _ hlo
      rw [e2] at k1;cases k1
      exact ⟨_,k2⟩
     ·cases hin
   refine wpIn_rangeFunc fun fn _ => ?_
   obtain ⟨l,mark,w1,own1,β2,hrun,hdf,hx2,hb2,hh2,hk2⟩:=Zb8 (P:=P) (ro:=ro) hF hm1 hro fn ps assign body bid
   have hget:∀ i,(s.objs.set s.next (some (.loop fid s.base ps.toList assign body bid .normal))).get i=ZA s.objs.get [(s.next,some (.loop fid s.base ps.toList assign body bid .normal))] i:=fun i=>by rw [Tr.get_set,Y2]
   have hfr2:∀ id,id≠s.next→YZ β1 β2 s.objs.get (s.objs.set s.next (some (.loop fid s.base ps.toList assign body bid .normal))).get id:=fun id hid hf=>by
    obtain ⟨q1,q2,q3⟩:=hk2 id hid hf
    exact ⟨by rw [hget];exact q1,q2,q3⟩
   have hrep:Zd β2 G (first++[.yld s.next]++caps) (vf.toArray ++ #[Value.func (.yield l) #[] #[]]++vc.toArray).toList:=by
    have:=Z2B (Z2B (Zd.mono hx2 _ _ hr1) (Zc.2 ⟨_,[],rfl,ZdE.2 ⟨l,hb2,rfl⟩,Zo.2 rfl⟩)) (Zd.mono hx2 _ _ hr2)
    simpa using this
   have hC:=hcs w0 G0 (YA own1 outer) w1 β2 G _ (hh2.eq hget) (fun id hid=>(hfr2 id (by omega)).fresh (hm1.fresh id (by omega))) hrep
   refine ⟨l,mark,w1,{ target := .fn (.func g) vc.toArray,args:=vf.toArray ++ #[.func (.yield l) #[] #[]] },w1,g,_,w1,hrun,?_,fun _ _=>trivial,hent _ _,fun hq=>by simp [fw,Fence.wide] at hq,Z7V (Calls.mono hC fun e w' he => ?_)⟩
   ·have hcst:a.eval (.const (.func (.yield l) #[] #[])) = .func (.yield l) #[] #[]:=rfl
    simp [resolve,hv,Deferred.ofValue,hcst]
   ·obtain ⟨v,β3,G3,rfl,hle3,hgo3,hh3,hfr3,_⟩:=he
    split at h
    ·rename_i fid' bs' ps' as' bo' bid' ex' hob
     obtain ⟨b3,tm3,df3,fn3,F3,k1,k2,_⟩:=hh3.obj s.next _ hob
     have hbl:β3.blk s.next=some l:=hgo3.ext.blk _ _ hb2
     rw [hbl] at k1;cases k1
     have hdrop:=hh3.drop (ob' := .loop { state := .exhausted,pending:=YF ex',fn:=fn3,tmps:=tm3,params:=ps'.toArray,assign:=as',body:=bo',defers:=df3 }) hob hbl k2 (by simp)
     have hst:(ex',({ s with objs:=objs'.set s.next none,next:=nx' }:St))=(ex,s')∧ex' ≠ .busy:=by
      cases ex'<;>simp only [Option.some.injEq,reduceCtorEq] at h<;>exact ⟨h,by simp⟩
     obtain ⟨hst,hnb⟩:=hst
     simp only [Prod.mk.injEq] at hst
     obtain ⟨rfl,rfl⟩:=hst
     have hget3:∀ i,(objs'.set s.next none).get i=if i=s.next then none else objs'.get i:=fun i=>Tr.get_set _ _ _ _
     have hfin:∀ id,YZ β3 β3 objs'.get (objs'.set s.next none).get id:=fun id hf=>⟨by
      rw [hget3]
      by_cases e:id=s.next
      ·rw [if_pos e]
      ·rw [if_neg e];exact hf,rfl,fun _=>rfl⟩
     have hend:(Instr.endLoop l).run P w' = .ok (YF ex') (w'.putObj l (.loop { state := .exhausted,pending:=YF ex',fn:=fn3,tmps:=tm3,params:=ps'.toArray,assign:=as',body:=bo',defers:=df3 })) :=
      run_endLoop k2 (by cases ex'<;>simp at hnb ⊢)
     have hQ:=hq own1 { a with defers:=mark++a.defers } (w'.putObj l (.loop { state := .exhausted,pending:=YF ex',fn:=fn3,tmps:=tm3,params:=ps'.toArray,assign:=as',body:=bo',defers:=df3 })) β3 G3 (by show s0.next≤nx';omega)
      ⟨hm1.fr.mono (hx2.trans hgo3.ext),hm1.dom,hm1.sz,hdrop.eq hget3,fun id hid=>(hfin id).fresh (hfr3 id hid),hdf⟩
      (hg1.trans ⟨hx2.trans hgo3.ext,fun id hid=>((hfr2 id (by omega)).trans (hgo3.keep id (by omega))).trans (hfin id)⟩)
     refine ⟨_,_,hend,?_⟩
     cases ex' with
     | normal=>exact hQ
     | exit i=>exact wpIn_exit hQ
     | ret=>exact wpIn_ret hQ
     | busy=>exact absurd rfl hnb
    ·cases h
  ·cases h
 | _ =>
  intro bid s ex s' h own a w β G Q hr hm hq
  simp [evC] at h
end
end Go.Ab
namespace Go.Ab
open Go.RowKit
structure Zm (P:Program) (f:FuncId) (F:FI):Prop where
 fn:∃ fn,P.funcs[f]? = some fn∧fn.body=some F.body∧fn.ntmps=F.nt∧fn.results.toList=F.nres
 ent:Z7M P f
def Z9W {α γ:Type} (P:Program) (w:World) (f:α→Sem γ):List α→List γ→Prop
 | [],out=>out=[]
 | x::xs,out=>∃ b out',out=b::out'∧(f x).run P w = .ok b w∧Z9W P w f xs out'
section
variable {P:Program} {E:Env} {w0:World} {G0:Gh} {outer:DD} {own:List Nat} {D:DD} {V nt:Nat} {a:Act} {w:World} {β:Bi} {G:Gh} {ro:Option Nat} {n:Nat} {h:Nat→Option Z8}
theorem Zek {α γ δ:Type} (x:Sem α) (f:α→Sem γ) (g:γ→Sem δ):(x.bind f).bind g=x.bind fun a=>(f a).bind g:=by
 induction x<;>simp only [Sem.bind]<;>first|rfl|(congr 1;funext y;apply_assumption)|(congr 1)
theorem ZgM {α:Type} (x:Sem α):x.bind Sem.pure=x:=by
 induction x<;>simp only [Sem.bind]<;>first|rfl|(congr 1;funext y;apply_assumption)|(congr 1)
instance:LawfulMonad Sem:=LawfulMonad.mk' Sem (fun x=>ZgM x) (fun _ _=>rfl) (fun x f g=>Zek x f g)
theorem ZbS {α γ:Type} (f:α→Sem γ):∀ (l:List α) (out:List γ),Z9W P w f l out→(l.mapM f).run P w = .ok out w
 | [],out,h=>by simp only [Z9W] at h;subst h;rfl
 | x::xs,out,h=>by
  obtain ⟨b,out',rfl,h1,h2⟩:=h
  rw [List.mapM_cons,Sem.run_bind,h1]
  simp only [Result.andThen]
  rw [Sem.run_bind,ZbS f xs out' h2]
  rfl
theorem ZfF {ti:TI} {da d:DV} {u:Value} (hr:Rep β G da u) (hd:Z2U ti h da=some d):∃ A,u = .pointer (some A):=by
 unfold Z2U at hd
 split at hd
 ·obtain ⟨b,_,rfl⟩:=Z2C.1 hr;exact ⟨_,rfl⟩
 ·obtain ⟨b,_,_,_,rfl⟩:=Z30.1 hr;exact ⟨_,rfl⟩
 ·obtain ⟨_,b,o,rfl,_⟩:=Z51.1 hr;exact ⟨_,rfl⟩
 ·cases hd
def Zfm (tm:Array Value):ResultVar→Sem Value
 | .tmp t=>pure (tm.getD t undef)
 | .cell a t=>do loadVar t (←asAddr (tm.getD a undef))
theorem ZcN (fn:Func) (tm:Array Value):results fn tm=(do let vs ← fn.results.mapM (Zfm tm);pure (if h:vs.size=1 then vs[0] else .tuple vs)):=by
 have:(fun (x:ResultVar)=>(match x with | .tmp t=>pure (tm.getD t undef) | .cell a t=>do loadVar t (←asAddr (tm.getD a undef)):Sem Value))=Zfm tm:=by
  funext x;cases x<;>rfl
 rw [←this]
 rfl
theorem Z5M (hE:∀ t ti,E.ty t=some ti→ZN P t ti) {base:Nat→Option DV} {tm:Array Value} (hf:FrM β G base tm) (hh:HR E w0 G0 D w β G h):∀ (rs:List ResultVar) (vs:List DV),Z3Z E base h rs=some vs →
  ∃ out,Z9W P w (Zfm tm) rs out∧Zd β G vs out
 | [],vs,hd=>by simp only [Z3Z,Option.some.injEq] at hd;subst hd;exact ⟨[],rfl,Zo.2 rfl⟩
 | .tmp t::rs,vs,hd=>by
  simp only [Z3Z] at hd
  obtain ⟨d,h1,hd⟩:=Z0 hd
  obtain ⟨ds,h2,hd⟩:=Z0 hd
  cases hd
  obtain ⟨out,h3,h4⟩:=Z5M hE hf hh rs ds h2
  obtain ⟨v,h5,h6⟩:=hf t d h1
  refine ⟨v::out,⟨v,out,rfl,?_,h3⟩,Zc.2 ⟨v,out,rfl,h6,h4⟩⟩
  simp [Zfm,h5]
 | .cell b t::rs,vs,hd=>by
  simp only [Z3Z] at hd
  obtain ⟨ti,hti,hd⟩:=Z0 hd
  obtain ⟨da,h1,hd⟩:=Z0 hd
  obtain ⟨d,h7,hd⟩:=Z0 hd
  obtain ⟨ds,h2,hd⟩:=Z0 hd
  cases hd
  obtain ⟨out,h3,h4⟩:=Z5M hE hf hh rs ds h2
  obtain ⟨u,h5,h6⟩:=hf b da h1
  obtain ⟨A,rfl⟩:=ZfF h6 h7
  obtain ⟨v,h8,h9⟩:=Z8r hE hh (hE t ti hti) (hE t ti hti).ko h6 h7
  refine ⟨v::out,⟨v,out,rfl,?_,h3⟩,Zc.2 ⟨v,out,rfl,h9,h4⟩⟩
  have h10:(loadVar t A).run P w = .ok v w:=by simpa [Instr.loadAt,Instr.sureAddr] using h8
  simp [Zfm,h5,asAddr,h10]
theorem Z9f (hE:∀ t ti,E.ty t=some ti→ZN P t ti) {base:Nat→Option DV} {tm:Array Value} (hf:FrM β G base tm) (hh:HR E w0 G0 D w β G h) {fn:Func} {rs:List ResultVar} (hrs:fn.results.toList=rs) {vs:List DV} (hd:Z3Z E base h rs=some vs) :
  ∃ v,(results fn tm).run P w = .ok v w∧Rep β G (Z6f vs) v:=by
 obtain ⟨out,h1,h2⟩:=Z5M (P:=P) hE hf hh rs vs hd
 rw [←hrs] at h1
 have h3:=ZbS (P:=P) (w:=w) _ fn.results.toList out h1
 refine ⟨if h:out.toArray.size=1 then out.toArray[0] else .tuple out.toArray,?_,?_⟩
 ·rw [ZcN,Array.mapM_eq_mapM_toList,Sem.run_bind]
  have h4:∀ (z:Sem (List Value)),z.run P w = .ok out w→(Functor.map List.toArray z).run P w = .ok out.toArray w:=fun z hz=>by
   rw [←LawfulMonad.bind_pure_comp,Sem.run_bind,hz];rfl
  rw [h4 _ h3]
  rfl
 ·have hl:=ZF h2
  match vs,out,h2,hl with
  | [],[],_,_=>exact YX.2 ⟨[],by simp,Zo.2 rfl⟩
  | [d],[v],h2,_ =>
   obtain ⟨v',vs',e,h6,_⟩:=Zc.1 h2
   cases e
   simpa [Z6f] using h6
  | d::e::ds,u::v::out,h2,_ =>
   refine YX.2 ⟨u::v::out,by simp,h2⟩
theorem HR.unmark {d:Nat} (hh:HR E w0 G0 (YA [d] D) w β G h) (hd:D d=none):HR E w0 G0 D (w.putObj d (.deferred none)) β G h:=by
 obtain ⟨k1,k2,_⟩:=hh.marks d mkD (by simp [YA])
 have hother:∀ i o b,h i=some o→Yl β i o b→b≠d:=fun i o b hi hb e=>(Z3W (hh.own i o b hi hb).2.2).1 (by simp [e])
 refine ⟨hh.below.trans ⟨rfl,rfl,rfl,by simp,fun k hk=>World.putObj_heap_other (by omega)⟩,hh.g0,fun c off v hg => ?_,fun i x hi => ?_,fun i x c hi hc => ?_,hh.inj,fun e x he => ?_⟩
 ·have hc:=hh.agree c off v hg
  by_cases e:c=d
  ·subst e
   unfold World.cell? at hc
   rw [k2] at hc
   cases hc
  ·exact (World.cell?_of_block (w:=w) (w':=w.putObj d (.deferred none)) (a:=⟨c,off,none⟩) (World.putObj_heap_other e)).trans hc
 ·exact Z2m.keep (Ext.refl _ _) (fun _=>rfl) (fun c hc=>⟨World.putObj_heap_other (hother i x c hi hc),fun _=>rfl⟩) (hh.obj i x hi)
 ·obtain ⟨m1,m2,m3⟩:=hh.own i x c hi hc
  exact ⟨m1,by simpa using m2,(Z3W m3).2⟩
 ·have hne:e≠d:=fun q=>by rw [q,hd] at he;cases he
  obtain ⟨m1,m2,m3⟩:=hh.marks e x (by unfold YA;rw [if_neg (by simpa using hne)];exact he)
  exact ⟨m1,(World.putObj_heap_other hne).trans m2,m3⟩
theorem HR.lessD {D':DD} (hh:HR E w0 G0 D w β G h) (hs:∀ d x,D' d=some x→D d=some x):HR E w0 G0 D' w β G h :=
 ⟨hh.below,hh.g0,hh.agree,hh.obj,fun i o b hi hb=>⟨(hh.own i o b hi hb).1,(hh.own i o b hi hb).2.1,by
  cases hd:D' b with
  | none=>rfl
  | some x=>have:=hs b x hd;rw [(hh.own i o b hi hb).2.2] at this;cases this⟩,hh.inj,fun d x hd=>hh.marks d x (hs d x hd)⟩
theorem Z6a {F:Fence} {fn:Func} {tm:Array Value} {R:Ending→World→Prop} (hR:∀ w,HR E w0 G0 outer w β G h→∃ v,(results fn tm).run P w = .ok v w∧R (.returned v) w) :
  ∀ (own:List Nat) (w:World),Z9X own outer→HR E w0 G0 (YA own outer) w β G h→LeavesInM F n P fn tm R (own.map Z8t) .returning w
 | [],w,_,hh=>hR w (by rw [Z6T] at hh;exact hh)
 | d::own,w,hn,hh=>by
  have hn':=List.nodup_cons.1 hn.1
  refine ⟨by simp,.inl ⟨d,w.putObj d (.deferred none),rfl,run_takeDeferred (hh.marks d mkD ZcH).2.1,?_⟩⟩
  rw [Z5f] at hh
  exact Z6a hR own _ ⟨hn'.2,fun b hb=>hn.2 b (by simp [hb])⟩ (hh.unmark (by unfold YA;rw [if_neg hn'.1];exact hn.2 d (by simp)))
theorem Z4j {V:Nat}:∀ (vs:List DV) (k:Nat) (b:Tr DV) (t:Nat) (d:DV),(Z1U V k vs b).get t=some d→(k≤t∧vs[t-k]? = some d∧Nat.testBit V t=true)∨b.get t=some d
 | [],_,_,_,_,h => .inr h
 | v::vs,k,b,t,d,h=>by
  simp only [Z1U] at h
  rcases Z4j vs (k+1) _ t d h with ⟨h1,h2,h3⟩|h1
  ·exact .inl ⟨by omega,by rw [show t-k=(t-(k+1))+1 by omega];simpa using h2,h3⟩
  ·cases hv:Nat.testBit V k with
   | false=>rw [hv] at h1;exact .inr h1
   | true =>
    rw [hv] at h1
    simp only [cond_true,Tr.get_set] at h1
    by_cases e:t=k
    ·rw [if_pos e] at h1
     subst e
     exact .inl ⟨Nat.le_refl _,by simpa using h1,hv⟩
    ·rw [if_neg e] at h1;exact .inr h1
theorem Z4a {V nt:Nat}:∀ (ps:List Nat) (vs:List DV) (b b':Tr DV) (us:List Value) (tm:Array Value),YI V nt ps vs b=some b'→Zd β G vs us→FrM β G b.get tm→tm.size=nt→(∀ t d,b.get t=some d→Nat.testBit V t=true) →
  ps.length=us.length∧FrM β G b'.get ((ps.zip us).foldl (fun tmps (t,a)=>tmps.setIfInBounds t a) tm)∧((ps.zip us).foldl (fun tmps (t,a)=>tmps.setIfInBounds t a) tm).size=nt∧∀ t d,b'.get t=some d→Nat.testBit V t=true
 | [],[],b,b',us,tm,h,hr,hf,hs,hd=>by
  simp only [YI,Option.some.injEq] at h;subst h
  rw [Zo] at hr;subst hr
  exact ⟨rfl,hf,hs,hd⟩
 | p::ps,v::vs,b,b',us,tm,h,hr,hf,hs,hd=>by
  simp only [YI] at h
  obtain ⟨hlt,h⟩:=Z2 h
  rw [Tr.blt_dec] at hlt
  have hlt:p<nt:=by simpa using hlt
  obtain ⟨u,us',rfl,h1,h2⟩:=Zc.1 hr
  have hb1:FrM β G (bif Nat.testBit V p then b.set p (some v) else b).get (tm.setIfInBounds p u)∧∀ t d,(bif Nat.testBit V p then b.set p (some v) else b).get t=some d→Nat.testBit V t=true:=by
   cases hv:Nat.testBit V p with
   | true =>
    simp only [cond_true]
    refine ⟨fun t d ht => ?_,fun t d ht => ?_⟩
    ·rw [Tr.get_set] at ht
     by_cases e:t=p
     ·rw [if_pos e] at ht;cases ht
      exact ⟨u,by rw [e,Array.getElem?_setIfInBounds_self_of_lt (by omega)],h1⟩
     ·rw [if_neg e] at ht
      obtain ⟨x,h3,h4⟩:=hf t d ht
      exact ⟨x,by rw [Array.getElem?_setIfInBounds_ne (fun q=>e q.symm)];exact h3,h4⟩
    ·rw [Tr.get_set] at ht
     by_cases e:t=p
     ·rw [e];exact hv
     ·rw [if_neg e] at ht;exact hd t d ht
   | false =>
    simp only [cond_false]
    refine ⟨fun t d ht => ?_,hd⟩
    have hne:p≠t:=fun e=>by have:=hd t d ht;rw [←e,hv] at this;cases this
    obtain ⟨x,h3,h4⟩:=hf t d ht
    exact ⟨x,by rw [Array.getElem?_setIfInBounds_ne hne];exact h3,h4⟩
  obtain ⟨k1,k2,k3,k4⟩:=Z4a ps vs _ b' us' (tm.setIfInBounds p u) h h2 hb1.1 (by simpa using hs) hb1.2
  exact ⟨by simp [k1],k2,k3,k4⟩
 | [],_::_,_,_,_,_,h,_,_,_,_=>by cases h
 | _::_,[],_,_,_,_,h,_,_,_,_=>by cases h
end
end Go.Ab
namespace Go.Ab
open Go.RowKit
section
variable {P:Program} {E:Env}
def ZgJ (E:Env) (n:Nat) (g:Nat) (as:List DV):Option DV:=(evX E n false g as .leaf 0).bind fun x=>frz x.2.1.get x.1
def Zdy (callH:Yh) (g:Nat) (as:List DV):Option DV:=(callH g as .leaf 0).bind fun x=>frz x.2.1.get x.1
theorem Zfe {callH:Yh} (hH:YY P E callH):Z2O P (Zdy callH):=fun g as d hd=>by
 unfold Zdy at hd
 obtain ⟨⟨r,objs',nx'⟩,h1,h2⟩:=Z0 hd
 obtain ⟨hent,hcs⟩:=hH _ _ _ _ _ _ _ h1
 refine ⟨hent,fun w β G vs hag hrep hid => ?_⟩
 have hh:HR E w G (fun _=>none) w ⟨fun _=>none,fun _ _=>none⟩ G (Tr.leaf:Tr Z8).get :=
  ⟨Below.refl _ _,fun _ _=>rfl,hag,fun _ _ h=>(by cases h),fun _ _ _ h=>(by cases h),fun _ _ _ _ _ h=>(by cases h),fun _ _ h=>(by cases h)⟩
 refine Calls.mono (hcs w G (fun _=>none) w _ G vs hh (fun _ _=>⟨rfl,fun _=>rfl,rfl⟩) (Zd.free as _ hid hrep)) fun e w' he => ?_
 obtain ⟨v,β',G',rfl,_,_,hh',_,hr⟩:=he
 obtain ⟨G2,hx2,hh2,hs2⟩:=Z1R hh' (Ze r)
 obtain ⟨k1,k2⟩:=Z64 hx2 (Z3G _ _) h2 hs2 hr
 exact ⟨v,G2,rfl,hh2.below,hh2.g0,hh2.agree,k2,Rep.free d v k2 k1⟩
theorem Z3V {n:Nat} (hH:YY P E (evX E n false)):Z2O P (ZgJ E n):=Zfe hH
theorem Zei (hE:∀ t ti,E.ty t=some ti→ZN P t ti) (hFn:∀ f F,E.fn f=some F→Zm P f F) (hmix:P.follows .mixedOrders=true) {n:Nat} {call:Nat→List DV→Option DV} {callH callY:Yh} (hp:Z2O P call) (hH:YY P E callH) (hY:Z18 P E callY):YY P E (Z8M E call callH callY n) :=
 fun g as objs nx r objs' nx' hd=>by
  unfold Z8M at hd
  obtain ⟨F,hF,hd⟩:=Z0 hd
  obtain ⟨hle,hd⟩:=Z2 hd
  obtain ⟨⟨ex,s'⟩,hc,hd⟩:=Z0 hd
  obtain ⟨⟨fn,hf1,hf2,hf3,hf4⟩,hent⟩:=hFn g F hF
  refine ⟨hent,fun w0 G0 D w β G vs hh hfr hrep => ?_⟩
  have hlen:as.length≤F.nt:=Nat.le_of_ble_eq_true hle
  have hvl:=ZF hrep
  have hvs:vs.size=as.length:=by simpa using hvl
  have hvals:∃ rs,Z3Z E s'.base.get s'.objs.get F.nres=some rs∧r=Z6f rs∧objs'=s'.objs∧nx'=s'.next∧(ex = .normal∨ex = .ret):=by
   cases ex with
   | normal=>obtain ⟨rs,h1,h2⟩:=Z0 hd;cases h2;exact ⟨rs,h1,rfl,rfl,rfl,.inl rfl⟩
   | ret=>obtain ⟨rs,h1,h2⟩:=Z0 hd;cases h2;exact ⟨rs,h1,rfl,rfl,rfl,.inr rfl⟩
   | exit i=>cases hd
   | busy=>cases hd
  obtain ⟨rs,hrs,rfl,rfl,rfl,hex⟩:=hvals
  refine (callsIn_wide (n:=0)).1 (callsIn_of_wp_marks hf1 hf2 trivial ?_)
  rw [hf3]
  have hm:SS E w0 G0 D F.vmask F.nt [] ⟨Z1U F.vmask 0 as .leaf,objs,nx⟩ { tmps:=vs++Array.replicate (F.nt-vs.size) undef,defers:=[] } w β G:=by
   refine ⟨fun t d ht => ?_,fun t d ht => ?_,?_,by rw [Z6T];exact hh,hfr,rfl,List.nodup_nil,by simp⟩
   ·rcases Z4j as 0 .leaf t d ht with ⟨_,h2,_⟩|h1
    ·obtain ⟨v,h3,h4⟩:=Z3A hrep (i:=t) (d:=d) (by simpa using h2)
     refine ⟨v,?_,h4⟩
     have h5:vs[t]? = some v:=by simpa using h3
     have hlt:t<vs.size:=(Array.getElem?_eq_some_iff.1 h5).1
     show (vs++Array.replicate (F.nt-vs.size) undef)[t]? = some v
     rw [Array.getElem?_append_left hlt];exact h5
    ·cases h1
   ·rcases Z4j as 0 .leaf t d ht with ⟨_,_,h3⟩|h1
    ·exact h3
    ·cases h1
   ·show (vs++Array.replicate (F.nt-vs.size) undef).size=F.nt
    simp;omega
  have hpost:∀ own' a' w' β' G',nx≤s'.next→SS E w0 G0 D F.vmask F.nt own' s' a' w' β' G'→Go2 nx β G β' G' objs.get s'.objs.get →
    LeavesInM Fence.wide 0 P fn a'.tmps (Z24 E w0 G0 D β G objs nx (Z6f rs) s'.objs s'.next) a'.defers .returning w':=fun own' a' w' β' G' k1 k2 k3=>by
   rw [k2.df.1]
   refine Z6a (fun w2 h2 => ?_) own' w' k2.df.2 k2.hr
   obtain ⟨v,h3,h4⟩:=Z9f hE k2.fr h2 hf4 hrs
   exact ⟨v,h3,v,β',G',rfl,k1,k3,h2,k2.fresh,h4⟩
  refine Z6F (ro:=none) (rnd:=none) hE hmix hp hH hY hF n F.body 0 _ ex s' hc [] _ w β G _ rfl hm fun own' a' w' β' G' k1 k2 k3 => ?_
  rcases hex with rfl|rfl
  ·exact hpost own' a' w' β' G' k1 k2 k3
  ·exact hpost own' a' w' β' G' k1 k2 k3
theorem ZeS (hE:∀ t ti,E.ty t=some ti→ZN P t ti) (hFn:∀ f F,E.fn f=some F→Zm P f F) (hmix:P.follows .mixedOrders=true) {n:Nat} (hH:YY P E (evX E n false)) (hY:Z18 P E (evX E n true)):YY P E (evX E (n+1) false) :=
 ZdU (Zei (n:=n) hE hFn hmix (Z3V hH) hH hY)
def Zej (E:Env) (call:Nat→List DV→Option DV) (callH callY:Yh) (n:Nat):Yh:=fun l args objs next=>(match objs.get l with
  | some (.loop fid base ps assign body bid .normal)=>(E.fn fid).bind fun F=>(YI F.vmask F.nt ps args base).bind fun b =>
    let run:=evC E (some l) fid F call callH callY n bid
    (run assign ⟨b,objs,next⟩).bind fun r=>(match r.1,r.2.objs.get l with
    | .normal,some (.loop fid2 base2 ps2 assign2 body2 bid2 .normal)=>(run body { r.2 with objs:=r.2.objs.set l (some (.loop fid2 base2 ps2 assign2 body2 bid2 .busy)) }).bind fun r=>(match r.1,r.2.objs.get l with
     | .busy,_=>none
     | ex,some (.loop fid3 base3 ps3 assign3 body3 bid3 .busy)=>some (.bool (match ex with | .normal=>true|_=>false),r.2.objs.set l (some (.loop fid3 base3 ps3 assign3 body3 bid3 ex)),r.2.next)
     | _,_=>none)
    | _,_=>none)
  | _=>none)
theorem ZcQ (hE:∀ t ti,E.ty t=some ti→ZN P t ti) (hmix:P.follows .mixedOrders=true) {n:Nat} {call:Nat→List DV→Option DV} {callH callY:Yh} (hp:Z2O P call) (hH:YY P E callH) (hY:Z18 P E callY):Z18 P E (Zej E call callH callY n) :=
 fun l as objs nx r objs' nx' hd w0 G0 D w β G vs b hb hh hfr hrep=>by
  unfold Zej at hd
  split at hd
  ·rename_i fid base ps assign body bid hob
   obtain ⟨F,hF,hd⟩:=Z0 hd
   obtain ⟨b1,hset,hd⟩:=Z0 hd
   obtain ⟨⟨ex1,s1⟩,hc1,hd⟩:=Z0 hd
   obtain ⟨b',tm,df,fn,F',k1,k2,k3,k4,k5,k6⟩:=hh.obj l _ hob
   rw [hb] at k1;cases k1
   rw [hF] at k4;cases k4
   obtain ⟨m1,m2,m3,m4⟩:=Z4a ps as base b1 vs.toList tm hset hrep k3 k5 k6
   have hsz:vs.size=ps.toArray.size:=by simpa using m1.symm
   have hfold:(ps.toArray.zip vs).foldl (fun tmps (t,a)=>tmps.setIfInBounds t a) tm=(ps.zip vs.toList).foldl (fun tmps (t,a)=>tmps.setIfInBounds t a) tm:=by
    rw [←Array.foldl_toList];simp
   refine ⟨fn,_,assign,body,run_yield k2 hsz,fun n => ?_⟩
   refine roundIn_of_wpIn trivial ?_
   simp only
   rw [hfold]
   have hm:SS E w0 G0 D F.vmask F.nt [] ⟨b1,objs,nx⟩ { tmps:=(ps.zip vs.toList).foldl (fun tmps (t,a)=>tmps.setIfInBounds t a) tm,defers:=[] } w β G :=
    ⟨m2,m4,m3,by rw [Z6T];exact hh,hfr,rfl,List.nodup_nil,by simp⟩
   refine Z6F (ro:=some b) (rnd:=some l) hE hmix hp hH hY hF _ assign bid _ ex1 s1 hc1 [] _ w β G _ ⟨b,rfl,hb⟩ hm fun own1 a1 w1 β1 G1 q1 q2 q3 => ?_
   split at hd
   ·rename_i fid2 bs2 ps2 as2 bo2 bid2 hex1 hob2
    replace hex1:ex1 = .normal:=hex1
    replace hob2:s1.objs.get l=some (.loop fid2 bs2 ps2 as2 bo2 bid2 .normal):=hob2
    subst hex1
    obtain ⟨⟨ex2,s2⟩,hc2,hd⟩:=Z0 hd
    have hb1:β1.blk l=some b:=q3.ext.blk _ _ hb
    obtain ⟨b'',tm2,df2,fn2,F2,j1,j2,j3⟩:=q2.hr.obj l _ hob2
    rw [hb1] at j1;cases j1
    have hst1:∀ id,YZ β1 β1 s1.objs.get (s1.objs.set l (some (.loop fid2 bs2 ps2 as2 bo2 bid2 .busy))).get id:=fun id hf=>⟨by
     rw [Tr.get_set]
     by_cases e:id=l
     ·subst e;rw [hf] at hob2;cases hob2
     ·rw [if_neg e];exact hf,rfl,fun _=>rfl⟩
    have hh2:HR E w0 G0 (YA own1 D) (w1.putObj b (.loop { state := .busy,pending:=YF .normal,fn:=fn2,tmps:=tm2,params:=ps2.toArray,assign:=as2,body:=bo2,defers:=df2 })) β1 G1 (s1.objs.set l (some (.loop fid2 bs2 ps2 as2 bo2 bid2 .busy))).get:=by
     refine (Z4O (o' := .loop fid2 bs2 ps2 as2 bo2 bid2 .busy) (ob' := .loop { state := .busy,pending:=YF .normal,fn:=fn2,tmps:=tm2,params:=ps2.toArray,assign:=as2,body:=bo2,defers:=df2 }) q2.hr hob2 hb1 j2 (by simp) (fun x hx => ?_) ?_).eq fun i=>by rw [Tr.get_set,Y2]
     ·simp only [Yl] at hx;rw [hb1] at hx;cases hx;rfl
     ·exact ⟨b,tm2,df2,fn2,F2,hb1,by rw [World.putObj_heap_same (Array.getElem?_eq_some_iff.1 j2).1];simp [YF],j3⟩
    refine ⟨_,run_beginRound j2 rfl,?_⟩
    refine Z6F (ro:=some b) (rnd:=some l) hE hmix hp hH hY hF _ body bid { s1 with objs:=s1.objs.set l (some (.loop fid2 bs2 ps2 as2 bo2 bid2 .busy)) } ex2 s2 hc2 own1 a1 _ β1 G1 _ ⟨b,rfl,hb1⟩
     ⟨q2.fr,q2.dom,q2.sz,hh2,fun id hid=>(hst1 id).fresh (q2.fresh id hid),q2.df⟩ fun own3 a3 w3 β3 G3 p1 p2 p3 => ?_
    have hfin:ex2 ≠ .busy∧∃ fid3 bs3 ps3 as3 bo3 bid3,s2.objs.get l=some (.loop fid3 bs3 ps3 as3 bo3 bid3 .busy)∧r = .bool (YF ex2).isNone∧objs'=s2.objs.set l (some (.loop fid3 bs3 ps3 as3 bo3 bid3 ex2))∧nx'=s2.next:=by
     split at hd
     ·cases hd
     ·rename_i hl3 hne
      cases hd
      have hne':ex2 ≠ .busy:=fun e=>hne e
      refine ⟨hne',_,_,_,_,_,_,hl3,?_,rfl,rfl⟩
      clear hc2 hl3
      cases ex2<;>first|rfl|exact absurd rfl hne'
     ·cases hd
    obtain ⟨hnb,fid3,bs3,ps3,as3,bo3,bid3,hob3,rfl,rfl,rfl⟩:=hfin
    have hb3:β3.blk l=some b:=p3.ext.blk _ _ hb1
    obtain ⟨b4,tm3,df3,fn3,F3,i1,i2,i3⟩:=p2.hr.obj l _ hob3
    rw [hb3] at i1;cases i1
    have hend:=run_endRound (P:=P) (YF ex2) i2
    have hh4:HR E w0 G0 (YA own3 D) (w3.putObj b (.loop { state:=(if (YF ex2).isNone then .ready else .done),pending:=YF ex2,fn:=fn3,tmps:=tm3,params:=ps3.toArray,assign:=as3,body:=bo3,defers:=df3 })) β3 G3 (s2.objs.set l (some (.loop fid3 bs3 ps3 as3 bo3 bid3 ex2))).get:=by
     refine (Z4O (o' := .loop fid3 bs3 ps3 as3 bo3 bid3 ex2) (ob' := .loop { state:=(if (YF ex2).isNone then .ready else .done),pending:=YF ex2,fn:=fn3,tmps:=tm3,params:=ps3.toArray,assign:=as3,body:=bo3,defers:=df3 }) p2.hr hob3 hb3 i2 (by simp) (fun x hx => ?_) ?_).eq fun i=>by rw [Tr.get_set,Y2]
     ·simp only [Yl] at hx;rw [hb3] at hx;cases hx;rfl
     ·refine ⟨b,tm3,df3,fn3,F3,hb3,?_,i3⟩
      rw [World.putObj_heap_same (Array.getElem?_eq_some_iff.1 i2).1]
      cases ex2<;>simp [YF] at hnb ⊢
    have hst3:∀ id,YZ β3 β3 s2.objs.get (s2.objs.set l (some (.loop fid3 bs3 ps3 as3 bo3 bid3 ex2))).get id:=fun id hf=>⟨by
     rw [Tr.get_set]
     by_cases e:id=l
     ·subst e;rw [hf] at hob3;cases hob3
     ·rw [if_neg e];exact hf,rfl,fun _=>rfl⟩
    have hpost:Z24 E w0 G0 D β G objs nx (.bool (YF ex2).isNone) (s2.objs.set l (some (.loop fid3 bs3 ps3 as3 bo3 bid3 ex2))) s2.next (.returned (.bool (YF ex2).isNone)) (w3.putObj b (.loop { state:=(if (YF ex2).isNone then .ready else .done),pending:=YF ex2,fn:=fn3,tmps:=tm3,params:=ps3.toArray,assign:=as3,body:=bo3,defers:=df3 })):=by
     refine ⟨_,β3,G3,rfl,Nat.le_trans q1 p1,q3.trans ⟨p3.ext,fun id hid=>((hst1 id).trans (p3.keep id (Nat.lt_of_lt_of_le hid q1))).trans (hst3 id)⟩,hh4.lessD (fun d x hd => ?_),fun id hid=>(hst3 id).fresh (p2.fresh id hid),ZK.2 ?_⟩
     ·unfold YA
      rw [if_neg (fun hm=>by rw [p2.df.2.2 d hm] at hd;cases hd)]
      exact hd
     rfl
    cases ex2 with
    | normal=>exact ⟨_,_,hend,hpost⟩
    | exit i=>exact ⟨_,_,hend,hpost⟩
    | ret=>exact ⟨_,_,hend,hpost⟩
    | busy=>exact absurd rfl hnb
   ·cases hd
  ·cases hd
theorem Ze3 (hE:∀ t ti,E.ty t=some ti→ZN P t ti) (hmix:P.follows .mixedOrders=true) {n:Nat} (hH:YY P E (evX E n false)) (hY:Z18 P E (evX E n true)):Z18 P E (evX E (n+1) true) :=
 ZcQ (n:=n) hE hmix (Z3V hH) hH hY
def Zab (E:Env) (call:Nat→List DV→Option DV):Nat→Bool→Yh
 | 0,_=>fun _ _ _ _=>none
 | n+1,false=>Z3N E (Z8M E call (Zab E call n false) (Zab E call n true) n)
 | n+1,true=>Zej E call (Zab E call n false) (Zab E call n true) n
theorem Z9q (hE:∀ t ti,E.ty t=some ti→ZN P t ti) (hFn:∀ f F,E.fn f=some F→Zm P f F) (hmix:P.follows .mixedOrders=true):∀ n,YY P E (evX E n false)∧Z18 P E (evX E n true)
 | 0=>⟨fun _ _ _ _ _ _ _ h=>by simp [evX] at h,fun _ _ _ _ _ _ _ h=>by simp [evX] at h⟩
 | n+1 =>
  have ih:=Z9q hE hFn hmix n
  ⟨ZeS hE hFn hmix ih.1 ih.2,Ze3 hE hmix ih.1 ih.2⟩
theorem ZgT (hE:∀ t ti,E.ty t=some ti→ZN P t ti) (hFn:∀ f F,E.fn f=some F→Zm P f F) (hmix:P.follows .mixedOrders=true) {n f:Nat} {as:List DV} {d:DV} (hd:evF E n f as=some d)
  {w:World} {β:Bi} {G:Gh} {vs:Array Value} (hag:∀ b o v,G b o=some v→w.cell? ⟨b,o,none⟩=some v) (hrep:Zd β G as vs.toList) (hid:Za as=true) :
  Calls P f vs w fun e w'=>∃ v G',e = .returned v∧Below w.heap.size w w'∧(∀ b,b<w.heap.size→G' b=G b)∧(∀ b o v,G' b o=some v→w'.cell? ⟨b,o,none⟩=some v)∧Zb d=true∧Rep β G' d v :=
 ((Z3V (Z9q hE hFn hmix n).1) f as d hd).2 w β G vs hag hrep hid
mutual
def Z38:DV→DV→Bool
 | .bool a,.bool b=>a==b
 | .int k a,.int k' b=>k==k'&&a==b
 | .str a,.str b=>a.data.toList==b.data.toList
 | .nils,.nils=>true
 | .nilp,.nilp=>true
 | .sl a,.sl b=>Zb2 a b
 | .agg a,.agg b=>Z7a a b
 | _,_=>false
def Z7a:List DV→List DV→Bool
 | [],[]=>true
 | a::as,b::bs=>Z38 a b&&Z7a as bs
 | _,_=>false
def Zb2:List (List DV)→List (List DV)→Bool
 | [],[]=>true
 | a::as,b::bs=>Z7a a b&&Zb2 as bs
 | _,_=>false
end
mutual
theorem ZfM:∀ (a b:DV),Z38 a b=true→a=b
 | .bool a,b,h=>by cases b<;>simp [Z38] at h;rw [h]
 | .int k a,b,h=>by cases b<;>simp [Z38] at h;rw [h.1,h.2]
 | .str a,b,h=>by
  cases b<;>simp [Z38] at h
  rename_i b
  cases a;cases b
  simp only at h
  rw [h]
 | .nils,b,h=>by cases b<;>simp [Z38] at h;rfl
 | .nilp,b,h=>by cases b<;>simp [Z38] at h;rfl
 | .sl a,b,h=>by
  cases b<;>simp [Z38] at h
  rw [Zb3 _ _ h]
 | .agg a,b,h=>by
  cases b<;>simp [Z38] at h
  rw [Z5V _ _ h]
 | .ptr _ _,b,h=>by simp [Z38] at h
 | .rptr _ _ _ _ _,b,h=>by simp [Z38] at h
 | .pub _,b,h=>by simp [Z38] at h
 | .rs _ _,b,h=>by simp [Z38] at h
 | .tup _,b,h=>by simp [Z38] at h
 | .fn _ _ _,b,h=>by simp [Z38] at h
 | .nilfn,b,h=>by simp [Z38] at h
 | .map _,b,h=>by simp [Z38] at h
 | .nilmap,b,h=>by simp [Z38] at h
 | .iface _ _,b,h=>by simp [Z38] at h
 | .nilif,b,h=>by simp [Z38] at h
 | .iter _,b,h=>by simp [Z38] at h
 | .yld _,b,h=>by simp [Z38] at h
theorem Z5V:∀ (a b:List DV),Z7a a b=true→a=b
 | [],b,h=>by cases b<;>simp [Z7a] at h;rfl
 | a::as,b,h=>by
  cases b<;>simp [Z7a] at h
  rw [ZfM _ _ h.1,Z5V _ _ h.2]
theorem Zb3:∀ (a b:List (List DV)),Zb2 a b=true→a=b
 | [],b,h=>by cases b<;>simp [Zb2] at h;rfl
 | a::as,b,h=>by
  cases b<;>simp [Zb2] at h
  rw [Z5V _ _ h.1,Zb3 _ _ h.2]
end
def Zf2:List (Nat×List DV×DV)→Nat→List DV→Option DV
 | [],_,_=>none
 | (f,xs,d)::l,g,as=>bif Nat.beq f g&&Z7a xs as then some d else Zf2 l g as
def Zfu (E:Env) (l:List (Nat×List DV×DV)) (n:Nat) (g:Nat) (as:List DV):Option DV:=bif l.any fun e=>Nat.beq e.1 g then Zf2 l g as else evF E n g as
def Zh9 (E:Env) (l:List (Nat×List DV×DV)) (n f:Nat) (as:List DV):Option DV:=Zdy (Zab E (Zfu E l n) n false) f as
end
end Go.Ab
namespace Go.Ab
open Go.RowKit
mutual
def Z1M (P:Program):Nat→TypeId→List DV→Bool
 | 0,_,_=>false
 | d+1,t,zs=>(match P.underlying t,zs with
  | some .bool,[.bool _]=>true
  | some (.int k),[.int k' _]=>k==k'
  | some .string,[.str _]=>true
  | some (.struct fs),zs => !P.stoodInHeld t&&Z1W P d fs.toList 0 zs
  | some (.array n e),zs=>(match P.info? e with
   | some i=>Nat.beq zs.length (n*i.size)&&(List.range n).all fun j=>Z1M P d e ((zs.drop (j*i.size)).take i.size)
   | none=>false)
  | _,_=>false)
def Z1W (P:Program):Nat→List Field→Nat→List DV→Bool
 | _,[],off,zs=>Nat.ble zs.length off
 | 0,_::_,_,_=>false
 | d + 1, f :: fs, off, zs => f.name != "_" && Nat.beq f.offset off && (match P.info? f.type with
  | some i=>Nat.ble (off+i.size) zs.length&&Z1M P d f.type ((zs.drop off).take i.size)&&Z1W P d fs (off+i.size) zs
  | none=>false)
end
theorem ZS:∀ {zs xs:List DV},Z9 zs xs=true→xs.length=zs.length
 | [],[],_=>rfl
 | z::zs,x::xs,h=>by
  cases z<;>cases x<;>simp only [Z9,Bool.false_eq_true,Bool.and_eq_true] at h
  ·simp [ZS h]
  ·simp [ZS h.2]
  ·simp [ZS h]
 | [],x::xs,h=>by simp [Z9] at h
 | z::zs,[],h=>by cases z<;>simp [Z9] at h
theorem Yf:∀ (k:Nat) {zs xs:List DV},Z9 zs xs=true→Z9 (zs.take k) (xs.take k)=true∧Z9 (zs.drop k) (xs.drop k)=true
 | 0,zs,xs,h=>⟨by simp [Z9],by simpa using h⟩
 | k+1,[],[],_=>⟨by simp [Z9],by simp [Z9]⟩
 | k+1,z::zs,x::xs,h=>by
  cases z<;>cases x<;>simp only [Z9,Bool.false_eq_true,Bool.and_eq_true] at h
  ·obtain ⟨h1,h2⟩:=Yf k h
   exact ⟨by simpa [Z9] using h1,by simpa using h2⟩
  ·obtain ⟨h1,h2⟩:=Yf k h.2
   exact ⟨by simpa [Z9] using ⟨by simpa using h.1,h1⟩,by simpa using h2⟩
  ·obtain ⟨h1,h2⟩:=Yf k h
   exact ⟨by simpa [Z9] using h1,by simpa using h2⟩
 | k+1,[],x::xs,h=>by simp [Z9] at h
 | k+1,z::zs,[],h=>by cases z<;>simp [Z9] at h
def YS (P:Program) (t:TypeId) (vs:List Value):Value:=match P.underlying t with
 | some (.struct _) => .agg vs.toArray
 | some (.array _ _) => .agg vs.toArray
 | _=>vs.headD undef
section
variable {P:Program} {β:Bi} {G:Gh}
theorem Z1i:∀ (k:Nat) {xs ys:List DV} {r:Bool},Zg xs ys=some r→∃ r1 r2,Zg (xs.take k) (ys.take k)=some r1∧Zg (xs.drop k) (ys.drop k)=some r2∧r=(r1&&r2)
 | 0,xs,ys,r,h=>⟨true,r,by simp [Zg],by simpa using h,by simp⟩
 | k+1,[],[],r,h=>⟨true,true,by simp [Zg],by simp [Zg],by simpa [Zg] using h.symm⟩
 | k+1,x::xs,[],r,h=>by cases x<;>simp [Zg] at h
 | k+1,[],y::ys,r,h=>by cases y<;>simp [Zg] at h
 | k+1,x::xs,y::ys,r,h=>by
  cases x<;>cases y<;>simp only [Zg,reduceCtorEq] at h
  ·rename_i a b
   obtain ⟨q,h1,h2⟩:=Z0 h
   cases h2
   obtain ⟨r1,r2,k1,k2,rfl⟩:=Z1i k h1
   exact ⟨(a==b&&r1),r2,by simp [Zg,k1],by simpa using k2,by rw [Bool.and_assoc]⟩
  ·rename_i ka a kb b
   obtain ⟨hq,h⟩:=Z2 h
   obtain ⟨q,h1,h2⟩:=Z0 h
   cases h2
   obtain ⟨r1,r2,k1,k2,rfl⟩:=Z1i k h1
   exact ⟨(a==b&&r1),r2,by simp [Zg,k1,hq],by simpa using k2,by rw [Bool.and_assoc]⟩
  ·rename_i a b
   obtain ⟨q,h1,h2⟩:=Z0 h
   cases h2
   obtain ⟨r1,r2,k1,k2,rfl⟩:=Z1i k h1
   exact ⟨(a==b&&r1),r2,by simp [Zg,k1],by simpa using k2,by rw [Bool.and_assoc]⟩
theorem Z4B {d:Nat} {t:TypeId} {i:TypeInfo} (hi:P.info? t=some i) {zs:List DV} (hzl:zs.length=i.size) (hf:Z1M P d t zs=true) {vs:List Value} {off:Nat} (hle:off+i.size≤vs.length) (w:World) :
  (part t vs.toArray off).run P w = .ok (YS P t ((vs.drop off).take i.size)) w:=by
 cases d with
 | zero=>simp [Z1M] at hf
 | succ d =>
  have hsz:(sizeOf t).run P w = .ok i.size w:=by simp [sizeOf,typeInfo,hi]
  simp only [Z1M] at hf
  have plain:∀ dd,P.underlying t=some dd→(match dd with | .struct _ | .array _ _=>true|_=>false)=false→i.size=1→(part t vs.toArray off).run P w = .ok (YS P t ((vs.drop off).take i.size)) w:=fun dd hdd hna h1=>by
   have hag:(isAgg t).run P w = .ok false w:=by
    unfold isAgg;rw [Sem.run_bind,Go.run_underlying hdd w];cases dd<;>first|rfl|(simp at hna)
   have hlt:off<vs.length:=by omega
   have hv:YS P t ((vs.drop off).take i.size)=vs[off]:=by
    unfold YS;rw [hdd,h1,List.drop_eq_getElem_cons hlt]
    cases dd<;>first|rfl|(simp at hna)
   unfold part
   rw [Sem.run_bind,hag,hv]
   simp [Result.andThen,hlt]
  cases hu:P.underlying t with
  | none=>rw [hu] at hf;cases hf
  | some dd =>
   rw [hu] at hf
   cases dd with
   | bool =>
    split at hf<;>first|(rename_i e _;exact plain _ hu rfl (by rw [←hzl];rfl))|cases hf|simp_all
   | int k =>
    split at hf<;>first|(rename_i e _;exact plain _ hu rfl (by rw [←hzl];rfl))|cases hf|simp_all
   | string =>
    split at hf<;>first|(rename_i e _;exact plain _ hu rfl (by rw [←hzl];rfl))|cases hf|simp_all
   | struct fs =>
    have hag:(isAgg t).run P w = .ok true w:=by unfold isAgg;rw [Sem.run_bind,Go.run_underlying hu w];rfl
    unfold part YS
    rw [Sem.run_bind,hag,hu]
    simp [Result.andThen,hsz]
   | array n e =>
    have hag:(isAgg t).run P w = .ok true w:=by unfold isAgg;rw [Sem.run_bind,Go.run_underlying hu w];rfl
    unfold part YS
    rw [Sem.run_bind,hag,hu]
    simp [Result.andThen,hsz]
   | _=>simp at hf
theorem Zde:∀ (fuel:Nat),
  (∀ (t:TypeId) (zs:List DV),Z1M P fuel t zs=true→∀ D,fuel≤D→∀ (xs ys:List DV) (r:Bool) (vx vy:List Value) (w:World),Zg xs ys=some r→Z9 zs xs=true→Z9 zs ys=true→Zd β G xs vx→Zd β G ys vy →
   (Op.equalIn D t (YS P t vx) (YS P t vy)).run P w = .ok r w) ∧
  (∀ (fs:List Field) (off:Nat) (zs:List DV),Z1W P fuel fs off zs=true→∀ D,fuel≤D→∀ (xs ys:List DV) (r:Bool) (vx vy:List Value) (w:World),Zg (xs.drop off) (ys.drop off)=some r→Z9 zs xs=true→Z9 zs ys=true→Zd β G xs vx→Zd β G ys vy →
   (Op.eqFields D vx.toArray vy.toArray fs).run P w = .ok r w)
 | 0=>by
  refine ⟨fun t n h=>by simp [Z1M] at h,fun fs off zs h D _ xs ys r vx vy w he hx hy hrx hry => ?_⟩
  cases fs with
  | cons f fs=>simp [Z1W] at h
  | nil =>
   simp only [Z1W] at h
   have:=Nat.le_of_ble_eq_true h
   rw [List.drop_eq_nil_of_le (by rw [ZS hx];exact this),List.drop_eq_nil_of_le (by rw [ZS hy];exact this)] at he
   simp only [Zg,Option.some.injEq] at he
   subst he;rfl
 | fuel+1=>by
  obtain ⟨ih1,ih2⟩:=Zde fuel
  refine ⟨fun t zs h D hD xs ys r vx vy w he hx hy hrx hry => ?_,fun fs off zs h D hD xs ys r vx vy w he hx hy hrx hry => ?_⟩
  ·obtain ⟨D,rfl⟩:∃ D',D=D'+1:=⟨D-1,by omega⟩
   simp only [Z1M] at h
   have one:∀ {zs:List DV} {vz:List Value},zs.length=1→Zd β G zs vz→∃ z v,zs=[z]∧vz=[v]∧Rep β G z v:=fun {zs vz} hz hr=>by
    obtain ⟨z,rfl⟩:=List.length_eq_one_iff.1 hz
    obtain ⟨v,vs',rfl,h1,h2⟩:=Zc.1 hr
    rw [Zo] at h2;subst h2
    exact ⟨z,v,rfl,rfl,h1⟩
   split at h
   ·rename_i hu
    obtain ⟨x,u,rfl,rfl,h1⟩:=one (ZS hx) hrx
    obtain ⟨y,v,rfl,rfl,h2⟩:=one (ZS hy) hry
    have hv:∀ v:Value,YS P t [v]=v:=fun v=>by unfold YS;rw [hu];rfl
    rw [hv,hv]
    cases x<;>simp only [Z9,Bool.false_eq_true] at hx
    cases y<;>simp only [Z9,Bool.false_eq_true] at hy
    simp only [Zg,Option.bind_some,Bool.and_true,Option.some.injEq] at he
    rw [ZK] at h1 h2;subst h1 h2 he
    simp [Op.equalIn,Go.run_underlying hu]
   ·rename_i hu
    obtain ⟨x,u,rfl,rfl,h1⟩:=one (ZS hx) hrx
    obtain ⟨y,v,rfl,rfl,h2⟩:=one (ZS hy) hry
    have hv:∀ v:Value,YS P t [v]=v:=fun v=>by unfold YS;rw [hu];rfl
    rw [hv,hv]
    cases x<;>simp only [Z9,Bool.false_eq_true] at hx
    cases y<;>simp only [Z9,Bool.false_eq_true] at hy
    simp only [Zg,Option.bind_some,Bool.and_true] at he
    obtain ⟨hq,he⟩:=Z2 he
    have hq:=eq_of_beq hq
    simp only [Option.some.injEq] at he
    rw [ZH] at h1 h2;subst h1 h2 he hq
    simp [Op.equalIn,Go.run_underlying hu]
   ·rename_i hu
    obtain ⟨x,u,rfl,rfl,h1⟩:=one (ZS hx) hrx
    obtain ⟨y,v,rfl,rfl,h2⟩:=one (ZS hy) hry
    have hv:∀ v:Value,YS P t [v]=v:=fun v=>by unfold YS;rw [hu];rfl
    rw [hv,hv]
    cases x<;>simp only [Z9,Bool.false_eq_true] at hx
    cases y<;>simp only [Z9,Bool.false_eq_true] at hy
    simp only [Zg,Option.bind_some,Bool.and_true,Option.some.injEq] at he
    rw [YW] at h1 h2;subst h1 h2 he
    simp [Op.equalIn,Go.run_underlying hu]
   ·rename_i _ fs hu
    simp only [Bool.and_eq_true,Bool.not_eq_true'] at h
    have hfs:P.fieldsOf t=fs:=by unfold Program.fieldsOf;rw [hu]
    have hv:∀ vs,YS P t vs = .agg vs.toArray:=fun vs=>by unfold YS;rw [hu]
    rw [hv,hv,run_equalIn_struct w D t _ _ (by rw [hfs];exact hu) h.1,hfs]
    exact ih2 fs.toList 0 _ h.2 D (by omega) xs ys r vx vy w (by simpa using he) hx hy hrx hry
   ·rename_i m e hu
    split at h
    ·rename_i i hi
     rw [Bool.and_eq_true] at h
     obtain ⟨hlen,hall⟩:=h
     have hlen:=Nat.eq_of_beq_eq_true hlen
     have hv:∀ vs,YS P t vs = .agg vs.toArray:=fun vs=>by unfold YS;rw [hu]
     have hcel:P.cellsOf e=i.size:=by simp [Program.cellsOf,hi]
     rw [hv,hv,run_equalIn_array (w:=w) D _ _ hu hi,hcel,List.range_eq_range']
     have hkx:=ZS hx
     have hky:=ZS hy
     have hlx:=ZF hrx
     have hly:=ZF hry
     have items:∀ (c k:Nat) (r:Bool) (w:World),k+c=m→Zg (xs.drop (k*i.size)) (ys.drop (k*i.size))=some r→(Op.eqItems D e i.size vx.toArray vy.toArray (List.range' k c)).run P w = .ok r w:=by
      intro c
      induction c with
      | zero =>
       intro k r w hk he
       have:k=m:=by omega
       subst this
       rw [List.drop_eq_nil_of_le (by omega),List.drop_eq_nil_of_le (by omega)] at he
       simp only [Zg,Option.some.injEq] at he
       subst he;rfl
      | succ c ihc =>
       intro k r w hk he
       obtain ⟨r1,r2,e1,e2,rfl⟩:=Z1i i.size he
       have hf1:=(List.all_eq_true.1 hall) k (List.mem_range.2 (by omega))
       have hkm:k*i.size+i.size≤m*i.size:=by
        have:=Nat.mul_le_mul_right i.size (show k+1≤m by omega)
        rwa [Nat.add_mul,Nat.one_mul] at this
       have g1:=ih1 e _ hf1 D (by omega) _ _ r1 _ _ w e1 (Yf i.size (Yf (k*i.size) hx).2).1 (Yf i.size (Yf (k*i.size) hy).2).1 (Yt i.size (Ys (k*i.size) hrx)) (Yt i.size (Ys (k*i.size) hry))
       rw [List.drop_drop,List.drop_drop,show k*i.size+i.size=(k+1)*i.size by rw [Nat.add_mul,Nat.one_mul]] at e2
       have g2:=ihc (k+1) r2 w (by omega) e2
       have p1:=Z4B hi (by simp;omega) hf1 (vs:=vx) (off:=k*i.size) (by omega) w
       have p2:=Z4B hi (by simp;omega) hf1 (vs:=vy) (off:=k*i.size) (by omega) w
       rw [List.range'_succ]
       simp only [Op.eqItems,Sem.run_bind,p1,p2,Result.andThen,g1]
       cases r1
       ·simp
       ·simpa using g2
     exact items m 0 r w (by omega) (by simpa using he)
    ·cases h
   ·cases h
  ·cases fs with
   | nil =>
    simp only [Z1W] at h
    have:=Nat.le_of_ble_eq_true h
    rw [List.drop_eq_nil_of_le (by rw [ZS hx];exact this),List.drop_eq_nil_of_le (by rw [ZS hy];exact this)] at he
    simp only [Zg,Option.some.injEq] at he
    subst he;rfl
   | cons f fs =>
    simp only [Z1W,Bool.and_eq_true,bne_iff_ne,ne_eq] at h
    obtain ⟨⟨hname,hoff⟩,h⟩:=h
    have hoff:f.offset=off:=Nat.eq_of_beq_eq_true hoff
    split at h
    ·rename_i i hi
     rw [Bool.and_eq_true,Bool.and_eq_true] at h
     obtain ⟨⟨hle,hf1⟩,hf2⟩:=h
     have hle:=Nat.le_of_ble_eq_true hle
     have hlx:=ZF hrx
     have hly:=ZF hry
     have hkx:=ZS hx
     have hky:=ZS hy
     obtain ⟨r1,r2,e1,e2,rfl⟩:=Z1i i.size he
     have g1:=ih1 f.type _ hf1 D (by omega) _ _ r1 _ _ w e1 (Yf i.size (Yf off hx).2).1 (Yf i.size (Yf off hy).2).1 (Yt i.size (Ys off hrx)) (Yt i.size (Ys off hry))
     rw [List.drop_drop,List.drop_drop] at e2
     have g2:=ih2 fs (off+i.size) zs hf2 D (by omega) xs ys r2 vx vy w e2 hx hy hrx hry
     have hzl:((zs.drop off).take i.size).length=i.size:=by simp;omega
     have p1:=Z4B hi hzl hf1 (vs:=vx) (off:=off) (by omega) w
     have p2:=Z4B hi hzl hf1 (vs:=vy) (off:=off) (by omega) w
     simp only [Op.eqFields,if_pos hname,hoff,Sem.run_bind,p1,p2,Result.andThen,g1]
     cases r1
     ·simp
     ·simpa using g2
    ·cases h
def Z9y (P:Program):Nat→TypeId→Bool
 | 0,_=>false
 | d+1,t=>match P.underlying t with
  | some .bool|some (.int _)|some .string=>true
  | some (.struct fs)=>fs.toList.all fun f=>Z9y P d f.type
  | _=>false
theorem Zbq (b:Bool):∀ (n:Nat) (t:TypeId),Z9y P n t=true→∀ (fuel:Nat) (zs:List DV),Z1M P fuel t zs=true→∀ (d:Nat) (xs:List DV) (vx:List Value) (w:World),Z9 zs xs=true→Zd β G xs vx →
  (Instr.checkKey b (d+n) t (YS P t vx)).run P w = .ok () w
 | 0,_,h=>by simp [Z9y] at h
 | n+1,t,h=>fun fuel zs hf d xs vx w hk hr=>by
  cases fuel with
  | zero=>simp [Z1M] at hf
  | succ fuel =>
  unfold Z9y at h
  simp only [Z1M] at hf
  rw [show d+(n+1)=(d+n)+1 from rfl]
  have one:∀ {zs:List DV},zs.length=1→Z9 zs xs=true→∃ x v,xs=[x]∧vx=[v]∧Rep β G x v:=fun {zs} hz hk=>by
   have hl:=ZS hk
   rw [hz] at hl
   obtain ⟨x,rfl⟩:=List.length_eq_one_iff.1 hl
   obtain ⟨v,vs',rfl,h1,h2⟩:=Zc.1 hr
   rw [Zo] at h2;subst h2
   exact ⟨x,v,rfl,rfl,h1⟩
  cases hu:P.underlying t with
  | none=>rw [hu] at h;cases h
  | some dd =>
   rw [hu] at h hf
   cases dd with
   | bool=>exact Z1s hu trivial _
   | int k=>exact Z1s hu trivial _
   | string=>exact Z1s hu trivial _
   | struct fs =>
    simp only [Bool.and_eq_true,Bool.not_eq_true',List.all_eq_true] at hf h
    have hv:YS P t vx = .agg vx.toArray:=by unfold YS;rw [hu]
    rw [hv,Instr.checkKey]
    simp only [Sem.run_bind,run_underlying hu,Result.andThen_ok]
    rw [←Array.forIn_toList]
    have main:∀ (L:List Field) (fuel off:Nat),(∀ f∈L,Z9y P n f.type=true)→Z1W P fuel L off zs=true →
      (forIn L PUnit.unit (fun f (_ : PUnit) => (if f.name ≠ "_" then do
       Instr.checkKey b (d+n) f.type (←part f.type vx.toArray f.offset)
       pure (ForInStep.yield PUnit.unit) else pure (ForInStep.yield PUnit.unit):Sem (ForInStep PUnit)))).run P w = .ok PUnit.unit w:=by
     intro L
     induction L with
     | nil=>intro fuel off _ _;rfl
     | cons f L ih =>
      intro fuel off hL hfl
      cases fuel with
      | zero=>simp [Z1W] at hfl
      | succ fuel =>
       simp only [Z1W,Bool.and_eq_true,bne_iff_ne,ne_eq] at hfl
       obtain ⟨⟨hname,hoff⟩,hfl⟩:=hfl
       have hoff:f.offset=off:=Nat.eq_of_beq_eq_true hoff
       split at hfl
       ·rename_i i hi
        rw [Bool.and_eq_true,Bool.and_eq_true] at hfl
        obtain ⟨⟨hle,hf1⟩,hf2⟩:=hfl
        have hle:=Nat.le_of_ble_eq_true hle
        have hlx:=ZF hr
        have hkx:=ZS hk
        have hzl:((zs.drop off).take i.size).length=i.size:=by simp;omega
        have p1:=Z4B hi hzl hf1 (vs:=vx) (off:=off) (by omega) w
        have p2:=Zbq b n f.type (hL f (by simp)) fuel _ hf1 d _ _ w (Yf i.size (Yf off hk).2).1 (Yt i.size (Ys off hr))
        simp only [List.forIn_cons,Sem.run_bind,hname,ne_eq,not_false_eq_true,if_true,Result.andThen_ok,hoff,p1,p2,Sem.run_pure]
        exact ih fuel (off+i.size) (fun g hg=>hL g (by simp [hg])) hf2
       ·cases hfl
    have hm:=main fs.toList fuel 0 h hf.2
    simp only [ne_eq,ite_not] at hm ⊢
    simp at hm ⊢
    rw [hm]
    rfl
   | _=>cases h
end
end Go.Ab
namespace Go.Ab
open Go.RowKit
def Zge:DV→Value→Bool
 | .bool a,.bool b=>a==b
 | .int k a,.int k' b=>k==k'&&a==b
 | .str a,.string b=>a==b
 | .nilp,.pointer none=>true
 | .nils,.slice none 0 0=>true
 | .nilmap,.map none=>true
 | .nilfn,.nilFunc=>true
 | .nilif,.nilIface=>true
 | _,_=>false
def ZdF:List DV→List Value→Bool
 | [],[]=>true
 | d::ds,v::vs=>Zge d v&&ZdF ds vs
 | _,_=>false
theorem ZbJ {d:DV} {v:Value} (h:Zge d v=true):(∀ β G,Rep β G d v)∧Zb d=true∧Zz d=true:=by
 unfold Zge at h
 split at h
 ·have:=eq_of_beq h;subst this;exact ⟨fun _ _=>ZK.2 rfl,rfl,rfl⟩
 ·rw [Bool.and_eq_true] at h
  have h1:=eq_of_beq h.1
  have h2:=eq_of_beq h.2
  subst h1 h2;exact ⟨fun _ _=>ZH.2 rfl,rfl,rfl⟩
 ·rename_i a b
  rw [Z7T] at h
  have:=of_decide_eq_true h
  subst this;exact ⟨fun _ _=>YW.2 rfl,rfl,rfl⟩
 ·exact ⟨fun _ _=>Zfl.2 rfl,rfl,rfl⟩
 ·exact ⟨fun _ _=>Z2f.2 rfl,rfl,rfl⟩
 ·exact ⟨fun _ _=>Z5K.2 rfl,rfl,rfl⟩
 ·exact ⟨fun _ _=>by unfold Rep;rfl,rfl,rfl⟩
 ·exact ⟨fun _ _=>by unfold Rep;rfl,rfl,rfl⟩
 ·cases h
theorem Z9J:∀ {ds:List DV} {vs:List Value},ZdF ds vs=true→(∀ β G,Zd β G ds vs)∧Za ds=true∧ds.all Zz=true
 | [],[],_=>⟨fun _ _=>Zo.2 rfl,rfl,rfl⟩
 | d::ds,v::vs,h=>by
  simp only [ZdF,Bool.and_eq_true] at h
  obtain ⟨h1,h2,h3⟩:=ZbJ h.1
  obtain ⟨h4,h5,h6⟩:=Z9J h.2
  exact ⟨fun β G=>Zc.2 ⟨v,vs,rfl,h1 β G,h4 β G⟩,by simp [Za,h2,h5],by simp only [List.all_cons,h3,h6,Bool.and_self]⟩
 | [],_::_,h=>by cases h
 | _::_,[],h=>by cases h
def Zaw:List (Nat×Nat)→List (Nat×Nat)→Bool
 | [],[]=>true
 | (a,b)::l,(c,d)::m=>Nat.beq a c&&Nat.beq b d&&Zaw l m
 | _,_=>false
theorem Z9C:∀ {l m:List (Nat×Nat)},Zaw l m=true→l=m
 | [],[],_=>rfl
 | (a,b)::l,(c,d)::m,h=>by
  simp only [Zaw,Bool.and_eq_true] at h
  have h1:=Nat.eq_of_beq_eq_true h.1.1
  have h2:=Nat.eq_of_beq_eq_true h.1.2
  have h3:=Z9C h.2
  subst h1 h2 h3;rfl
 | [],_::_,h=>by cases h
 | _::_,[],h=>by cases h
def Zgq (P:Program) (t:TypeId) (k:TK):Bool :=
 match k,P.underlying t with
 | .bool,some .bool=>true
 | .int k,some (.int k')=>k==k'
 | .string,some .string=>true
 | .struct fs,some (.struct fields)=>Zaw (fields.toList.map fun f=>(f.type,f.offset)) fs&&(fields.toList.mapM (fun f=>(P.info? f.type).map fun i=>(f.offset,i.size))).isSome
 | .array n e,some (.array n' e')=>Nat.beq n n'&&Nat.beq e e'
 | .slice e,some (.slice e')=>Nat.beq e e'
 | .map k e,some (.map k' e')=>Nat.beq k k'&&Nat.beq e e'
 | .ptr e,some (.pointer e')=>Nat.beq e e'
 | .func,some (.func _ _ _)=>true
 | .iface,some (.interface _)=>true
 | _,_=>false
def Zdt (P:Program) (t:TypeId) (m:String) (g:Nat):Bool:=match P.info? t with
 | some i=>(match i.methods.find? (·.name==m) with
  | some mt=>mt.path.isEmpty&&(match mt.func,P.underlying t with
   | some (f,pr),some (.pointer _)=>Nat.beq f g&&pr
   | some (f,pr),some _=>Nat.beq f g && !pr
   | _,_=>false)
  | none=>false)
 | none=>false
def Zan (P:Program) (t:TypeId):List (String×Nat)→Bool
 | []=>true
 | (m,g)::l=>Zdt P t m g&&Zan P t l
theorem Zf5 {P:Program} {t:TypeId} {m:String} {g:Nat} (h:Zdt P t m g=true) (v:Value) (args:Array Value) (w:World):(callMethod (.iface t v) m args).run P w=(callFunc g (#[v]++args)).run P w:=by
 unfold Zdt at h
 split at h
 ·rename_i i hi
  split at h
  ·rename_i mt hm
   simp only [Bool.and_eq_true] at h
   obtain ⟨hp,h⟩:=h
   have hpath:mt.path.toList=[]:=by
    have:mt.path = #[]:=by simpa using hp
    rw [this]
   have hmeth:∀ fuel,(method (fuel+1) t v m).run P w = .ok (g,v) w:=fun fuel=>by
    unfold method
    rw [Sem.run_bind]
    have hti:(typeInfo t).run P w = .ok i w:=by simp [typeInfo,hi]
    rw [hti]
    simp only [Result.andThen_ok,hm]
    rw [hpath]
    simp only [follow,pure_bind]
    split at h
    ·rename_i f pr e hfn hu
     simp only [Bool.and_eq_true] at h
     have hg:=Nat.eq_of_beq_eq_true h.1
     rw [hfn]
     simp only
     rw [Sem.run_bind]
     unfold receiverAt
     rw [Sem.run_bind,Go.run_underlying hu w]
     simp only [Result.andThen_ok,h.2,Place.get,Sem.run_pure,hg]
    ·rename_i f pr dd hne hfn hu
     simp only [Bool.and_eq_true,Bool.not_eq_true'] at h
     have hg:=Nat.eq_of_beq_eq_true h.1
     rw [hfn]
     simp only
     rw [Sem.run_bind]
     unfold receiverAt
     rw [Sem.run_bind,Go.run_underlying hu w]
     cases dd<;>first|(simp only [Result.andThen_ok,h.2,Place.get,Sem.run_pure,hg];done)|exact absurd rfl (hne _)
    ·cases h
   unfold callMethod
   simp only
   rw [Sem.run_bind,show (program).run P w = .ok P w from rfl]
   simp only [Result.andThen_ok]
   rw [Sem.run_bind,show P.types.size+Made.depth=(P.types.size+99)+1 from rfl,hmeth]
   rfl
  ·cases h
 ·cases h
theorem Z9w {P:Program} {t:TypeId}:∀ {l:List (String×Nat)},Zan P t l=true→∀ {m:String} {g:Nat},Z6L m l=some g→Zdt P t m g=true
 | [],_,_,_,h=>by cases h
 | (n,f)::l,hl,m,g,h=>by
  simp only [Zan,Bool.and_eq_true] at hl
  unfold Z6L at h
  cases hq:(n==m) with
  | true =>
   rw [hq] at h
   simp only [cond_true,Option.some.injEq] at h
   have:=eq_of_beq hq
   subst this h
   exact hl.1
  | false=>rw [hq] at h;exact Z9w hl.2 h
def Zfz (P:Program) (t:TypeId) (ti:TI):Bool :=
 (match P.info? t with
  | some i=>Nat.beq i.size ti.size&&Nat.beq i.bytes ti.bytes&&(match i.zero with
   | some z=>Nat.beq z.cells.size ti.size&&ZdF ti.zero z.cells.toList&&(bif ti.isAgg then (match z with | .agg _=>true|_=>false) else (match ti.zero with|[d]=>Zge d z|_=>false))
   | none=>false)
  | none=>false) &&
 (!ti.eqOk||(Z1M P 64 t ti.zero&&(match P.underlying t with|some (.struct _)=>true|some (.array _ _)=>true|_=>false) && !P.eqGuardType P.depth t)) &&
 Zgq P t ti.k&&(!ti.keyOk||(Z9y P 64 t&&Z1M P 64 t ti.zero&&(match P.underlying t with|some (.struct _)=>true|_=>false)))&&Zan P t ti.meths
theorem Zgm {P:Program} {t:TypeId} {ti:TI} (h:Zfz P t ti=true):ZN P t ti:=by
 unfold Zfz at h
 simp only [Bool.and_eq_true] at h
 obtain ⟨⟨⟨⟨h1,h2⟩,h3⟩,h4⟩,h5⟩:=h
 cases hi:P.info? t with
 | none=>rw [hi] at h1;cases h1
 | some i =>
  rw [hi] at h1
  simp only [Bool.and_eq_true] at h1
  obtain ⟨⟨a1,a2⟩,a3⟩:=h1
  cases hz:i.zero with
  | none=>rw [hz] at a3;cases a3
  | some z =>
   rw [hz] at a3
   simp only [Bool.and_eq_true] at a3
   obtain ⟨⟨b1,b2⟩,b3⟩:=a3
   obtain ⟨c1,c2,c3⟩:=Z9J b2
   refine ⟨⟨i,z,hi,Nat.eq_of_beq_eq_true a1,Nat.eq_of_beq_eq_true a2,hz,Nat.eq_of_beq_eq_true b1,c1⟩,c3,fun he => ?_,c2,fun hna d hd i' z' hi' hz' β G => ?_,fun hna => ?_,fun ha i' z' hi' hz' => ?_,fun m g hm v args w=>Zf5 (Z9w h5 hm) v args w,fun hko xs hkx b β G vx w hrx => ?_,?_⟩
   ·rw [he] at h2
    simp only [Bool.not_true,Bool.false_or,Bool.and_eq_true,Bool.not_eq_true'] at h2
    obtain ⟨⟨d1,d2⟩,d3⟩:=h2
    refine ⟨fun xs ys r hr hx hy β G vx vy w hrx hry => ?_,d3⟩
    have hv:∀ vs,YS P t vs = .agg vs.toArray:=fun vs=>by
     unfold YS
     cases hu:P.underlying t with
     | none=>rw [hu] at d2;cases d2
     | some dd=>rw [hu] at d2;cases dd<;>first|rfl|cases d2
    have:=(Zde (P:=P) (β:=β) (G:=G) 64).1 t ti.zero d1 10000 (by omega) xs ys r vx vy w hr hx hy hrx hry
    rw [hv,hv] at this
    exact this
   ·rw [hi'] at hi;cases hi
    rw [hz'] at hz;cases hz
    rw [hna,hd] at b3
    exact (ZbJ (by simpa using b3)).1 β G
   ·rw [hna] at b3
    simp only [cond_false] at b3
    split at b3
    ·rename_i e;rw [e];rfl
    ·cases b3
   ·rw [hi'] at hi;cases hi
    rw [hz'] at hz;cases hz
    rw [ha] at b3
    simp only [cond_true] at b3
    split at b3
    ·exact ⟨_,rfl⟩
    ·cases b3
   ·rw [hko] at h4
    simp only [Bool.not_true,Bool.false_or,Bool.and_eq_true] at h4
    obtain ⟨⟨e1,e2⟩,e3⟩:=h4
    have hv:YS P t vx = .agg vx.toArray:=by
     unfold YS
     split at e3
     ·rename_i e;rw [e]
     ·cases e3
    have:=Zbq (P:=P) (β:=β) (G:=G) b 64 t e1 64 ti.zero e2 9936 xs vx w hkx hrx
    rw [hv] at this
    exact this
   ·unfold Zgq at h3
    cases hu:P.underlying t with
    | none=>rw [hu] at h3;cases hk:ti.k<;>rw [hk] at h3<;>cases h3
    | some dd =>
     rw [hu] at h3
     cases hk:ti.k with
     | bool=>rw [hk] at h3;cases dd<;>first|rfl|cases h3
     | int k=>rw [hk] at h3;cases dd<;>first|(cases eq_of_beq h3;rfl)|cases h3
     | string=>rw [hk] at h3;cases dd<;>first|rfl|cases h3
     | struct fs =>
      rw [hk] at h3
      cases dd with
      | struct fields =>
       simp only [Bool.and_eq_true] at h3
       exact ⟨fields,rfl,Z9C h3.1,Option.isSome_iff_exists.1 h3.2⟩
      | _=>cases h3
     | array n e =>
      rw [hk] at h3
      cases dd with
      | array n' e' =>
       simp only [Bool.and_eq_true] at h3
       have h4:=Nat.eq_of_beq_eq_true h3.1
       have h5:=Nat.eq_of_beq_eq_true h3.2
       subst h4 h5;rfl
      | _=>cases h3
     | slice e =>
      rw [hk] at h3
      cases dd with
      | slice e' =>
       have h5:=Nat.eq_of_beq_eq_true h3
       subst h5;rfl
      | _=>cases h3
     | map k e =>
      rw [hk] at h3
      cases dd with
      | map n' e' =>
       simp only [Bool.and_eq_true] at h3
       have h4:=Nat.eq_of_beq_eq_true h3.1
       have h5:=Nat.eq_of_beq_eq_true h3.2
       subst h4 h5;rfl
      | _=>cases h3
     | ptr e =>
      rw [hk] at h3
      cases dd with
      | pointer e' =>
       have h5:=Nat.eq_of_beq_eq_true h3
       subst h5;rfl
      | _=>cases h3
     | func=>rw [hk] at h3;cases dd<;>first|exact ⟨_,_,_,rfl⟩|cases h3
     | iface=>rw [hk] at h3;cases dd<;>first|exact ⟨_,rfl⟩|cases h3
     | other=>rw [hk] at h3;cases h3
def Zcg {α:Type} (p:Nat→α→Bool) (t:Tr α):Bool:=(t.tm (fun k x=>bif p k x then some (none:Option α) else none) 1 0).isSome
theorem Z5Q {α:Type} {p:Nat→α→Bool} {t:Tr α} (h:Zcg p t=true) {k:Nat} {x:α} (hk:t.get k=some x):p k x=true:=by
 unfold Zcg at h
 obtain ⟨t',ht⟩:=Option.isSome_iff_exists.1 h
 rcases Tr.tm_get1 ht k with ⟨h1,_⟩|⟨x',y,h1,h2,_⟩
 ·rw [hk] at h1;cases h1
 ·rw [hk] at h1;cases h1
  exact (Z2 h2).1
theorem Ze1 {P : Program} {f : FuncId} {fn : Func} {c : Code} (hf : P.funcs[f]? = some fn) (hb : fn.body = some c) (hn : (fn.name == "runtime.NumGoroutine") = false) : Z7M P f := fun args w => by
 have hn' : ¬ fn.name = "runtime.NumGoroutine" := by simpa using hn
 unfold callFunc
 simp [hf,hb,hn']
def Zew {α:Type} (p:Nat→α→Prop):Tr α→Nat→Nat→Prop
 | .leaf,_,_=>True
 | .node l v r,a,b=>Zew p l (2*a) (a+b)∧(match v with|some x=>p b x|none=>True)∧Zew p r (2*a) (2*a+b)
theorem Z7P {α:Type} {p:Nat→α→Prop}:∀ {t:Tr α} {a b:Nat},Zew p t a b→∀ {k:Nat} {x:α},t.get k=some x→p (a*k+b) x
 | .leaf,_,_,_,k,x,h=>by cases h
 | .node l v r,a,b,h,k,x,hk=>by
  rw [Tr.get_node] at hk
  obtain ⟨h1,h2,h3⟩:=h
  by_cases e0:k=0
  ·rw [if_pos e0] at hk;subst e0 hk;simpa using h2
  ·rw [if_neg e0] at hk
   by_cases e1:k % 2=1
   ·rw [if_pos e1] at hk
    have:=Z7P h1 hk
    rwa [show 2*a*(k / 2)+(a+b)=a*k+b by
     have:k=2*(k / 2)+1:=by omega
     generalize k / 2=m at this;subst this
     rw [Nat.mul_add,←Nat.mul_assoc,Nat.mul_comm a 2];omega] at this
   ·rw [if_neg e1] at hk
    have:=Z7P h3 hk
    rwa [show 2*a*(k / 2-1)+(2*a+b)=a*k+b by
     have:k=2*(k / 2-1)+2:=by omega
     generalize k / 2-1=m at this;subst this
     rw [Nat.mul_add,←Nat.mul_assoc,Nat.mul_comm a 2];omega] at this
theorem ZdQ {α:Type} {p:Nat→α→Prop} {t:Tr α} (h:Zew p t 1 0) {k:Nat} {x:α} (hk:t.get k=some x):p k x:=by
 have:=Z7P h hk;simpa using this
end Go.Ab
