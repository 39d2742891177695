/- What the code of the program comes to on plain values. -/
import Derived.Test.YthkpjcjiolelnaaGreatDoorA2
import Derived.RangeFuncIn
import Derived.LoopNIn
import Derived.Maps.RangeRun
import Derived.Laws.StructEq
import Derived.ChangeKeysEq
import Derived.Lib.ItoaNum
import Derived.Lib.AtoiAll
import Derived.Lib.Split
import Derived.Lib.CutLaws
import Derived.Lib.ConvBytes
import Derived.Lib.LaidTab
import Derived.Deep.Draws
import Derived.Sort.Grow
set_option linter.unusedSectionVars false
set_option linter.unusedVariables false
set_option linter.unusedSimpArgs false
namespace Go.Ab
open Go.RowKit
section
variable {P:Program} {E:Env} {w0:World} {G0:Aj} {outer:CW} {own:List Nat} {D:CW} {V AU:Nat} {a:Act} {w:World} {β:BB} {G:Aj} {ro:Option Nat} {n:Nat} {h:Nat->Option A8}
theorem FQ (a:Act) (d t:Nat) (v:Value) (b:d<a.tmps.size):(a.put (some d) v).eval (.tmp t)=if t=d then v else a.eval (.tmp t):=by
 simp only[Act.put,Act.eval,Array.getD_eq_getD_getElem?,Array.getElem?_setIfInBounds]
 by_cases e:t=d
 ·subst e;simp[b]
 ·have:¬d=t:=fun q=>e q.symm;simp[e,this]
theorem Ek (a:Act) (d:Nat) (v:Value):(a.put (some d) v).tmps.size=a.tmps.size:=by simp[Act.put]
theorem KE {ρ:Nat->Option AB} (hf:Dq β G ρ a.tmps) {d:Nat} (hn:ρ d=none) (v:Value):Dq β G ρ (a.put (some d) v).tmps:=fun t x c=>by
 obtain⟨u,f,e⟩:=hf t x c;have b:¬d=t:=fun q=>by rw[q]at hn;rw[hn]at c;cases c
 exact⟨u,by simp only[Act.put,Array.getElem?_setIfInBounds,if_neg b];exact f,e⟩
theorem KA {ops:Array Oper} {Q:Exit->Act->World->Prop} {o:Oper} {os:List Oper} {v:Value} {w':World} (e:o.guard=none) (b:∀c,o.op≠.defer c) (AH:(execOp a.eval o).run P w=.ok (.value v) w')
  (d:wpListIn (Fg ro) n P ops Q os (a.put o.dst v) w'):wpListIn (Fg ro) n P ops Q (o::os) a w:=by
 simp only[wpListIn];have:Region.wanted o (yielded ops a.tmps)=true:=by simp[Region.wanted,e]
 rw[this];simp only[if_true];refine⟨fun f _=>trivial,?_⟩;rw[Oper.semAt_eq _ _ _ b,AH,Oper.uponIn_value];exact d
theorem Am9 {o:Oper} {d i:Nat} (h:PB o=some (d,i)):o.guard=none/\o.dst=some d/\o.op=.next (.tmp i) false:=by
 unfold PB at h;split at h
 ·rename_i a c b;cases h;exact⟨a,c,b⟩
 ·cases h
theorem AaW {o:Oper} {d i:Nat} (h:KM o=some (d,i)):o.guard=none/\o.dst=some d/\o.op=.extract (.tmp i) 0:=by
 unfold KM at h;split at h
 ·rename_i a c b;cases h;exact⟨a,c,b⟩
 ·cases h
theorem AmR {o:Oper} {d i:Nat} (h:PK o=some (d,i)):o.guard=none/\o.dst=some d/\o.op=.entry (.tmp i):=by
 unfold PK at h;split at h
 ·rename_i a c b;cases h;exact⟨a,c,b⟩
 ·cases h
theorem YR {o:Oper} {d i:Nat} (h:Jj o=some (d,i)):o.guard=none/\o.dst=some d/\(o.op=.move (.tmp i)\/o.op=.assign (.tmp i)):=by
 unfold Jj at h;split at h
 ·rename_i a c b;cases h;exact⟨a,c,.inl b⟩
 ·rename_i a c b;cases h;exact⟨a,c,.inr b⟩
 ·cases h
theorem AnE {o:Oper} {d:Nat} {t:TypeId} {x:Nat} (h:ZQ o=some (d,t,x)):o.guard=none/\o.dst=some d/\∃AP,o.op=.buildSlice t 1 AP/\AP.toList=[(0,.tmp x)]:=by
 unfold ZQ at h;split at h
 ·rename_i c a e;split at h
  ·rename_i b;cases h;exact⟨c,a,_,e,b⟩
  ·cases h
 ·cases h
theorem AmQ {o:Oper} {d:Nat} {t:TypeId} {s x:Nat} (h:Yc o=some (d,t,s,x)):o.guard=none/\o.dst=some d/\∃c,o.op=.call c/\c.callee=.builtin .append/\c.args.toList=[.tmp s,.tmp x]/\c.argTypes.toList=[t,t]:=by
 unfold Yc at h;split at h
 ·rename_i g b j;split at h
  ·rename_i e i a;obtain⟨f,h⟩:=Ad h;cases h;obtain rfl:=Al f;exact⟨g,b,_,j,e,i,a⟩
  ·cases h
 ·cases h
theorem Yh {o:Oper} {i:Nat} (h:o.op=.move (.tmp i)\/o.op=.assign (.tmp i)):(execOp a.eval o).run P w=.ok (.value (a.eval (.tmp i))) w:=by
 unfold execOp;rcases h with h|h<;>rw[h]<;>simp
theorem mD {o:Oper} {i:Nat} {vs:Array Value} {v:Value} (h:o.op=.extract (.tmp i) 0) (b:a.eval (.tmp i)=.tuple vs) (hv:vs[0]? = some v):(execOp a.eval o).run P w=.ok (.value v) w:=by
 refine ET (by unfold execOp;rw[h]) ?_
 simp[Instr.extract,b,hv]
theorem lG:∀{es:List (AB×AB)} {j:List Int},Mb es=some j->j.length=es.length/\∀(i:Nat) (d:AB×AB),es[i]? = some d->d.1=.int .i64 (j.getD i 0)
 | [],j,a=>by
  simp only[Mb,Bc]at a;subst a;exact⟨rfl,fun i e h=>by simp at h⟩
 | (k,v)::es,j,a=>by
  unfold Mb at a;split at a
  ·rename_i b;cases b
  ·rename_i z u q b;cases b;obtain⟨l,g,a⟩:=AD a;cases a;obtain⟨f,c⟩:=lG g;refine⟨by simp[f],fun i e AA=>?_⟩
   cases i with
   | zero=>simp at AA;subst AA;rfl
   | succ i=>simpa using c i e (by simpa using AA)
  ·cases a
theorem Aav {d:Array MapEntry} {j:Nat} (hs:Acv d j) {e:MapEntry} (c:e∈d.toList):e.born<d.size/\d.toList[e.born]? = some e:=by
 obtain⟨i,AA,rfl⟩:=List.mem_iff_getElem.1 c;have b:(d.toList.map (·.born))[i]? = some (d.toList[i]).born:=by rw[List.getElem?_map,List.getElem?_eq_getElem AA];rfl
 rw[hs.1]at b;have a:i<d.size:=by simpa using AA
 rw[List.getElem?_range a]at b;have hb:(d.toList[i]).born=i:=by simpa using b.symm
 rw[hb];exact⟨a,List.getElem?_eq_getElem AA⟩
def PY (e:TypeId) (d:List Int) (seen:List Nat):Option A8:=match seen with
 | []=>none
 | _::_=>some (.row e (seen.map fun j=>[AB.int .i64 (d.getD j 0)]) 0 (seen.length-1))
def HM (h:Nat->Option A8) (k m n nx:Nat) (e:TypeId) (d:List Int) (seen:List Nat):Nat->Option A8:=fun i =>
 if i=k then some (.Dg m n seen)else if i=nx then PY e d seen else h i
def SC (nx:Nat) (seen:List Nat):AB:=match seen with|[]=>.Aq|_::_=>.rs nx (seen.length-1)
structure QA (E:Env) (w0:World) (G0:Aj) (outer:CW) (AU:Nat) (own:List Nat) (h:Nat->Option A8) (k m N nx:Nat) (e:TypeId) (zs:List Int) (it l:Nat) (bf:Tr AB) (β0:BB) (Gx:Aj) (seen:List Nat) (a:Act) (w:World) (β:BB) (G:Aj):Prop where
 df:JG E own a.defers/\Uj own outer
 EI:a.tmps.size=AU
 B0:Dq β G bf.get a.tmps
 it:∃ib,β.BE k=some ib/\a.eval (.tmp it)=.pointer (some ⟨ib,0,none⟩)
 li:AO β G (SC nx seen) (a.eval (.tmp l))
 AH:Ax E w0 G0 (FD own outer) w β G (HM h k m N nx e zs seen)
 fresh:∀id,nx+1<=id->C3 β (HM h k m N nx e zs seen) id
 Adk:seen=[]->C3 β (HM h k m N nx e zs seen) nx
 go:D6 nx β0 Gx β G h (HM h k m N nx e zs seen)
 GU:seen.Nodup/\∀j∈seen,j<N
theorem AmG {j e:TypeId} {ti i:By} (ht:Br P j ti) (f:ti.k=.slice e) (d:Br P e i) (hs:i.size=1) (v:Value) (hv:v.cells = #[v]) :
  (Instr.buildSlice j 1 #[(0,v)]).run P w=.ok (.slice (some ⟨w.heap.size,0,none⟩) 1 1) (w.alloc (.cells #[v] e)):=by
 have c:=ht.desc;rw[f]at c;obtain⟨z,l,a,_⟩:=d.Ai3 w;rw[hs]at a;have b:=d.run_sizeOf w;rw[hs]at b;simp[Instr.buildSlice,Cz,C7 c,b,l,Result.andThen,Instr.fill,hv,a];have AS:(Array.map (fun x=>z.cells[x % 1]!) (Array.range 1)).setIfInBounds 0 v = #[v]:=by
  have BG:Array.range 1 = #[0]:=rfl;rw[BG];simp
 rw[AS];simp[newRow,newObj,Sem.run]
theorem Yo (h:Nat->Option A8) (k m n nx:Nat) (e:TypeId) (d:List Int) (seen:List Nat):HM h k m n nx e d seen k=some (.Dg m n seen):=by simp[HM]
theorem mF {h:Nat->Option A8} {k m n nx:Nat} {e:TypeId} {d:List Int} {seen:List Nat} (a:nx≠k):HM h k m n nx e d seen nx=PY e d seen:=by
 simp[HM,a]
theorem PJ {h:Nat->Option A8} {k m n nx:Nat} {e:TypeId} {d:List Int} {seen:List Nat} {i:Nat} (b:i≠k) (a:i≠nx):HM h k m n nx e d seen i=h i:=by
 simp[HM,b,a]
theorem AaJ {h:Nat->Option A8} {k m n nx:Nat} {e:TypeId} {d:List Int} {seen:List Nat} {j:Nat} (b:nx≠k) (i:Nat) :
  HM h k m n nx e d (seen++[j]) i=BY (BY (HM h k m n nx e d seen) [(k,some (.Dg m n (seen++[j])))]) [(nx,some (.row e ((seen++[j]).map fun j=>[AB.int .i64 (d.getD j 0)]) 0 seen.length))] i:=by
 rw[EV,EV]
 by_cases AS:i=nx
 ·subst AS;rw[if_pos rfl,mF b];cases seen with
  | nil=>rfl
  | cons a l=>simp[PY]
 ·rw[if_neg AS]
  by_cases BG:i=k
  ·subst BG;rw[if_pos rfl,Yo]
  ·rw[if_neg BG,PJ BG AS,PJ BG AS]
theorem AlY (hE:∀t ti,E.ty t=some ti->Br P t ti) {nx:Nat} {e I ty:TypeId} {ti J:By} {K:List Int} {seen:List Nat} (r:E.ty I=some ti) (hk:ti.k=.slice e) (o:E.ty e=some J) (g:J.size=1) (a7:J.bytes<=1000)
  (y:seen.length<=100000) (hh:Ax E w0 G0 D w β G h) (a5:h nx=PY e K seen) (hf:seen=[]->C3 β h nx) {s x:Value} (hs:AO β G (SC nx seen) s) {z:Int} (hx:AO β G (.AR [[.int .i64 z]]) x) :
  ∃v w' β',(Builtin.append_ #[I,I] ty #[s,x]).run P w=.ok v w'/\AO β' G (.rs nx seen.length) v/\Ext β G β' G/\Ax E w0 G0 D w' β' G (BY h [(nx,some (.row e ((seen.map fun j=>[AB.int .i64 (K.getD j 0)])++[[.int .i64 z]]) 0 seen.length))]) ∧
   ∀i,i≠nx->F0 β β' h (BY h [(nx,some (.row e ((seen.map fun j=>[AB.int .i64 (K.getD j 0)])++[[.int .i64 z]]) 0 seen.length))]) i:=by
 have a2:∀c:Nat,c<=100001->Nat.ble (c*(J.bytes+1)) 200000000000000=true:=fun c hc=>by
  rw[Nat.ble_eq]
  calc c*(J.bytes+1)<=100001*1001:=Nat.mul_le_mul hc (by omega)
   _<=200000000000000:=by decide
 have U:Nat.blt 0 1=true:=rfl;have Q:Nat.ble J.bytes 100000000000=true:=by rw[Nat.ble_eq];omega
 cases seen with
 | nil =>
  have Z:=a2 1 (by omega)
  have hd:L8 E nx h I I .Aq (.AR [[.int .i64 z]])=some ⟨some (.rs nx 0),[(nx,some (.row e [[.int .i64 z]] 0 0))]⟩:=by
   unfold L8;simp only[r,AX,hk,o,Np,Nat.beq_refl,AY,FK,g,EW,List.all_nil,List.length_cons,List.length_nil,Nat.zero_add,Bool.and_true,U,Q,Z]
  obtain⟨v,w',β',M,O,h3,h4,h5⟩:=yH hE hh (hf rfl) (ty:=ty) hs hx hd;exact⟨v,w',β',M,O _ rfl,h3,h4,h5⟩
 | cons a l =>
  have a0:=(hE I ti r).desc;rw[hk]at a0;have f:=RT o;obtain⟨i,zv,AA,q,p,hz,a6,_⟩:=(hE e J o).IB;have A5:h nx=some (.row e ((a::l).map fun j=>[AB.int .i64 (K.getD j 0)]) 0 l.length):=a5;obtain⟨A,c,rfl,hc,a4⟩:=X6 (d:=.AR [[.int .i64 z]]) hh rfl hx;rcases a4 with h0|⟨b,off,e',C,hA,g1,g2,g3⟩
  ·cases h0
  ·have n:C=[Value.int .i64 z]:=by
    obtain⟨v,vs,rfl,BI,BD⟩:=CE.1 (show Ae β G (AB.int .i64 z::[]) C from g2);rw[CU]at BD;rw[BD,DX.1 BI]
   subst n;obtain⟨hv,_⟩:=IK.1 (show AO β G (.rs nx l.length) s from hs);obtain⟨Am,C,M,O,h3,h4,h5,h6,h7⟩:=hh.obj nx _ A5;rw[hv]at M;cases M;have a1:=O;rw[f]at a1;obtain⟨v',w',row,AH,W,hg,a3⟩:=jL (P:=P) (t:=I) (t':=I) (ty:=ty) (news:=[Value.int .i64 z]) (m:=1) AA q p hz a6 a1 (by rw[g];rfl)
    (kP a0 AA hz (by rw[q,g];rfl) (.inr ⟨b,off,hA,g3⟩) (by intro u hu;simp only[List.mem_singleton]at hu;subst hu;rfl)) (DF (a2 _ (by simp only[List.length_map,List.length_cons]at y⊢;omega))) (by omega) hh.below.size
   obtain⟨β',m1,m2,m3,m4⟩:=AbK (nid:=nx) (xs:=[[AB.int .i64 z]]) (news:=[Value.int .i64 z]) hh A5 hv O h3 hg (by rw[f];exact W) a3 g2 (fun c hc=>by
    simp only[List.mem_singleton]at hc;subst hc;exact⟨by rw[f,g];rfl,rfl,rfl⟩)
   exact⟨v',w',β',AH,m2,m1,m3,m4⟩
theorem MV:∀(ts:List Nat) (b:Tr AB) (t:Nat),(Ig ts b).get t=if t∈ts then none else b.get t
 | [],b,t=>by simp[Ig]
 | s::ts,b,t=>by
  unfold Ig;rw[MV ts,Tr.Cj]
  by_cases e:t∈ts
  ·simp[e]
  ·by_cases d:t=s
   ·simp[d]
   ·simp[e,d]
theorem iB:∀{l:List Nat},Rf l=true->l.Nodup
 | [],_=>List.nodup_nil
 | i::is,h=>by
  simp only[Rf,Ar,Bool.not_eq_true',List.any_eq_false]at h;exact List.nodup_cons.2 ⟨fun a=>by have:=h.1 i a;simp at this,iB h.2⟩
structure AcN (AU it l tc:Nat) (R0 R1 R2:List Oper) (bt:TypeId) (d0 d2 d3 d4 u0 u1 AV A4:Nat) (BN Bs DL Fh Fi GL JR Hk Gw o10:Oper):Prop where
 Cu:R0=[BN,Bs]
 AS:R1=[DL,Fh,Fi]
 BG:R2=[GL,JR,Hk,Gw,o10]
 BI:PB BN=some (d0,it)
 BD:KM Bs=some (tc,d0)
 B9:PK DL=some (d2,it)
 DM:KM Fh=some (d3,d2)
 Em:Jj Fi=some (d4,d3)
 OJ:Jj GL=some (u0,l)
 JU:Jj JR=some (u1,d4)
 Bq:ZQ Hk=some (AV,bt,u1)
 Pp:Yc Gw=some (A4,bt,u0,AV)
 Ij:Jj o10=some (l,A4)
 GU:[it,l,d0,tc,d2,d3,d4,u0,u1,AV,A4].Nodup
 lt:∀s∈[it,l,d0,tc,d2,d3,d4,u0,u1,AV,A4],s<AU
theorem Anw {AU it l U:Nat} {R0 R1 R2:List Oper} {ds:List Nat} {bt:TypeId} (h:nT AU it l R0 R1 R2 U=some (ds,bt)) :
  ∃u z e C j K AV A4 BN Bs DL Fh Fi GL JR Hk Gw O,ds=[u,U,z,e,C,j,K,AV,A4]/\AcN AU it l U R0 R1 R2 bt u z e C j K AV A4 BN Bs DL Fh Fi GL JR Hk Gw O:=by
 unfold nT at h;split at h
 ·rename_i BN Bs DL Fh Fi GL JR Hk Gw O;obtain⟨⟨u,i0⟩,BI,h⟩:=AD h;obtain⟨⟨W,x1⟩,BD,h⟩:=AD h;obtain⟨⟨z,i2⟩,B9,h⟩:=AD h;obtain⟨⟨e,x3⟩,DM,h⟩:=AD h;obtain⟨⟨C,x4⟩,Em,h⟩:=AD h;obtain⟨⟨j,y0⟩,OJ,h⟩:=AD h;obtain⟨⟨K,y1⟩,JU,h⟩:=AD h;obtain⟨⟨AV,Q,y2⟩,Bq,h⟩:=AD h;obtain⟨⟨A4,a0,y3,y4⟩,Pp,h⟩:=AD h;obtain⟨⟨l',y5⟩,Ij,h⟩:=AD h;obtain⟨hc,h⟩:=Ad h;simp only[Bc,Prod.mk.injEq]at h;obtain⟨a,b⟩:=h;simp only[Ar]at hc;obtain⟨⟨⟨⟨⟨⟨⟨⟨⟨⟨⟨⟨⟨⟨⟨Aw,BS⟩,CK⟩,Df⟩,El⟩,c6⟩,Z⟩,c8⟩,c9⟩,M⟩,J⟩,i⟩,I⟩,q⟩,d⟩,call⟩:=hc;have Aw:i0=it:=Al Aw;have BS:x1=u:=Al BS;have CK:U=W:=Al CK;have Df:i2=it:=Al Df;have El:x3=z:=Al El
  have c6:x4=e:=Al c6;have Z:y0=l:=Al Z;have c8:y1=C:=Al c8;have c9:y2=K:=Al c9;have M:a0=Q:=Al M;have J:y3=j:=Al J;have i:y4=AV:=Al i;have I:l'=l:=Al I;have q:y5=A4:=Al q;replace a:[u,W,z,e,C,j,K,AV,A4]=ds:=a;replace b:Q=bt:=b;replace d:Rf [it,l,u,W,z,e,C,j,K,AV,A4]=true:=d;replace call:([it,l,u,W,z,e,C,j,K,AV,A4].all fun s=>Nat.blt s AU)=true:=call;subst Aw BS Df El c6 c8 c9 J i q b;have hn:=iB d;have hl:=fun s hs=>DF (List.all_eq_true.1 call s hs);rw[<-CK]at a hn hl BD;rw[Z]at OJ;rw[M]at Pp;rw[I]at Ij;exact⟨_,_,_,_,_,_,_,_,_,_,_,_,_,_,_,_,_,_,a.symm,⟨rfl,rfl,rfl,BI,BD,B9,DM,Em,OJ,JU,Bq,Pp,Ij,hn,hl⟩⟩
 ·cases h
theorem YN:∀{N:Nat} {l:List Nat},l.Nodup->(∀j∈l,j<N)->l.length<=N
 | 0,l,_,h=>by
  cases l with
  | nil=>exact Nat.le_refl _
  | cons a l=>exact absurd (h a (by simp)) (by omega)
 | N+1,l,hn,h=>by
  have b:=YN (N:=N) (hn.erase N) fun j d=>by
   have c:=(hn.mem_erase_iff).1 d;have:=h j c.2;have:=c.1;omega
  by_cases e:N∈l
  ·rw[List.length_erase_of_mem e]at b;omega
  ·rw[List.erase_of_not_mem e]at b;omega
theorem Acm:∀{es:List (AB×AB)} {q:List MapEntry} {i:Nat} {e:MapEntry},Ic β G es q->q[i]? = some e->∃d,es[i]? = some d/\AO β G d.1 e.key
 | [],q,i,e,u,h=>by simp only[Ic]at u;subst u;simp at h
 | (k,v)::es,_,i,e,⟨m,l,j,C,K,J,I,z⟩,h=>by
  subst j;cases i with
  | zero=>simp at h;subst h;exact⟨(k,v),by simp,C⟩
  | succ i =>
   obtain⟨d,b,a⟩:=Acm z (by simpa using h:l[i]? = some e)
   exact⟨d,by simpa using b,a⟩
theorem Acl {k m N it Af y c6 c7 I K d2 Z d4:Nat} {seen:List Nat} {es:List (AB×AB)} {r0 r1:Array Oper} {z:Code} {BN Bs DL Fh Fi:Oper} {bf:Nat->Option AB} (Cu:r0.toList=[BN,Bs]) (AS:r1.toList=[DL,Fh,Fi])
  (BI:PB BN=some (K,it)) (BD:KM Bs=some (I,K)) (B9:PK DL=some (d2,it)) (DM:KM Fh=some (Z,d2)) (Em:Jj Fi=some (d4,Z)) (GU:[it,K,I,d2,Z,d4].Nodup) (lt:∀s∈[it,K,I,d2,Z,d4],s<AU)
  (b:a.tmps.size=AU) (hf:Dq β G bf a.tmps) (e:∀t∈[K,I,d2,Z,d4],bf t=none) {M:Nat} (f:β.BE k=some M) (hit:a.eval (.tmp it)=.pointer (some ⟨M,0,none⟩)) (hh:Ax E w0 G0 D w β G h) (hk:h k=some (.Dg m N seen)) (hm:h m=some (.map es))
  (hN:es.length=N) {Q:Exit->Act->World->Prop} {R:Act->World->Prop}
  (hq:∀O,(∀j,j<N->j∈seen)->O.tmps.size=AU->Dq β G bf O.tmps->O.defers=a.defers->(∀t,t∉[K,I,d2,Z,d4]->O.eval (.tmp t)=a.eval (.tmp t))->Q (.exit Af) O w)
  (hR:∀j d O w',j<N->j∉seen->es[j]? = some d->AO β G d.1 (O.eval (.tmp d4))->Ax E w0 G0 D w' β G (BY h [(k,some (.Dg m N (seen++[j])))])->O.tmps.size=AU->Dq β G bf O.tmps->O.defers=a.defers->O.eval (.tmp I)=.bool true →
   (∀t,t∉[K,I,d2,Z,d4]->O.eval (.tmp t)=a.eval (.tmp t))->z.wpIn (Fg ro) n P (Exit.inBlock y (Exit.then R Q)) O w') :
  (Code.seq (.region c6 r0 false) (.seq (.cond (.tmp I) .skip (.exit Af)) (.block y (.seq (.region c7 r1 false) z)))).wpIn (Fg ro) n P (Exit.then R Q) a w:=by
 obtain⟨d7,J,c0,j1,j2,j3,j4⟩:=hh.obj k _ hk;rw[f]at j1;cases j1;obtain⟨d5,ms,C,k1,k2,k3,k4⟩:=hh.obj m _ hm;rw[j2]at k1;cases k1;have a3:ms.size=N:=by have:=UU k3;simp only[Array.length_toList]at this;omega
 obtain⟨g1,g2,g3⟩:=Am9 BI;obtain⟨g4,g5,g6⟩:=AaW BD;simp only[DK,OF,or_false,forall_eq_or_imp,forall_eq]at lt;obtain⟨t0,t2,t3,t4,t5,t6⟩:=lt;simp only[List.nodup_cons,DK,OF,or_false,not_or,List.nodup_nil,not_false_eq_true,and_true]at GU;have a4:=e K (by simp)
 have b0:=e I (by simp)
 refine wpIn_seq (wpIn_region_list ?_);rw[Cu];have d8:it≠K:=GU.1.1;have d1:it≠I:=GU.1.2.1;have a7:∀(v u:Value) t,t∉[K,I,d2,Z,d4]->((a.put (some K) v).put (some I) u).eval (.tmp t)=a.eval (.tmp t):=fun v u t ht=>by
  simp only[DK,OF,or_false,not_or]at ht;rw[FQ _ _ _ _ (by rw[Ek,b];exact t3),if_neg ht.2.1,FQ _ _ _ _ (by rw[b];exact t2),if_neg ht.1]
 rcases run_next_at (P:=P) w BN.type M J N c0 seen.toArray ms C j3 k2 (fun x hx=>by have:=(Aav k4 hx).1;omega) j4 with⟨h0,c⟩|⟨DI,b6,U,o,c⟩
 ·have a9:∀j,j<N->j∈seen:=fun j hj=>by
   have a5:j<ms.toList.length:=by simpa[a3]using hj
   have h1:=all_seen ms seen.toArray h0 _ (Fx a5);have h2:=congrArg (fun l=>l[j]?) k4.1;simp only[List.getElem?_map,List.getElem?_eq_getElem a5,As,a3,List.getElem?_range hj,Bc]at h2;rw[h2]at h1;simpa using h1
  refine KA (v:=.tuple #[.bool false]) (w':=w) g1 (by rw[g3];simp) (ET (by unfold execOp;rw[g3]) (by rw[hit];exact c)) ?_
  rw[g2];refine KA (v:=.bool false) (w':=w) g4 (by rw[g6];simp) (mD g6 (by rw[FQ _ _ _ _ (by rw[b];exact t2),if_pos rfl]) rfl) ?_
  rw[g5];refine wpIn_seq (wpIn_cond (t:=false) (by rw[FQ _ _ _ _ (by rw[Ek,b];exact t3),if_pos rfl]) (wpIn_exit ?_))
  exact hq _ a9 (by rw[Ek,Ek];exact b) (KE (KE hf a4 _) b0 _) rfl (a7 _ _)
 ·obtain⟨r,c8⟩:=mem_left b6;obtain⟨d6,a1⟩:=Aav k4 r;have hj:DI.born<N:=by omega
  have b9:DI.born∉seen:=by simpa using c8
  obtain⟨d,b8,b5⟩:=Acm k3 a1;have c9:Ax E w0 G0 D U β G h:=by
   rcases o with rfl|rfl
   ·exact hh
   ·exact hh.drew _
  have b3:U.heap[M]? = some (.mapIter (some J) N seen.toArray c0):=by rcases o with rfl|rfl<;>exact j3
  have b2:U.heap[J]? = some (.map ms C):=by rcases o with rfl|rfl<;>exact k2
  have i:M<U.heap.size:=(Gv.1 b3).1;have b4:N<=C:=by have:=k4.2;omega
  have a0:Ax E w0 G0 D (U.putObj M (.mapIter (some J) N (seen.toArray.push DI.born) C)) β G (BY h [(k,some (.Dg m N (seen++[DI.born])))]) :=
   RX (o':=.Dg m N (seen++[DI.born])) (ob':=.mapIter (some J) N (seen.toArray.push DI.born) C) c9 hk f b3 (by simp) (fun x hx=>by have:β.BE k=some x:=hx;rw[f]at this;cases this;rfl)
    ⟨M,J,C,f,j2,by rw[World.putObj_heap_same i];simp,b4⟩
  have b7:Go.ChangeMaps.setBlock U M (.mapIter (some J) N (seen.toArray.push DI.born) C)=U.putObj M (.mapIter (some J) N (seen.toArray.push DI.born) C):=rfl;rw[b7]at c;have a8:(U.putObj M (.mapIter (some J) N (seen.toArray.push DI.born) C)).heap[M]? = some (.mapIter (some J) N (seen.toArray.push DI.born) C):=World.putObj_heap_same i;have a6:J≠M:=fun q=>by rw[q,b3]at b2;cases b2
  have b1:(U.putObj M (.mapIter (some J) N (seen.toArray.push DI.born) C)).heap[J]? = some (.map ms C):=(World.putObj_heap_other a6).trans b2;generalize U.putObj M (.mapIter (some J) N (seen.toArray.push DI.born) C)=w2 at a0 c a8 b1;refine KA (v:=.tuple #[.bool true,DI.key,DI.val]) (w':=w2) g1 (by rw[g3];simp) (ET (by unfold execOp;rw[g3]) (by rw[hit];exact c)) ?_
  rw[g2];refine KA (v:=.bool true) (w':=w2) g4 (by rw[g6];simp) (mD g6 (by rw[FQ _ _ _ _ (by rw[b];exact t2),if_pos rfl]) rfl) ?_
  rw[g5];obtain⟨g7,g8,g9⟩:=AmR B9;obtain⟨g10,g11,g12⟩:=AaW DM;obtain⟨g13,g14,g15⟩:=YR Em;refine wpIn_seq (wpIn_cond (t:=true) (by rw[FQ _ _ _ _ (by rw[Ek,b];exact t3),if_pos rfl]) (wpIn_skip ?_))
  refine wpIn_block (wpIn_seq (wpIn_region_list ?_));rw[AS];have p2:=a7 (.tuple #[.bool true,DI.key,DI.val]) (.bool true);have BS:((a.put (some K) (.tuple #[.bool true,DI.key,DI.val])).put (some I) (.bool true)).eval (.tmp I)=.bool true:=by rw[FQ _ _ _ _ (by rw[Ek,b];exact t3),if_pos rfl]
  have i2:=p2 it (by simpa using GU.1)
  have W:((a.put (some K) (.tuple #[.bool true,DI.key,DI.val])).put (some I) (.bool true)).tmps.size=AU:=by simp only[Ek];exact b
  have f2:=KE (KE hf a4 (.tuple #[.bool true,DI.key,DI.val])) b0 (.bool true);have v2:((a.put (some K) (.tuple #[.bool true,DI.key,DI.val])).put (some I) (.bool true)).defers=a.defers:=rfl;generalize (a.put (some K) (.tuple #[.bool true,DI.key,DI.val])).put (some I) (.bool true)=a2 at *;have p:=run_entry_at (P:=P) w2 M J N seen.toArray ms C DI a8 b1 r (by rw[k4.1];exact List.nodup_range)
  refine KA (v:=.tuple #[DI.key,DI.val]) (w':=w2) g7 (by rw[g9];simp) (ET (by unfold execOp;rw[g9]) (by rw[i2,hit];exact p)) ?_
  rw[g8];refine KA (v:=DI.key) (w':=w2) g10 (by rw[g12];simp) (mD g12 (by rw[FQ _ _ _ _ (by rw[W];exact t4),if_pos rfl]) rfl) ?_
  rw[g11];refine KA (v:=DI.key) (w':=w2) g13 (by rcases g15 with q|q<;>rw[q]<;>simp) (by rw[Yh g15,FQ _ _ _ _ (by rw[Ek,W];exact t5),if_pos rfl]) ?_
  rw[g14];refine hR DI.born d _ w2 hj b9 b8 (by rw[FQ _ _ _ _ (by rw[Ek,Ek,W];exact t6),if_pos rfl];exact b5) a0 (by simp only[Ek];exact W) (KE (KE (KE f2 (e d2 (by simp)) _) (e Z (by simp)) _) (e d4 (by simp)) _) v2 ?_ fun t ht=>?_
  ·rw[FQ _ _ _ _ (by rw[Ek,Ek,W];exact t6),if_neg GU.2.2.1.2.2,FQ _ _ _ _ (by rw[Ek,W];exact t5),if_neg GU.2.2.1.2.1,FQ _ _ _ _ (by rw[W];exact t4),if_neg GU.2.2.1.1];exact BS
  ·have g:=ht;simp only[DK,OF,or_false,not_or]at g;rw[FQ _ _ _ _ (by rw[Ek,Ek,W];exact t6),if_neg g.2.2.2.2,FQ _ _ _ _ (by rw[Ek,W];exact t5),if_neg g.2.2.2.1,FQ _ _ _ _ (by rw[W];exact t4),if_neg g.2.2.1];exact p2 t ht
theorem Abf (hE:∀t ti,E.ty t=some ti->Br P t ti) {k m N nx it l Af y f4 f6 f5 tc:Nat} {e bt:TypeId} {ti ei:By} {J:List Int} {es:List (AB×AB)} {bf:Tr AB} {β0:BB} {Gx:Aj} {r0 r1 r2:Array Oper} {d0 d2 d3 Z M O AV A4:Nat} {BN Bs DL Fh Fi GL JR Hk Gw e8:Oper}
  (f:AcN AU it l tc r0.toList r1.toList r2.toList bt d0 d2 d3 Z M O AV A4 BN Bs DL Fh Fi GL JR Hk Gw e8) (a2:E.ty bt=some ti) (hk:ti.k=.slice e) (a7:E.ty e=some ei) (b0:ei.size=1) (c8:ei.bytes<=1000)
  (c6:Mb es=some J) (hN:es.length=N) (e4:N<=100000) (p:nx≠k) (d5:m≠k) (d1:m≠nx) (hm:h m=some (.map es)) (s:∀t∈[l,d0,tc,d2,d3,Z,M,O,AV,A4],bf.get t=none) {Q:Exit->Act->World->Prop} {R:Act->World->Prop} {seen:List Nat} {β:BB} {G:Aj}
  (c:QA E w0 G0 outer AU own h k m N nx e J it l bf β0 Gx seen a w β G) (hq:∀U ,(∀j,j<N->j∈seen)->QA E w0 G0 outer AU own h k m N nx e J it l bf β0 Gx seen U w β G->Q (.exit Af) U w)
  (hR:∀j U w' β' G',j<N->j∉seen->QA E w0 G0 outer AU own h k m N nx e J it l bf β0 Gx (seen++[j]) U w' β' G'->R U w') :
  (Code.seq (.region f4 r0 false) (.seq (.cond (.tmp tc) .skip (.exit Af)) (.block y (.seq (.region f6 r1 false) (.region f5 r2 false))))).wpIn (Fg ro) n P (Exit.then R Q) a w:=by
 obtain⟨ib,a0,hit⟩:=c.it;have a4:=f.lt;have CK:=f.GU;simp only[DK,OF,or_false,forall_eq_or_imp,forall_eq]at a4;obtain⟨t0,t1,t2,t3,t4,t5,t6,t7,t8,t9,W⟩:=a4;simp only[List.nodup_cons,DK,OF,or_false,not_or,List.nodup_nil,not_false_eq_true,and_true]at CK;have f8:=s;simp only[DK,OF,or_false,forall_eq_or_imp,forall_eq]at s;obtain⟨b1,b2,b3,b4,b5,b6,b7,b8,b9,e7⟩:=s;obtain⟨⟨f1,n1,n2,n3,n4,n5,n6,n7,n8,n9⟩,⟨m1,m2,m3,m4,m5,_⟩,⟨x1,x2,x3,x4,_⟩,⟨x5,x6,x7,_⟩,⟨x8,x9,_⟩,⟨f9,_⟩,⟨p3,_⟩,⟨p1,p2,_⟩,_⟩:=CK;refine Acl f.Cu f.AS f.BI f.BD f.B9 f.DM f.Em (by simp[*]) (by simp[*]) c.EI c.B0 (by simp[*]) a0 hit c.AH (Yo h k m N nx e J seen) ((PJ d5 d1).trans hm) hN (fun U a6 BI BD B9 DM=>?_) fun j d K C hj Df d7 a8 a9 I f3 v3 _ DM=>?_
 ·exact hq U a6 ⟨by rw[B9];exact c.df,BI,BD,⟨ib,a0,(DM it (by simp[*])).trans hit⟩,by rw[DM l (by simp[*])];exact c.li,c.AH,c.fresh,c.Adk,c.go,c.GU⟩
 have i3:=(DM it (by simp[*])).trans hit
 have l3:=DM l (by simp[*])
 have g:K.eval (.tmp Z)=.int .i64 (J.getD j 0):=by
  rw[(lG c6).2 _ _ d7]at a8;exact DX.1 a8
 have x3:=rfl (a:=K.eval (.tmp Z));generalize hA:K.eval (.tmp Z)=key at g x3;have x3:=hA;obtain⟨g16,g17,g18⟩:=YR f.OJ;obtain⟨g19,g20,g21⟩:=YR f.JU;obtain⟨g22,g23,AP,g24,oV⟩:=AnE f.Bq;obtain⟨oW,oX,BU,Z9,oY,oZ,o0⟩:=AmQ f.Pp;obtain⟨o1,o2,Za⟩:=YR f.Ij;refine wpIn_region_list ?_;rw[f.BG];refine KA (v:=a.eval (.tmp l)) (w':=C) g16 (by rcases g18 with q|q<;>rw[q]<;>simp) (by rw[Yh g18,l3]) ?_
 rw[g17];refine KA (v:=key) (w':=C) g19 (by rcases g21 with q|q<;>rw[q]<;>simp) (by rw[Yh g21,FQ _ _ _ _ (by rw[I];exact t7),if_neg p3,x3]) ?_
 rw[g20];have d6:(AP.map fun(i,x)=>(i,((K.put (some M) (a.eval (.tmp l))).put (some O) key).eval x)) = #[(0,key)]:=by
  rw[HJ oV];simp only[List.map_toArray,DU,List.map_nil];rw[FQ _ _ _ _ (by rw[Ek,I];exact t8),if_pos rfl]
 have r:key.cells = #[key]:=by rw[g];rfl
 have El:=AmG (P:=P) (w:=C) (hE bt ti a2) hk (hE e ei a7) b0 key r;refine KA (v:=.slice (some ⟨C.heap.size,0,none⟩) 1 1) (w':=C.alloc (.cells #[key] e)) g22 (by rw[g24];simp) (ET (by unfold execOp;rw[g24]) (by rw[d6];exact El)) ?_
 rw[g23]
 have Aw:∀b,b<C.heap.size->(C.alloc (.cells #[key] e)).heap[b]? = C.heap[b]? := fun b hb=>Below.heap_alloc C _ b hb;have BS:(C.alloc (.cells #[key] e)).heap[C.heap.size]? = some (.cells #[key] e (0,0)):=heap_alloc_new C _;obtain⟨c0,u⟩:=a9.grow (w':=C.alloc (.cells #[key] e)) (G':=fun b o=>if b=C.heap.size then(if o=0 then some key else none)else G b o) ((Below.refl _ C).alloc (Nat.le_refl _) _)
  (fun b hb=>by funext o;rw[if_neg (by omega)]) (fun b o v hv=>by
   by_cases q:b=C.heap.size
   ·subst q;rw[if_pos rfl]at hv
    by_cases BD:o=0
    ·subst BD;rw[if_pos rfl]at hv;cases hv;show(C.alloc (.cells #[key] e)).cell? ⟨C.heap.size,0,none⟩=some key;unfold World.cell?;simp only[BS];rfl
    ·rw[if_neg BD]at hv;cases hv
   ·rw[if_neg q]at hv;have hc:=a9.agree b o v hv;exact(World.cell?_of_block (w:=C) (w':=C.alloc (.cells #[key] e)) (a:=⟨b,o,none⟩) (Aw b (block_lt_of_cell hc))).trans hc)
 generalize f7:(fun b o=>if b=C.heap.size then(if o=0 then some key else none)else G b o)=G3 at c0 u;have d8:AO β G3 (.AR [[.int .i64 (J.getD j 0)]]) (.slice (some ⟨C.heap.size,0,none⟩) 1 1):=by
  refine Km.2 ⟨_,_,⟨rfl,Nat.le_refl _⟩,.inr ⟨C.heap.size,0,1,rfl,?_⟩⟩;unfold DD;refine⟨rfl,⟨rfl,rfl⟩,?_,by unfold DD;trivial⟩
  unfold D7;refine⟨⟨key,by rw[<-f7];simp,DX.2 g⟩,by unfold D7;trivial⟩
 have c9:BY (HM h k m N nx e J seen) [(k,some (.Dg m N (seen++[j])))] nx=PY e J seen:=by
  rw[EV,if_neg p,mF p]
 have a1:∀i,F0 β β (HM h k m N nx e J seen) (BY (HM h k m N nx e J seen) [(k,some (.Dg m N (seen++[j])))]) i:=fun i AA=>by
  have d9:i≠k:=fun q=>by rw[q,Yo]at AA;cases AA
  exact⟨by rw[EV,if_neg d9];exact AA,rfl,fun _=>rfl⟩
 have c7:seen.length<=100000:=Nat.le_trans (YN c.GU.1 c.GU.2) e4;obtain⟨v4,w4,β4,f0,e6,e5,e9,f2⟩:=AlY (ty:=Gw.type) hE a2 hk a7 b0 c8 c7 c0 c9 (fun q=>(a1 nx).fresh (c.Adk q)) (AO.mono u _ _ c.li) d8;refine KA (v:=v4) (w':=w4) oW (by rw[Z9];simp) ?_ ?_
 ·have hcs:∃cs,execOp (((K.put (some M) (a.eval (.tmp l))).put (some O) key).put (some AV) (.slice (some ⟨C.heap.size,0,none⟩) 1 1)).eval Gw=Go.builtin .append BU.argTypes Gw.type cs (BU.args.map (((K.put (some M) (a.eval (.tmp l))).put (some O) key).put (some AV) (.slice (some ⟨C.heap.size,0,none⟩) 1 1)).eval):=by
   refine⟨BU.args.map fun | .const _=>true|_=>false,?_⟩;unfold execOp;rw[Z9];simp[resolve,oY,invoke];rfl
  obtain⟨cs,hcs⟩:=hcs;rw[hcs,HJ oZ,HJ o0];have z1:(((K.put (some M) (a.eval (.tmp l))).put (some O) key).put (some AV) (.slice (some ⟨C.heap.size,0,none⟩) 1 1)).eval (.tmp M)=a.eval (.tmp l):=by
   rw[FQ _ _ _ _ (by rw[Ek,Ek,I];exact t9),if_neg p2,FQ _ _ _ _ (by rw[Ek,I];exact t8),if_neg p1,FQ _ _ _ _ (by rw[I];exact t7),if_pos rfl]
  have z2:(((K.put (some M) (a.eval (.tmp l))).put (some O) key).put (some AV) (.slice (some ⟨C.heap.size,0,none⟩) 1 1)).eval (.tmp AV)=.slice (some ⟨C.heap.size,0,none⟩) 1 1:=by
   rw[FQ _ _ _ _ (by rw[Ek,Ek,I];exact t9),if_pos rfl]
  simp[Go.builtin,f0,z1,z2]
 rw[oX];refine KA (v:=v4) (w':=w4) o1 (by rcases Za with q|q<;>rw[q]<;>simp) (by rw[Yh Za,FQ _ _ _ _ (by rw[Ek,Ek,Ek,I];exact W),if_pos rfl]) ?_
 rw[o2];have z:Ext β G β4 G3:=u.trans e5;have a5:∀i,i≠nx->F0 β β4 (HM h k m N nx e J seen) (HM h k m N nx e J (seen++[j])) i:=fun i AA=>by
  have q:=(a1 i).trans (f2 i AA);intro hf;obtain⟨y1,y2,y3⟩:=q hf;refine⟨?_,y2,y3⟩;rw[AaJ p,List.map_append];exact y1
 refine hR j _ w4 β4 G3 hj Df ⟨⟨?_,c.df.2⟩,?_,?_,⟨ib,z.BE _ _ a0,?_⟩,?_,e9.eq fun i=>?_,fun i AA=>(a5 i (by omega)).fresh (c.fresh i AA),fun q=>by simp at q,c.go.trans ⟨z,fun i AA=>a5 i (by omega)⟩,?_⟩
 ·show JG E own K.defers;rw[v3];exact c.df.1
 ·simp only[Ek];exact I
 ·exact KE (KE (KE (KE (KE (Dq.mono z f3) b7 _) b8 _) b9 _) e7 _) b1 _
 ·rw[FQ _ _ _ _ (by simp only[Ek];rw[I];exact t1),if_neg f1,FQ _ _ _ _ (by simp only[Ek];rw[I];exact W),if_neg n9,FQ _ _ _ _ (by simp only[Ek];rw[I];exact t9),if_neg n8,
   FQ _ _ _ _ (by simp only[Ek];rw[I];exact t8),if_neg n7,FQ _ _ _ _ (by rw[I];exact t7),if_neg n6]
  exact i3
 ·rw[FQ _ _ _ _ (by simp only[Ek];rw[I];exact t1),if_pos rfl]
  have:SC nx (seen++[j])=.rs nx seen.length:=by
   cases seen with
   | nil=>rfl
   | cons x xs=>simp[SC]
  rw[this];exact e6
 ·rw[AaJ p,List.map_append];rfl
 ·refine⟨List.nodup_append.2 ⟨c.GU.1,by simp,fun x hx y hy=>?_⟩,fun j e3=>?_⟩
  ·simp only[List.mem_singleton]at hy;subst hy;exact fun q=>Df (q▸hx)
  ·rcases List.mem_append.1 e3 with q|q
   ·exact c.GU.2 j q
   ·simp only[List.mem_singleton]at q;subst q;exact hj
theorem Am8:∀(d:List Int),(List.range d.length).map (fun j=>d.getD j 0)=d:=fun d=>by
 apply List.ext_getElem (by simp)
 intro i a b;simp at a;simp[a]
theorem kU {a:Act} {t:Nat} (h:t<a.tmps.size):a.tmps[t]? = some (a.eval (.tmp t)):=by
 simp[Act.eval,Array.getD_eq_getD_getElem?,h]
theorem Ax.conv {h':Nat->Option A8} (f:Nat->Nat) (hh:Ax E w0 G0 D w β G h) (hc:∀i o',h' i=some o'->∃o,h (f i)=some o/\(FL E w0.heap.size w β G (f i) o->FL E w0.heap.size w β G i o')/\∀b,Cc β i o' b->Cc β (f i) o b)
  (hf:∀i j o p,h' i=some o->h' j=some p->f i=f j->i=j):Ax E w0 G0 D w β G h' :=
 ⟨hh.below,hh.g0,hh.agree,fun i o' AA=>let⟨o,a,c,_⟩:=hc i o' AA;c (hh.obj _ o a),fun i o' b AA hb=>let⟨o,a,_,h3⟩:=hc i o' AA;hh.own _ o b a (h3 b hb),
  fun i j o' e b AA d a c=>let⟨o,k1,_,k3⟩:=hc i o' AA;let⟨p,BI,_,B9⟩:=hc j e d;hf i j o' e AA d (hh.inj _ _ o p b k1 BI (k3 b a) (B9 b c)),hh.marks,hh.H0⟩
theorem Ax.AAz (hh:Ax E w0 G0 D w β G h) {id:Nat} (hf:C3 β h id) (v:Value):Ext β G (Ej β id 0 v) G/\Ax E w0 G0 D w (Ej β id 0 v) G h:=by
 have c:Ext β G (Ej β id 0 v) G:=jJ (hf.Am 0);have hs:∀i o,h i=some o->∀u,(Ej β id 0 v).Am i u=β.Am i u:=fun i o AA u=>by
  have:i≠id:=fun q=>by rw[q,hf.h]at AA;cases AA
  simp[Ej,this]
 have a:∀i o b,h i=some o->(Cc (Ej β id 0 v) i o b↔Cc β i o b):=fun i o b AA=>J9 (β:=β) (β':=Ej β id 0 v) (id:=i) rfl (hs i o AA) o b;exact⟨c,hh.below,hh.g0,hh.agree,fun i o AA=>FL.Cs c (hs i o AA) (fun _ _=>⟨rfl,fun _=>rfl⟩) (hh.obj i o AA),fun i o b AA hb=>hh.own i o b AA ((a i o b AA).1 hb),
  fun i j o p b AA d f e=>hh.inj i j o p b AA d ((a i o b AA).1 f) ((a j p b d).1 e),hh.marks,hh.H0⟩
theorem Anx (hE:∀t ti,E.ty t=some ti->Br P t ti) {F:Ag} {Af:Nat} {p:Nat×Nat×TypeId×Nat} {c:Code} {s:BV} {ex:Ce} {s':BV} (f:Re E F Af p c s=some (ex,s'))
  (K:ER E w0 G0 outer F.E6 F.AU own s a w β G) {Q:Exit->Act->World->Prop}
  (hq:∀s1,s'=s1.GK F Af->ex=.exit Af->∀I w' β' G',s.next<=s1.next->ER E w0 G0 outer F.E6 F.AU own s1 I w' β' G'->D6 s.next β G β' G' s.AM.get s1.AM.get->Q (.exit Af) I w'):(Code.loop c).wpIn (Fg ro) n P Q a w:=by
 unfold Re at f;split at f
 ·rename_i k e9 f0;split at f
  ·rename_i m N a9;split at f
   ·rename_i es a0;obtain⟨⟨x,ds,bt⟩,v,f⟩:=AD f;obtain⟨ti,d9,f⟩:=AD f;split at f
    ·rename_i e hk;obtain⟨ei,d6,f⟩:=AD f;split at f
     ·obtain⟨J,b1,f⟩:=AD f;obtain⟨hc,f⟩:=Ad f;simp only[Ar]at hc;obtain⟨⟨⟨⟨⟨⟨Aw,BS⟩,CK⟩,Df⟩,El⟩,c6⟩,c7⟩:=hc;have BS:x=Af:=Al BS;have CK:es.length=N:=Al CK;have Df:N<=100000:=DF Df;have El:ei.size=1:=Al El;have c6:ei.bytes<=1000:=DF c6;simp only[Bc,Prod.mk.injEq]at f;obtain⟨rfl,a1⟩:=f;unfold mK at v;split at v
      ·rename_i f4 r0 tc x' y f8 r1 f5 r2;obtain⟨⟨h7,h5⟩,c0,v⟩:=AD v;simp only[Bc,Prod.mk.injEq]at v;obtain⟨e7,rfl,rfl⟩:=v;obtain rfl:Af=x':=(e7.trans BS).symm;obtain⟨d0,d2,d3,d4,u0,u1,AV,A4,BN,Bs,DL,Fh,Fi,GL,JR,Hk,Gw,h4,rfl,A5⟩:=Anw c0;have l:=K.fresh s.next (Nat.le_refl _);have b0:s.next≠k:=fun q=>by have:=l.h;rw[q,a9]at this;cases this
       have b9:m≠k:=fun q=>by rw[q,a9]at a0;cases a0
       have b4:m≠s.next:=fun q=>by have:=l.h;rw[<-q,a0]at this;cases this
       have d7:∀t∈[p.2.1,d0,tc,d2,d3,d4,u0,u1,AV,A4],(Ig (p.2.1::[d0,tc,d2,d3,d4,u0,u1,AV,A4]) s.base).get t=none:=fun t ht=>by
        rw[MV,if_pos ht]
       have d8:J.length=N:=by
        obtain⟨b',ms,f7,_,_,k3,_⟩:=K.AH.obj m _ a0;have h1:=(lG b1).1;have h2:=UU k3;omega
       obtain⟨h6,c9,b7⟩:=K.B0 _ _ e9;obtain⟨ib,e8,rfl⟩:=UR.1 b7;obtain⟨bE,f1,e6⟩:=K.B0 _ _ f0;have W:∀i,HM s.AM.get k m N s.next e J [] i=s.AM.get i:=fun i=>by
        unfold HM
        by_cases AS:i=k
        ·subst AS;rw[if_pos rfl,a9]
        ·rw[if_neg AS]
         by_cases BG:i=s.next
         ·subst BG;rw[if_pos rfl,l.h];rfl
         ·rw[if_neg BG]
       have h0:QA E w0 G0 outer F.AU own s.AM.get k m N s.next e J p.1 p.2.1 (Ig (p.2.1::[d0,tc,d2,d3,d4,u0,u1,AV,A4]) s.base) β G [] a w β G:=by
        refine⟨K.df,K.EI,fun t d ht=>?_,⟨ib,e8,?_⟩,?_,K.AH.eq W,fun id hid=>?_,fun _=>?_,⟨Ext.refl β G,fun id _ hn=>⟨(W id).trans hn,rfl,fun _=>rfl⟩⟩,List.nodup_nil,by simp⟩
        ·rw[MV]at ht;split at ht
         ·cases ht
         ·exact K.B0 t d ht
        ·simp only[Act.eval,Array.getD_eq_getD_getElem?,c9,Option.getD_some]
        ·simp only[Act.eval,Array.getD_eq_getD_getElem?,f1,Option.getD_some];exact e6
        ·have hf:=K.fresh id (by omega)
         exact⟨hf.BE,hf.Am,(W id).trans hf.h⟩
        ·exact⟨l.BE,l.Am,(W _).trans l.h⟩
       have a7:∀seen I w' β' G',(∀j,j<N->j∈seen)->QA E w0 G0 outer F.AU own s.AM.get k m N s.next e J p.1 p.2.1 (Ig (p.2.1::[d0,tc,d2,d3,d4,u0,u1,AV,A4]) s.base) β G seen I w' β' G'->Q (.exit Af) I w':=fun seen I w' β' G' g C=>by
        have Z:seen.length=N:=Nat.le_antisymm (YN C.GU.1 C.GU.2) (by
         have:=List.Nodup.length_le_of_subset (List.nodup_range (n:=N)) (l₂:=seen) fun j U=>g j (List.mem_range.1 U);simpa using this)
        have a8:(seen.map fun j=>[AB.int .i64 (J.getD j 0)]).Perm (J.map fun z=>[AB.int .i64 z]):=by
         have h1:seen.Perm (List.range N):=(List.perm_ext_iff_of_nodup C.GU.1 List.nodup_range).2 fun j=>⟨fun U=>List.mem_range.2 (C.GU.2 j U),fun U=>g j (List.mem_range.1 U)⟩;have h2:=h1.map fun j=>[AB.int .i64 (J.getD j 0)];have h3:(List.range N).map (fun j=>[AB.int .i64 (J.getD j 0)])=J.map fun z=>[AB.int .i64 z]:=by
          conv=>rhs;rw[<-Am8 J]
          rw[List.map_map,d8];rfl
         rw[h3]at h2;exact h2
        have b3:p.2.1<I.tmps.size:=by rw[C.EI];exact A5.lt _ (by simp)
        have a3:∀i,HM s.AM.get k m N s.next e J seen i=none->i≠k:=fun i AA q=>by rw[q,Yo]at AA;cases AA
        cases M:Nat.beq N 0 with
        | true =>
         rw[M]at a1;simp only[AY]at a1;have hz:=Al M;have f9:seen=[]:=List.eq_nil_of_length_eq_zero (by omega)
         subst f9;refine hq _ a1.symm rfl I w' β' G' (by show s.next<=s.next+2;omega) ⟨fun t d ht=>?_,fun t d ht=>?_,C.EI,C.AH.less fun i o AA=>?_,fun id hid=>?_,C.df⟩ ⟨C.go.ext,fun i AA hf=>?_⟩
         ·rw[Tr.Cj]at ht
          by_cases q:t=p.2.1
          ·rw[if_pos q]at ht;cases ht;rw[q];exact⟨_,kU b3,C.li⟩
          ·rw[if_neg q]at ht;exact C.B0 t d ht
         ·rw[Tr.Cj]at ht
          by_cases q:t=p.2.1
          ·rw[q];exact c7
          ·rw[if_neg q,MV]at ht;split at ht
           ·cases ht
           ·exact K.GS t d ht
         ·rw[Tr.Cj]at AA
          by_cases q:i=k
          ·rw[if_pos q]at AA;cases AA
          ·rw[if_neg q]at AA
           by_cases BD:i=s.next
           ·subst BD;rw[l.h]at AA;cases AA
           ·rw[PJ q BD];exact AA
         ·have c8:s.next+2<=id:=hid;have hf:=C.fresh id (by omega)
          refine⟨hf.BE,hf.Am,?_⟩;rw[Tr.Cj,if_neg (a3 id hf.h),<-PJ (h:=s.AM.get) (a3 id hf.h) (show id≠s.next by omega)];exact hf.h
         ·obtain⟨y1,y2,y3⟩:=C.go.Cs i AA hf;refine⟨?_,y2,y3⟩;rw[Tr.Cj,if_neg (a3 i y1)];exact hf
        | false =>
         rw[M]at a1;simp only[Ac]at a1;have hz:N≠0:=fun q=>by rw[q]at M;cases M
         have b2:PY e J seen=some (.row e (seen.map fun j=>[AB.int .i64 (J.getD j 0)]) 0 (N-1)):=by
          cases seen with
          | nil=>simp at Z;omega
          | cons x xs=>simp only[PY];rw[Z]
         have e5:SC s.next seen=.rs s.next (N-1):=by
          cases seen with
          | nil=>simp at Z;omega
          | cons x xs=>simp only[SC];rw[Z]
         have O:∀i,((s.AM.set k none).set (s.next+1) (some (.Ea e (J.map fun z=>[.int .i64 z]) 0))).get i=if i=s.next+1 then some (.Ea e (J.map fun z=>[.int .i64 z]) 0)else if i=k then none else s.AM.get i:=fun i=>by
          rw[Tr.Cj,Tr.Cj]
         have a6:=C.li;rw[e5]at a6;obtain⟨e4,f3⟩:=IK.1 a6;have b8:=C.fresh (s.next+1) (Nat.le_refl _);obtain⟨d5,f6⟩:=C.AH.AAz b8 (I.eval (.tmp p.2.1));have e3:Ax E w0 G0 (FD own outer) w' (Ej β' (s.next+1) 0 (I.eval (.tmp p.2.1))) G' ((s.AM.set k none).set (s.next+1) (some (.Ea e (J.map fun z=>[.int .i64 z]) 0))).get:=by
          refine f6.conv (fun i=>if i=s.next+1 then s.next else i) (fun i o' AA=>?_) (fun i j o' q' AA U he=>?_)
          ·rw[O]at AA
           by_cases BD:i=s.next+1
           ·rw[if_pos BD]at AA;cases AA;subst BD;simp only[if_true];have d1:(Ej β' (s.next+1) 0 (I.eval (.tmp p.2.1))).Am s.next (N-1)=some (I.eval (.tmp p.2.1)):=by simp[Ej];exact e4
            have b5:(Ej β' (s.next+1) 0 (I.eval (.tmp p.2.1))).Am (s.next+1) 0=some (I.eval (.tmp p.2.1)):=by simp[Ej]
            refine⟨.row e (seen.map fun j=>[AB.int .i64 (J.getD j 0)]) 0 (N-1),by rw[mF b0];exact b2,fun⟨Am,b6,g1,g2,g3,g4,g5,g6,g7⟩=>?_,fun b ⟨n',c',hb⟩=>⟨n',c',by rw[d1];rw[b5]at hb;exact hb⟩⟩
            rw[d1]at g1;cases g1;exact⟨_,a8,_,b6,b5,g2,g3,g4,g5,g6,fun u' hu=>by
             have:¬u'=0:=by omega
             simp only[Ej,this,and_false,if_false];exact b8.Am u'⟩
           ·rw[if_neg BD]at AA
            by_cases q:i=k
            ·rw[if_pos q]at AA;cases AA
            ·rw[if_neg q]at AA;have B9:i≠s.next:=fun B9=>by rw[B9,l.h]at AA;cases AA
             simp only[if_neg BD];exact⟨o',by rw[PJ q B9];exact AA,fun x=>x,fun b hb=>hb⟩
          ·have nn:∀i o,((s.AM.set k none).set (s.next+1) (some (.Ea e (J.map fun z=>[.int .i64 z]) 0))).get i=some o->i≠s.next:=fun i o AA q=>by
            rw[O,q,if_neg (by omega)]at AA
            split at AA
            ·cases AA
            ·rw[l.h]at AA;cases AA
           have n1:=nn i o' AA;have n2:=nn j q' U;split at he<;>split at he<;>omega
         have a5:∀i,i≠s.next+1->∀u,(Ej β' (s.next+1) 0 (I.eval (.tmp p.2.1))).Am i u=β'.Am i u:=fun i AA u=>by simp[Ej,AA]
         refine hq _ a1.symm rfl I w' _ G' (by show s.next<=s.next+2;omega) ⟨fun t d ht=>?_,fun t d ht=>?_,C.EI,e3,fun id hid=>?_,C.df⟩ ⟨C.go.ext.trans d5,fun i AA hf=>?_⟩
         ·rw[Tr.Cj]at ht
          by_cases q:t=p.2.1
          ·rw[if_pos q]at ht;cases ht;rw[q];exact⟨_,kU b3,IK.2 ⟨by simp[Ej],f3⟩⟩
          ·rw[if_neg q]at ht;obtain⟨u,h1,h2⟩:=C.B0 t d ht;exact⟨u,h1,AO.mono d5 d u h2⟩
         ·rw[Tr.Cj]at ht
          by_cases q:t=p.2.1
          ·rw[q];exact c7
          ·rw[if_neg q,MV]at ht;split at ht
           ·cases ht
           ·exact K.GS t d ht
         ·have c8:s.next+2<=id:=hid;have hf:=C.fresh id (by omega)
          refine⟨hf.BE,fun u=>(a5 id (by omega) u).trans (hf.Am u),?_⟩
          rw[O,if_neg (show id≠s.next+1 by omega),if_neg (a3 id hf.h),<-PJ (h:=s.AM.get) (a3 id hf.h) (show id≠s.next by omega)];exact hf.h
         ·obtain⟨y1,y2,y3⟩:=C.go.Cs i AA hf;refine⟨?_,y2,fun u=>(a5 i (by omega) u).trans (y3 u)⟩
          rw[O,if_neg (show i≠s.next+1 by omega),if_neg (a3 i y1)];exact hf
       have a4:∀(c:Nat) (seen:List Nat) (I:Act) (w':World) (β':BB) (G':Aj),c=N-seen.length->QA E w0 G0 outer F.AU own s.AM.get k m N s.next e J p.1 p.2.1 (Ig (p.2.1::[d0,tc,d2,d3,d4,u0,u1,AV,A4]) s.base) β G seen I w' β' G' →
         Code.roundsIn (Fg ro) n P (.seq (.region f4 r0 false) (.seq (.cond (.tmp tc) .skip (.exit Af)) (.block y (.seq (.region f8 r1 false) (.region f5 r2 false))))) Q (c+1) I w':=by
        intro c
        induction c with
        | zero =>
         intro seen I w' β' G' hc C;rw[roundsIn_succ];refine Abf hE A5 d9 hk d6 El c6 b1 CK Df b0 b9 b4 a0 d7 C (fun a2 g r=>a7 seen a2 w' β' G' g r) fun j a2 w2 β2 G2 U f2 r=>?_;have:=YN r.GU.1 r.GU.2;simp only[List.length_append,List.length_cons,List.length_nil]at this;omega
        | succ c ih =>
         intro seen I w' β' G' hc C;rw[roundsIn_succ];refine Abf hE A5 d9 hk d6 El c6 b1 CK Df b0 b9 b4 a0 d7 C (fun a2 g r=>a7 seen a2 w' β' G' g r) fun j a2 w2 β2 G2 U f2 r=>?_;exact ih (seen++[j]) a2 w2 β2 G2 (by simp;omega) r
       exact wpIn_loop_rounds (N-0+1) (a4 (N-0) [] a w β G (by simp) h0)
      ·cases v
     ·cases f
    ·cases f
   ·cases f
  ·cases f
 ·cases f
end
end Go.Ab
namespace Go.Ab
open Go.RowKit
def Ad2:Ce->Exit
 | .normal=>.normal
 | .exit id=>.exit id
 | .ret=>.ret
 | .busy=>.outgrown
theorem Ao1 {a b:ByteArray} (h:oA a b=true):a=b:=by
 obtain⟨⟨a⟩⟩:=a;obtain⟨⟨b⟩⟩:=b;simpa[oA]using h
mutual
theorem AcC:∀{a b:AB},FU a b=true->a=b
 | .bool a,b,h=>by cases b<;>simp[FU]at h<;>simp[h]
 | .int k a,b,h=>by cases b<;>simp[FU]at h<;>simp[h]
 | .str a,b,h=>by cases b<;>simp[FU]at h;rw[Ao1 h]
 | .Bu,b,h=>by cases b<;>simp[FU]at h<;>rfl
 | .ptr i o,b,h=>by cases b<;>simp[FU]at h<;>simp[h]
 | .Aq,b,h=>by cases b<;>simp[FU]at h<;>rfl
 | .AR a,b,h=>by cases b<;>simp[FU]at h;rw[kT h]
 | .rs i v,b,h=>by cases b<;>simp[FU]at h<;>simp[h]
 | .agg a,b,h=>by cases b<;>simp[FU]at h;rw[L9 h]
 | .fn (.func f) a c,b,h=>by
  cases b<;>simp only[FU,CI]at h;rename_i g b d;cases g<;>simp at h;rw[h.1,L9 h.2.1,L9 h.2.2]
 | .map i,b,h=>by cases b<;>simp[FU]at h<;>simp[h]
 | .iter i,b,h=>by cases b<;>simp[FU]at h<;>simp[h]
 | .CN a,b,h=>by cases b<;>simp[FU]at h;rw[L9 h]
 | .fn (.method _) a c,b,h=>by simp[FU]at h
 | .fn (.methodOf _ _) a c,b,h=>by simp[FU]at h
 | .fn (.via _ _ _ _) a c,b,h=>by simp[FU]at h
 | .fn (.yield _) a c,b,h=>by simp[FU]at h
 | .CO _ _ _ _ _,b,h=>by simp[FU]at h
 | .CV _ _ _ _ _,b,h=>by simp[FU]at h
 | .EG _,b,h=>by simp[FU]at h
 | .Ap _,b,h=>by simp[FU]at h
 | .A2,b,h=>by cases b<;>simp[FU]at h<;>rfl
 | .Cv,b,h=>by cases b<;>simp[FU]at h<;>rfl
 | .iface _ _,b,h=>by simp[FU]at h
 | .Bl,b,h=>by cases b<;>simp[FU]at h<;>rfl
 | .B2 i,b,h=>by cases b<;>simp[FU]at h<;>simp[h]
theorem L9:∀{a b:List AB},JK a b=true->a=b
 | [],b,h=>by cases b<;>simp[JK]at h;rfl
 | x::xs,b,h=>by
  cases b<;>simp[JK]at h;rw[AcC h.1,L9 h.2]
theorem kT:∀{a b:List (List AB)},Rq a b=true->a=b
 | [],b,h=>by cases b<;>simp[Rq]at h;rfl
 | x::xs,b,h=>by
  cases b<;>simp[Rq]at h;rw[L9 h.1,kT h.2]
end
theorem Acn {α γ:Type}:∀{a b:List (α×γ)},a.map (·.1)=b.map (·.1)->a.map (·.2)=b.map (·.2)->a=b
 | [],[],_,_=>rfl
 | [],_::_,h,_=>by simp at h
 | _::_,[],h,_=>by simp at h
 | (x,y)::a,(u,v)::b,h,k=>by
  simp only[DU,List.cons.injEq]at h k;rw[h.1,k.1,Acn h.2 k.2]
theorem AcD {a b:A8} (h:VP a b=true):a=b:=by
 cases a<;>cases b<;>simp[VP]at h
 ·rw[h.1,L9 h.2]
 ·rw[h.1.1.1,kT h.1.1.2,h.1.2,h.2]
 ·rw[Acn (L9 h.1) (L9 h.2)]
theorem Tr.VQ {α:Type} {p:α->α->Bool} (c:∀a b,p a b=true->a=b):∀{a b:Tr α},a.Mt p b=true->a=b
 | .leaf,b,h=>by cases b<;>simp[Tr.Mt]at h;rfl
 | .node l v r,b,h=>by
  cases b<;>simp only[Tr.Mt,CI,Ar]at h;rw[Tr.VQ c h.1.1,Tr.VQ c h.1.2];congr 1
  revert h
  split
  ·simp
  ·intro h;rw[c _ _ h.2]
  ·simp
section
variable {P:Program} {E:Env} {w0:World} {G0:Aj} {outer:CW} {own:List Nat} {D:CW} {V AU:Nat} {a:Act} {w:World} {β:BB} {G:Aj} {ro:Option Nat} {n:Nat} {h:Nat->Option A8}
theorem AkJ {F:Fence} {c:Code} {Q:Exit->Act->World->Prop} (h:c.wpIn F n P (fun e a w=>match e with | .goto _=>False|e=>Q e a w) a w):(Code.scope c).wpIn F n P Q a w:=by
 intro b k cs j hb AH;have f:(lone (b.atR a (.code (.scope c)::k)) cs w).fenced P F:=fenced_calm hb AH rfl;have q:step P (lone (b.atR a (.code (.scope c)::k)) cs w)=.next (lone (b.atR a (.code c::.inScope c::k)) cs w):=step_lone_go (by simp[stepG,stepG.exec,Frame.atR])
 obtain⟨e,u,z,g,d⟩:=h b (.inScope c::k) cs j hb AH;cases e with
 | normal=>exact⟨.normal,u,z,g,.head f q (StepsIn.trans d (.one (fenced_calm hb AH rfl) (step_lone_go (by simp[stepG,stepG.exec,Frame.atR]))))⟩
 | exit id =>
  have o:exitTo id (.inScope c::k)=exitTo id k:=by simp[exitTo]
  exact⟨.exit id,u,z,g,fun k' m=>.head f q (d.1 k' (by rw[o];exact m)),
   fun i m=>let⟨k₁,h1,h2⟩:=d.2 i (by rw[o];exact m);⟨k₁,h1,.head f q h2⟩⟩
 | goto l=>exact g.elim
 | ret=>exact⟨_,u,z,g,.of_steps (.one f q) d⟩
 | panic C=>exact⟨_,u,z,g,.of_steps (.one f q) d⟩
 | outgrown=>exact⟨_,u,z,g,.of_steps (.one f q) d⟩
theorem ER.Adv {s:BV} (b:ER E w0 G0 outer V AU own s a w β G) (k:Nat):Ge E w0 G0 outer V AU own ⟨s.base,[],s.AM,s.next+k⟩ a w β G:=by
 refine⟨fun t d ht=>?_,b.GS,b.EI,b.AH,fun id c=>b.fresh id (by have:s.next+k<=id:=c;omega),b.df⟩
 unfold EN at ht;cases hv:Nat.testBit V t with
 | true=>rw[hv]at ht;exact b.B0 t d ht
 | false=>rw[hv]at ht;cases ht
theorem Ge.st {m:Dr} (b:Ge E w0 G0 outer V AU own m a w β G):ER E w0 G0 outer V AU own ⟨m.base,m.AM,m.next⟩ a w β G:=by
 refine⟨fun t d ht=>b.B0 t d ?_,b.GS,b.EI,b.AH,b.fresh,b.df⟩;unfold EN;rw[b.GS t d ht];exact ht
theorem ER.drew {s:BV} (b:ER E w0 G0 outer V AU own s a w β G) (k:Nat):ER E w0 G0 outer V AU own s a { w with drawn:=k } β G :=
 ⟨b.B0,b.GS,b.EI,b.AH.drew k,b.fresh,b.df⟩
theorem ER.Mx {s:BV} (c:ER E w0 G0 outer V AU own s a w β G) (t:Nat):∃G',ER E w0 G0 outer V AU own (Mx s t) a w β G'/\D6 s.next β G β G' s.AM.get (Mx s t).AM.get/\(Mx s t).next=s.next:=by
 unfold Go.Ab.Mx;split
 ·rename_i id off hb;cases q:Nat.beq off 0 with
  | false=>exact⟨G,c,D6.refl _ _ _ _,rfl⟩
  | true =>
  obtain rfl:=Al q;simp only[AY];unfold ZO;split
  ·rename_i z cs l;cases hid:B4 cs with
   | false=>exact⟨G,c,D6.refl _ _ _ _,rfl⟩
   | true =>
    obtain⟨v,hv,AH⟩:=c.B0 t _ hb;obtain⟨b,g,rfl⟩:=Ja.1 AH;obtain⟨G',k,j,f⟩:=AcK c.AH l g;refine⟨G',⟨fun t' d ht=>?_,fun t' d ht=>?_,c.EI,j.eq fun i=>by simp only[AY];rw[Tr.Cj,EV],fun i AA=>?_,c.df⟩,⟨k,fun i _ hn=>⟨?_,rfl,fun _=>rfl⟩⟩,rfl⟩
    ·simp only[AY]at ht;rw[Tr.Cj]at ht
     by_cases e:t'=t
     ·rw[if_pos e]at ht;cases ht;exact⟨_,by rw[e];exact hv,N9.2 ⟨hid,b,0,rfl,f⟩⟩
     ·rw[if_neg e]at ht;obtain⟨u,n,m⟩:=c.B0 t' d ht;exact⟨u,n,AO.mono k d u m⟩
    ·simp only[AY]at ht;rw[Tr.Cj]at ht
     by_cases e:t'=t
     ·rw[e];exact c.GS t _ hb
     ·rw[if_neg e]at ht;exact c.GS t' d ht
    ·have hf:=c.fresh i AA;refine⟨hf.BE,hf.Am,?_⟩;simp only[AY];rw[Tr.Cj];split
     ·rfl
     ·exact hf.h
    ·simp only[AY];rw[Tr.Cj];split
     ·rfl
     ·exact hn
  ·exact⟨G,c,D6.refl _ _ _ _,rfl⟩
 ·exact⟨G,c,D6.refl _ _ _ _,rfl⟩
theorem ER.Jr (DJ:Nat):∀(AP:List (Nat×Nat)) {s:BV} {G:Aj},ER E w0 G0 outer V AU own s a w β G->∃G',ER E w0 G0 outer V AU own (Jr DJ AP s) a w β G'/\D6 s.next β G β G' s.AM.get (Jr DJ AP s).AM.get/\(Jr DJ AP s).next=s.next
 | [],s,G,i=>⟨G,i,D6.refl _ _ _ _,rfl⟩
 | (r,t)::AP,s,G,i=>by
  unfold Go.Ab.Jr;cases Nat.beq r DJ with
  | false=>exact ER.Jr DJ AP i
  | true =>
   obtain⟨l,f,d,b⟩:=i.Mx t;obtain⟨j,e,g,c⟩:=ER.Jr DJ AP f;simp only[AY];exact⟨j,e,d.trans (g.less (Nat.le_of_eq b.symm)),c.trans b⟩
theorem Ax.mark (hh:Ax E w0 G0 D w β G h):Ax E w0 G0 (FD [w.heap.size] D) (w.alloc (.deferred (some []))) β G h:=by
 have c:∀b,b<w.heap.size->(w.alloc (.deferred (some []))).heap[b]? = w.heap[b]? := fun b hb=>Below.heap_alloc w _ b hb;refine⟨hh.below.alloc hh.below.size _,hh.g0,fun b o v j=>?_,fun i o AA=>?_,fun i o b AA hb=>?_,hh.inj,fun d x f=>?_,hh.H0⟩
 ·have hc:=hh.agree b o v j;have g:=block_lt_of_cell hc;exact(World.cell?_of_block (w:=w) (w':=w.alloc (.deferred (some []))) (a:=⟨b,o,none⟩) (c b g)).trans hc
 ·exact FL.Cs (Ext.refl _ _) (fun _=>rfl) (fun b hb=>⟨c b (hh.own i o b AA hb).2.1,fun _=>rfl⟩) (hh.obj i o AA)
 ·obtain⟨k1,k2,l⟩:=hh.own i o b AA hb;refine⟨k1,by simp;omega,?_⟩
  unfold FD;rw[if_neg (by simp;omega)]
  exact l
 ·unfold FD at f
  by_cases e:d=w.heap.size
  ·subst e;rw[if_pos (by simp)]at f
   cases f;exact⟨hh.below.size,heap_alloc_new w _,fun o=>Mv hh (Nat.le_refl _) o⟩
  ·rw[if_neg (by simpa using e)]at f
   obtain⟨k1,k2,l⟩:=hh.marks d x f;exact⟨k1,(c d (Gv.1 k2).1).trans k2,l⟩
theorem Ax.drop (hh:Ax E w0 G0 D w β G h) {id b:Nat} {o:A8} {C ob':Obj} (u:h id=some o) (m:Cc β id o b) (hb:w.heap[b]? = some C) (r:∀c t f,C≠.cells c t f) :
  Ax E w0 G0 D (w.putObj b ob') β G (fun i=>if i=id then none else h i):=by
 obtain⟨k1,_,M⟩:=hh.own id o b u m;have g:∀i x,(if i=id then none else h i)=some x->i≠id/\h i=some x:=fun i x AA=>by
  by_cases e:i=id
  ·rw[if_pos e]at AA;cases AA
  ·rw[if_neg e]at AA;exact⟨e,AA⟩
 have l:∀i x c,i≠id->h i=some x->Cc β i x c->c≠b:=fun i x c AA n hc e=>AA (hh.inj i id x o b n u (e▸hc) m);refine⟨hh.below.trans ⟨rfl,rfl,rfl,by simp,fun k Q=>World.putObj_heap_other (by omega)⟩,hh.g0,fun c off v z=>?_,fun i x AA=>?_,fun i x c AA hc=>?_,fun i j x y c AA O hc s=>?_,fun d x q=>?_,hh.H0⟩
 ·have hc:=hh.agree c off v z
  by_cases e:c=b
  ·subst e;unfold World.cell? at hc;rw[hb]at hc;cases C<;>first|cases hc|exact absurd rfl (r _ _ _)
  ·exact(World.cell?_of_block (w:=w) (w':=w.putObj b ob') (a:=⟨c,off,none⟩) (World.putObj_heap_other e)).trans hc
 ·obtain⟨p,n⟩:=g i x AA;exact FL.Cs (Ext.refl _ _) (fun _=>rfl) (fun c hc=>⟨World.putObj_heap_other (l i x c p n hc),fun _=>rfl⟩) (hh.obj i x n)
 ·obtain⟨p,n⟩:=g i x AA;obtain⟨J,I,K⟩:=hh.own i x c n hc;exact⟨J,by simpa using I,K⟩
 ·exact hh.inj i j x y c (g i x AA).2 (g j y O).2 hc s
 ·obtain⟨J,I,K⟩:=hh.marks d x q;exact⟨J,(World.putObj_heap_other (fun e=>by rw[e,M]at q;cases q)).trans I,K⟩
def Us (E:Env) (w0:World) (G0:Aj) (outer:CW) (V AU:Nat) (s:BV) (β:BB) (G:Aj) (ex:Ce) (e:BV) (Q:Exit->Act->World->Prop):Prop :=
 ∀d i w' β' G',s.next<=e.next->ER E w0 G0 outer V AU d e i w' β' G'->D6 s.next β G β' G' s.AM.get e.AM.get->Q (Ad2 ex) i w'
def Nn (Cb ro:Option Nat) (β:BB):Prop:=match Cb with
 | none=>ro=none
 | some l=>∃b,ro=some b/\β.BE l=some b
theorem Nn.mono {Cb ro:Option Nat} {β':BB} {G G':Aj} (d:Ext β G β' G') (h:Nn Cb ro β):Nn Cb ro β':=by
 cases Cb with
 | none=>exact h
 | some l=>obtain⟨b,c,a⟩:=h;exact⟨b,c,d.BE _ _ a⟩
theorem Abh {n0:Nat} {β l β':BB} {G q:Aj} {h k h':Nat->Option A8} (hf:∀id,n0<=id->C3 β h id) (d:D6 n0 β G l q h k) (e:Ku n0 l β') (hn:∀i,i<n0->k i=none->h' i=none):D6 n0 β G β' q h h':=by
 have f:∀id b,β.BE id=some b->id<n0:=fun id b hb=>by
  rcases Nat.lt_or_ge id n0 with h|h
  ·exact h
  ·rw[(hf id h).BE]at hb;cases hb
 have c:∀id u v,β.Am id u=some v->id<n0:=fun id u v hb=>by
  rcases Nat.lt_or_ge id n0 with h|h
  ·exact h
  ·rw[(hf id h).Am]at hb;cases hb
 refine⟨⟨d.ext.g,fun id b hb=>?_,fun id u v hb=>?_⟩,fun id a j=>?_⟩
 ·rw[e.BE id (f id b hb)];exact d.ext.BE id b hb
 ·rw[e.Am id (c id u v hb)];exact d.ext.Am id u v hb
 ·obtain⟨BI,BD,B9⟩:=d.Cs id a j;exact⟨hn id a BI,(e.BE id a).trans BD,fun u=>(e.Am id a u).trans (B9 u)⟩
theorem Aa0 {c:Code} {i:GR} {step:BV->Option (Ce×BV)} {Cb:Option Nat} {s0:BV} {I:BB} {M:Aj} (g:∀id,s0.next<=id->C3 I s0.AM.get id)
  (b:∀s ex z,step s=some (ex,z)->∀own a w β G Q,Nn Cb ro β->ER E w0 G0 outer V AU own s a w β G->Us E w0 G0 outer V AU s β G ex z Q->c.wpIn (Fg ro) n P Q a w) {ex:Ce} {z:BV} {Q:Exit->Act->World->Prop}
  (e:Nn Cb ro I) (p:Us E w0 G0 outer V AU s0 I M ex z Q) :
  ∀(m:Nat) (s:BV) (own:List Nat) (a:Act) (w:World) (β:BB) (G:Aj),iter (Lt E i s0.next) step m s=some (ex,z)->ER E w0 G0 outer V AU own s a w β G->D6 s0.next I M β G s0.AM.get s.AM.get->Code.roundsIn (Fg ro) n P c Q m a w
 | 0,s,own,a,w,β,G,h,_,_=>by cases h
 | m+1,s,own,a,w,β,G,h,W,hg=>by
  simp only[iter]at h;obtain⟨Z,hn,h⟩:=AD h;obtain⟨⟨C,K⟩,hs,h⟩:=AD h;obtain⟨U,o,k,d,l⟩:=Aab hn W;have j:=Abh g hg k d;rw[roundsIn_succ];refine b Z C K hs own a w U G _ (e.mono j.ext) o fun q O w' β' G' hl u J=>?_;have f:=j.trans (J.less l);cases C with
  | normal=>exact Aa0 g b e p m K q O w' β' G' h u f
  | _ =>
   simp only[Bc,Prod.mk.injEq]at h;obtain⟨rfl,rfl⟩:=h;exact p q O w' β' G' (by omega) u f
theorem AlK {hints:List GR} {Af:Nat} {s0 s:BV} (h:(match(hints.find? fun h=>Nat.beq h.Af Af:Option GR)with
   | some b=>(GZ E s0.next 0 b.Ff (s0.base,s0.AM)).bind fun r=>some (BV.mk r.1 r.2 (s0.next+b.Ff.length))
   | none=>some s0)=some s) (c:ER E w0 G0 outer V AU own s0 a w β G):∃β',ER E w0 G0 outer V AU own s a w β' G/\D6 s0.next β G β' G s0.AM.get s.AM.get/\s0.next<=s.next:=by
 split at h
 ·rename_i b _;obtain⟨r,AH,h⟩:=AD h;cases h;obtain⟨β',k1,k2,l,e,q,j,z⟩:=X3 a.tmps V b.Ff 0 s0.base s0.AM β r AH c.AH c.B0 c.GS (fun i AA _=>c.fresh i AA) (fun i AA=>(c.fresh i (by omega)).h)
  refine⟨β',⟨e,q,c.EI,l,fun i AA=>j i (by simpa using AA),c.df⟩,⟨k1,fun id d hf=>⟨z id d hf,k2.BE id d,fun u=>k2.Am id d u⟩⟩,by show s0.next<=s0.next+b.Ff.length;omega⟩
 ·cases h;exact⟨β,c,D6.refl _ _ _ _,Nat.le_refl _⟩
theorem Alk {s:BV} {Bj:Nat} {F:Ag} (m:E.fn Bj=some F) (c:ER E w0 G0 outer F.E6 F.AU own s a w β G) (i:∀b,ro=some b->∃r,w.heap[b]? = some (.loop r)) (fn:FuncId) (AP:Array Tmp) (assign body:Code) (Af:Nat) :
  ∃l mark z q u,(Instr.enterLoop fn a.tmps AP assign body ro).run P w=.ok (l,mark) z/\(JG E q (mark++a.defers)/\Uj q outer)/\Ext β G u G/\u.BE s.next=some l ∧
   Ax E w0 G0 (FD q outer) z u G (BY s.AM.get [(s.next,some (.loop Bj s.base AP.toList assign body Af .normal))])/\Fs β u s.AM.get (BY s.AM.get [(s.next,some (.loop Bj s.base AP.toList assign body Af .normal))]) s.next:=by
 have d:=c.fresh s.next (Nat.le_refl _);have e:∀(w':World) (D:CW) (df:Nat),Ax E w0 G0 D w' β G s.AM.get->∀β',Ext β G β' G->β'.BE s.next=some w'.heap.size →
   FL E w0.heap.size (w'.alloc (.loop { state:=.ready,pending:=none,fn,tmps:=a.tmps,params:=AP,assign,body,defers:=df })) β' G s.next (.loop Bj s.base AP.toList assign body Af .normal):=fun w' D df _ β' C hb =>
  ⟨_,a.tmps,df,fn,F,hb,by rw[heap_alloc_new];simp[HK],c.B0.mono C,m,c.EI,c.GS⟩
 cases ro with
 | none =>
  have f:=c.AH.mark;obtain⟨u,k,g,h,j⟩:=f.lay d (.loop { state:=.ready,pending:=none,fn,tmps:=a.tmps,params:=AP,assign,body,defers:=w.heap.size }) (.loop Bj s.base AP.toList assign body Af .normal) rfl (e _ _ _ f);refine⟨w.heap.size+1,[AcI w.heap.size],_,w.heap.size::own,u,run_enterLoop_outer fn a.tmps AP assign body,⟨JG.mark _ c.df.1,List.nodup_cons.2 ⟨(Xi (c.AH.Z8 (Nat.le_refl _))).1,c.df.2.1⟩,fun b hb=>?_⟩,k,by simpa using g,by rw[yP];exact h,j⟩
  rcases DK.1 hb with rfl|hb
  ·exact(Xi (c.AH.Z8 (Nat.le_refl _))).2
  ·exact c.df.2.2 b hb
 | some b =>
  obtain⟨r,AH⟩:=i b rfl;obtain⟨u,k,g,h,j⟩:=c.AH.lay d (.loop { state:=.ready,pending:=none,fn,tmps:=a.tmps,params:=AP,assign,body,defers:=r.defers }) (.loop Bj s.base AP.toList assign body Af .normal) rfl (e _ _ _ c.AH);refine⟨w.heap.size,[],_,own,u,?_,⟨by simpa using c.df.1,c.df.2⟩,k,g,h,j⟩
  unfold Instr.enterLoop;simp only[Cz,run_getLoop AH,run_newObj_alloc,Result.andThen,Sem.run_pure]
theorem Acf {E:Env} {w0:World} {G0:Aj} {outer:CW} {own:List Nat} {V AU m:Nat} {s:BV} {a:Act} {w:World} {β:BB} {G:Aj} (h:ER E w0 G0 outer V AU own s a w β G):ER E w0 G0 outer V AU own (s.Cs m) a w β G :=
 ⟨fun t d ht=>h.B0 t d (Tr.Adi ht),fun t d ht=>h.GS t d (Tr.Adi ht),h.EI,h.AH,h.fresh,h.df⟩
theorem RJ (F:Ag) (id:Nat) (s:BV):(s.GK F id).AM=s.AM/\(s.GK F id).next=s.next:=by
 unfold BV.GK;cases F.K0.find? fun p=>Nat.beq p.1 id<;>exact⟨rfl,rfl⟩
theorem lK {E:Env} {w0:World} {G0:Aj} {outer:CW} {own:List Nat} {V AU:Nat} {F:Ag} {id:Nat} {s:BV} {a:Act} {w:World} {β:BB} {G:Aj} (h:ER E w0 G0 outer V AU own s a w β G):ER E w0 G0 outer V AU own (s.GK F id) a w β G:=by
 unfold BV.GK;cases F.K0.find? fun p=>Nat.beq p.1 id with
 | none=>exact h
 | some p=>exact Acf h
theorem Aok {r q:Ce×BV} (h:oT r q=true):r=q:=by
 obtain⟨ex,b,o,n⟩:=r;obtain⟨i,l,o',j⟩:=q;simp only[oT,Ar]at h;obtain⟨⟨⟨a,c⟩,e⟩,d⟩:=h;rw[Tr.VQ (fun _ _=>AcC) c,Tr.VQ (fun _ _=>AcD) e,Al d];cases ex<;>cases i<;>simp[Ad1]at a<;>simp[a]
theorem AnC {go:Nat->Option (Ce×BV)} {l:List Nat} {r:Ce×BV} (h:VE go l=some r):∀j∈l,go j=some r:=by
 cases l with
 | nil=>cases h
 | cons j e =>
  obtain⟨q,c,h⟩:=AD h;obtain⟨b,h⟩:=Ad h;cases h;intro i AA;rcases DK.1 AA with rfl|AA
  ·exact c
  ·have:=List.all_eq_true.1 b i AA;split at this
   ·rename_i d a;rw[a,Aok this]
   ·cases this
theorem kB {N j:Nat} {seen:List Nat}:j∈ZG N seen↔j<N/\j∉seen:=by
 have a:∀l:List Nat,Fc j l=true↔j∈l:=fun l=>by
  induction l with
  | nil=>simp[Fc]
  | cons i l ih =>
   simp only[Fc,DK];cases hb:Nat.beq j i with
   | true=>simp[Al hb]
   | false =>
    have:j≠i:=fun q=>by subst q;simp at hb
    simp[ih,this]
 simp only[ZG,List.mem_filter,List.mem_range,Bool.not_eq_true',<-a seen,Bool.not_eq_true]
theorem Ant {AU V it e:Nat} {l q:List Oper} {d:Nat×Nat×Nat×Nat} (h:ZJ AU V it l q e=some d) :
  ∃BN Bs DL Fh Fi,l=[BN,Bs]/\q=[DL,Fh,Fi]/\PB BN=some (d.1,it)/\KM Bs=some (e,d.1)/\PK DL=some (d.2.1,it)/\KM Fh=some (d.2.2.1,d.2.1)/\Jj Fi=some (d.2.2.2,d.2.2.1) ∧
   [it,d.1,e,d.2.1,d.2.2.1,d.2.2.2].Nodup/\(∀s∈[it,d.1,e,d.2.1,d.2.2.1,d.2.2.2],s<AU)/\Nat.testBit V d.2.2.2=true:=by
 unfold ZJ at h;split at h
 ·rename_i BN Bs DL Fh Fi;obtain⟨⟨U,O⟩,BI,h⟩:=AD h;obtain⟨⟨M,u⟩,BD,h⟩:=AD h;obtain⟨⟨K,I⟩,B9,h⟩:=AD h;obtain⟨⟨J,Q⟩,DM,h⟩:=AD h;obtain⟨⟨W,z⟩,Em,h⟩:=AD h;obtain⟨hc,h⟩:=Ad h;cases h;simp only[Ar]at hc;obtain⟨⟨⟨⟨⟨⟨⟨⟨Aw,BS⟩,CK⟩,Df⟩,El⟩,j⟩,i⟩,call⟩,C⟩:=hc;have Aw:O=it:=Al Aw;have BS:u=U:=Al BS;have CK:e=M:=Al CK;have Df:I=it:=Al Df;have El:Q=K:=Al El;have j:z=J:=Al j;subst Aw BS Df El j;rw[CK];exact⟨_,_,_,_,_,rfl,rfl,BI,BD,B9,DM,Em,iB i,fun s hs=>DF (List.all_eq_true.1 call s hs),C⟩
 ·cases h
theorem lJ {F:Ag} {Af y it J a9 b4:Nat} {d:Nat×Nat×Nat×Nat} {r0 r1:Array Oper} {z:Code} {a0:GR} {run:BV->Option (Ce×BV)} {Cb:Option Nat} {s0:BV} {M:BB} {Gx:Aj} (hd:ZJ F.AU F.E6 it r0.toList r1.toList J=some d)
  (u:∀id,s0.next<=id->C3 M s0.AM.get id) (c:∀s ex W,run s=some (ex,W)->∀own a w β G Q,Nn Cb ro β->ER E w0 G0 outer F.E6 F.AU own s a w β G->Us E w0 G0 outer F.E6 F.AU s β G ex W Q->z.wpIn (Fg ro) n P Q a w)
  {ex:Ce} {W:BV} {Q:Exit->Act->World->Prop} (p:Nn Cb ro M) (hq:Us E w0 G0 outer F.E6 F.AU s0 M Gx ex W Q) :
  ∀(m:Nat) (s:BV) (own:List Nat) (a:Act) (w:World) (β:BB) (G:Aj),Ns F Af y it J d (Lt E a0 s0.next) run m s=some (ex,W)->ER E w0 G0 outer F.E6 F.AU own s a w β G->D6 s0.next M Gx β G s0.AM.get s.AM.get →
   Code.roundsIn (Fg ro) n P (.seq (.region a9 r0 false) (.seq (.cond (.tmp J) .skip (.exit Af)) (.block y (.seq (.region b4 r1 false) z)))) Q m a w
 | 0,s,own,a,w,β,G,h,_,_=>by cases h
 | m+1,s,own,a,w,β,G,h,hm,hg=>by
  obtain⟨BN,Bs,DL,Fh,Fi,Cu,AS,BI,BD,B9,DM,Em,GU,lt,hv⟩:=Ant hd;simp only[Ns]at h;obtain⟨I,hn,h⟩:=AD h;obtain⟨β1,b,b1,l,a7⟩:=Aab hn hm;have v:=Abh u hg b1 l;split at h
  ·rename_i k b6;split at h
   ·rename_i mp N seen g;split at h
    ·rename_i es a8;obtain⟨hN,h⟩:=Ad h;have hN:=Al hN;obtain⟨c6,a5,a1⟩:=b.B0 _ _ b6;obtain⟨ib,b5,rfl⟩:=UR.1 a1;have b2:∀t∈[d.1,J,d.2.1,d.2.2.1,d.2.2.2],(Ig [d.1,J,d.2.1,d.2.2.1,d.2.2.2] I.base).get t=none:=fun t ht=>by rw[MV,if_pos ht]
     have hf:Dq β1 G (Ig [d.1,J,d.2.1,d.2.2.1,d.2.2.2] I.base).get a.tmps:=fun t x ht=>by
      rw[MV]at ht;split at ht
      ·cases ht
      ·exact b.B0 t x ht
     have c0:k<I.next:=by
      rcases Nat.lt_or_ge k I.next with q|q
      ·exact q
      ·rw[(b.fresh k q).h]at g;cases g
     rw[roundsIn_succ];refine Acl Cu AS BI BD B9 DM Em GU lt b.EI hf b2 b5 (by simp only[Act.eval,Array.getD_eq_getD_getElem?,a5,Option.getD_some]) b.AH g a8 hN (fun a' a4 EI B0 df _=>?_) fun j e a' w' Z b8 b0 a6 hh EI B0 df _ _=>?_
     ·have hl:ZG N seen=[]:=List.eq_nil_iff_forall_not_mem.2 fun j Z=>(kB.1 Z).2 (a4 j (kB.1 Z).1);rw[hl]at h;simp only[Bc,Prod.mk.injEq]at h;obtain⟨rfl,rfl⟩:=h;have b9:=hm.fresh;refine hq own a' w β1 G (by rw[(RJ F Af _).2];exact a7) (lK ⟨fun t x ht=>?_,fun t x ht=>?_,EI,b.AH.less fun i o AA=>?_,fun i AA=>?_,by rw[df];exact b.df⟩) (by
       rw[(RJ F Af _).1];refine v.trans ⟨Ext.refl _ _,fun i _ hn=>⟨?_,rfl,fun _=>rfl⟩⟩;simp only[Tr.Cj];split
       ·rfl
       ·exact hn)
      ·rw[Tr.Cj]at ht;split at ht
       ·cases ht
       ·exact B0 t x ht
      ·rw[Tr.Cj]at ht;split at ht
       ·cases ht
       ·rw[MV]at ht;split at ht
        ·cases ht
        ·exact b.GS t x ht
      ·rw[Tr.Cj]at AA;split at AA
       ·cases AA
       ·exact AA
      ·have hf:=b.fresh i AA;refine⟨hf.BE,hf.Am,?_⟩;rw[Tr.Cj];split
       ·rfl
       ·exact hf.h
     ·have hl:=kB.2 ⟨Z,b8⟩;split at h
      ·rename_i b7;rw[b7]at hl;simp at hl
      ·have f:=AnC h j hl;rw[b0]at f;simp only[AX]at f;obtain⟨⟨O,s2⟩,hs,f⟩:=AD f;refine c _ O s2 hs own a' w' β1 G _ (p.mono v.ext) ⟨fun t x ht=>?_,fun t x ht=>?_,EI,hh.eq fun i=>by rw[EV,Tr.Cj],fun i AA=>?_,by rw[df];exact b.df⟩ fun C a2 w2 β2 G2 c8 K U=>?_
       ·rw[Tr.Cj]at ht;split at ht
        ·rename_i r;cases ht;rw[r];exact⟨_,kU (by rw[EI];exact lt _ (by simp)),a6⟩
        ·exact B0 t x ht
       ·rw[Tr.Cj]at ht;split at ht
        ·rename_i r;rw[r];exact hv
        ·rw[MV]at ht;split at ht
         ·cases ht
         ·exact b.GS t x ht
       ·have hf:=b.fresh i AA;refine⟨hf.BE,hf.Am,?_⟩;rw[Tr.Cj,if_neg (fun q=>by have c7:I.next<=i:=AA;omega)];exact hf.h
       ·have a3:D6 s0.next M Gx β2 G2 s0.AM.get s2.AM.get:=by
         refine v.trans (D6.less (nx:=I.next) ⟨U.ext,fun i AA hn=>?_⟩ a7);have b3:i≠k:=fun q=>by rw[q,g]at hn;cases hn
         exact U.Cs i AA (by rw[Tr.Cj,if_neg b3];exact hn)
        cases O with
        | normal=>exact lJ hd u c p hq m s2 C a2 w2 β2 G2 f K a3
        | exit i =>
         obtain⟨h3,f⟩:=Ad f;have h3:=Al h3;show Exit.inBlock y _ (.exit i) a2 w2;simp only[Exit.inBlock,if_pos h3];exact lJ hd u c p hq m s2 C a2 w2 β2 G2 f K a3
        | _=>cases f
    ·cases h
   ·cases h
  ·cases h
theorem jS (hE:∀t ti,E.ty t=some ti->Br P t ti) (d2:P.follows .mixedOrders=true) {call:Nat->List AB->Option AB} (hp:Kp P E call) {callH callY:D5} (hH:HW P E callH) (hY:J7 P E callY)
  {Cb:Option Nat} {Bj:Nat} {F:Ag} (hF:E.fn Bj=some F) (a9:Nat):∀(c:Code) (Af:Nat) (s:BV) (ex:Ce) (O:BV),CY E Cb Bj F call callH callY a9 Af c s=some (ex,O) →
   ∀(own:List Nat) (a:Act) (w:World) (β:BB) (G:Aj) (Q:Exit->Act->World->Prop),Nn Cb ro β->ER E w0 G0 outer F.E6 F.AU own s a w β G->Us E w0 G0 outer F.E6 F.AU s β G ex O Q->c.wpIn (Fg ro) n P Q a w:=by
 intro c
 induction hN:SizeOf.sizeOf c using Nat.strongRecOn generalizing c with
 | _ N Z =>
 subst hN;cases c with
 | skip =>
  intro Af s ex O h own a w β G Q _ I k;simp only[CY,Bc,Prod.mk.injEq]at h;obtain⟨rfl,rfl⟩:=h;exact wpIn_skip (k own a w β G (Nat.le_refl _) I (D6.refl _ _ _ _))
 | label l =>
  intro Af s ex O h own a w β G Q _ I k;simp only[CY,Bc,Prod.mk.injEq]at h;obtain⟨rfl,rfl⟩:=h;exact wpIn_label (k own a w β G (Nat.le_refl _) I (D6.refl _ _ _ _))
 | ret =>
  intro Af s ex O h own a w β G Q _ I k;simp only[CY,Bc,Prod.mk.injEq]at h;obtain⟨rfl,rfl⟩:=h;exact wpIn_ret (k own a w β G (Nat.le_refl _) (Acf I) (D6.refl _ _ _ _))
 | exit id =>
  intro Af s ex O h own a w β G Q _ I k;simp only[CY,Bc,Prod.mk.injEq]at h;obtain⟨rfl,rfl⟩:=h;refine wpIn_exit (k own a w β G ?_ ?_ ?_)
  ·rw[(RJ F id s).2];exact Nat.le_refl _
  ·exact lK I
  ·rw[(RJ F id s).1];exact D6.refl _ _ _ _
 | scope c =>
  have ih:=Z (SizeOf.sizeOf c) (by simp only[Code.scope.sizeOf_spec];omega) c rfl
  intro Af s ex O h own a w β G Q AH I k;simp only[CY]at h;refine AkJ (ih Af s ex O h own a w β G _ AH I fun C W w' β' G' m h2 h3=>?_);have:=k C W w' β' G' m h2 h3;cases ex<;>exact this
 | block id c =>
  have ih:=Z (SizeOf.sizeOf c) (by simp only[Code.block.sizeOf_spec];omega) c rfl
  intro Af s ex O h own a w β G Q AH I k;simp only[CY]at h;obtain⟨⟨M,s1⟩,m,h⟩:=AD h;refine wpIn_block (ih id s M s1 m own a w β G _ AH I fun C W w' β' G' k1 k2 k3=>?_);cases M with
  | exit i =>
   simp only[Ad2,Exit.inBlock];simp only[Tr.FH]at h
   by_cases e:i=id
   ·simp only[e,decide_true,AY,Bc,Prod.mk.injEq]at h;obtain⟨rfl,rfl⟩:=h;rw[if_pos e];exact k C W w' β' G' k1 k2 k3
   ·simp only[e,decide_false,Ac,Bc,Prod.mk.injEq]at h;obtain⟨rfl,rfl⟩:=h;rw[if_neg e];exact k C W w' β' G' k1 k2 k3
  | _ =>
   simp only[Bc,Prod.mk.injEq]at h;obtain⟨rfl,rfl⟩:=h;exact k C W w' β' G' k1 k2 k3
 | seq x y =>
  have f3:=Z (SizeOf.sizeOf x) (by simp only[Code.seq.sizeOf_spec];omega) x rfl
  have g1:=Z (SizeOf.sizeOf y) (by simp only[Code.seq.sizeOf_spec];omega) y rfl
  intro Af s ex O h own a w β G Q AH I k;simp only[CY]at h;obtain⟨⟨M,s1⟩,m,h⟩:=AD h;refine wpIn_seq (f3 Af s M s1 m own a w β G _ AH I fun C W w' β' G' k1 k2 k3=>?_);cases M with
  | normal =>
   refine g1 Af s1 ex O h C W w' β' G' Q (AH.mono k3.ext) k2 fun c6 h7 g2 f6 f7 m1 m2 m3=>?_;exact k c6 h7 g2 f6 f7 (Nat.le_trans k1 m1) m2 (k3.trans (m3.less k1))
  | _ =>
   simp only[Bc,Prod.mk.injEq]at h;obtain⟨rfl,rfl⟩:=h;exact k C W w' β' G' k1 k2 k3
 | cond x c d =>
  have f2:=Z (SizeOf.sizeOf c) (by simp only[Code.cond.sizeOf_spec];omega) c rfl
  have f4:=Z (SizeOf.sizeOf d) (by simp only[Code.cond.sizeOf_spec];omega) d rfl
  intro Af s ex O h own a w β G Q AH I k;simp only[CY]at h;split at h
  ·rename_i t ht;have hv:=Es.1 (DP I.B0 ht);cases t with
   | true=>exact wpIn_cond hv (f2 Af s ex O h own a w β G Q AH I k)
   | false=>exact wpIn_cond hv (f4 Af s ex O h own a w β G Q AH I k)
  ·cases h
 | loop c =>
  have ih:=Z (SizeOf.sizeOf c) (by simp only[Code.loop.sizeOf_spec];omega) c rfl
  intro Af s ex O h own a w β G Q AH I k;simp only[CY]at h;split at h
  ·rename_i p i4;cases hb:Nat.beq p.2.2.1 F.AU with
   | true =>
    rw[hb]at h;simp only[AY]at h;split at h
    ·rename_i i0 r0 tc x y i1 r1 z;obtain⟨d,hd,h⟩:=AD h;obtain⟨d4,_,h⟩:=AD h;obtain⟨hx,h⟩:=Ad h;obtain rfl:=Al hx;have f9:=Z (SizeOf.sizeOf z) (by simp only[Code.loop.sizeOf_spec,Code.seq.sizeOf_spec,Code.block.sizeOf_spec];omega) z rfl
     exact wpIn_loop_rounds a9 (lJ hd I.fresh (fun s1 M s2 m K a1 w1 β1 G1 Q1 r1 m1 BI=>f9 y s1 M s2 m K a1 w1 β1 G1 Q1 r1 m1 BI) AH k a9 s own a w β G h I (D6.refl _ _ _ _))
    ·cases h
   | false =>
   rw[hb]at h;simp only[Ac]at h;exact Anx hE h I fun s1 f1 f5 W w' β' G' m h2 h3=>by
    subst f1 f5;refine k own W w' β' G' ?_ ?_ ?_
    ·rw[(RJ F Af s1).2];exact m
    ·exact lK h2
    ·rw[(RJ F Af s1).1];exact h3
  obtain⟨d4,_,h⟩:=AD h;exact wpIn_loop_rounds a9 (Aa0 (Cb:=Cb) I.fresh (fun s1 M s2 m K a1 w1 β1 G1 Q1 r1 m1 BI=>ih Af s1 M s2 m K a1 w1 β1 G1 Q1 r1 m1 BI) AH k a9 s own a w β G h I (D6.refl _ _ _ _))
 | region id ops c9 =>
  intro Af s ex O h own a w β G Q AH I k;simp only[CY]at h;obtain⟨s1,m,h⟩:=AD h;simp only[Bc,Prod.mk.injEq]at h;obtain⟨rfl,rfl⟩:=h;unfold N6 at m;obtain⟨mf,h2,m⟩:=AD m;cases m;obtain⟨Gp,a0,e4,d6⟩:=I.Jr id F.V0;generalize Jr id F.V0 s=sp at a0 e4 d6 h2;have k:∀C W w' β' G',sp.next<=mf.next->ER E w0 G0 outer F.E6 F.AU C ⟨mf.base,mf.AM,mf.next⟩ W w' β' G'->D6 sp.next β Gp β' G' sp.AM.get mf.AM.get->Q .normal W w':=fun C W w' β' G' k1 k2 k3 =>
   k C W w' β' G' (by show s.next<=mf.next;omega) k2 (e4.trans (k3.less (Nat.le_of_eq d6.symm)))
  cases c9 with
  | false =>
   refine wpIn_region_list (UQ hE (df:=Cb.isNone) (fun k=>by cases Cb with|none=>exact AH|some l=>cases k) hp hH hY ops.toList 0 _ mf a w β Gp h2 (by simp) (fun j _ _=>a0.fresh _ (by omega)) (a0.Adv ops.size) fun W w' β' G' k1 k2 k3=>?_)
   exact k own W w' β' G' (Nat.le_trans (Nat.le_add_right _ _) k1) k2.st k3
  | true =>
   refine wpIn_region_any d2 (AlG hE hp hH hY h2 (Nat.le_refl _) (fun j _=>a0.fresh _ (by omega)) ((a0.drew _).Adv ops.size) fun W w' β' G' k1 k2 k3=>?_)
   exact k own W w' β' G' (Nat.le_trans (Nat.le_add_right _ _) k1) k2.st k3
 | rangeFunc f AP assign body =>
  intro Af s0 ex O h own a w β G Q AH I k;simp only[CY]at h;obtain⟨b7,h⟩:=Ad h;obtain⟨s,c0,h⟩:=AD h;obtain⟨β1,q,f8,h8⟩:=AlK c0 I;obtain⟨fv,f0,h⟩:=AD h;split at h
  ·rename_i g first c7
   obtain⟨⟨CV,J,d0⟩,a8,h⟩:=AD h;simp only at h;obtain⟨d9,hcs⟩:=hH _ _ _ _ _ _ _ a8;obtain⟨vf,vc,hv,h4,h5⟩:=Ye.1 (DP q.B0 f0);have e8:∀b,ro=some b->∃r,w.heap[b]? = some (.loop r):=fun b hb=>by
    cases Cb with
    | none=>rw[show ro=none from AH]at hb;cases hb
    | some A1 =>
     obtain⟨b',AS,BG⟩:=AH;rw[AS]at hb;cases hb;simp only[U9]at b7;split at b7
     ·rename_i h6;obtain⟨b2,_,_,_,_,k1,k2,_⟩:=I.AH.obj A1 _ h6;rw[BG]at k1;cases k1;exact⟨_,k2⟩
     ·cases b7
   refine wpIn_rangeFunc fun fn _=>?_;obtain⟨l,mark,w1,K,β2,e3,e9,a3,e5,h0,h1⟩:=Alk (P:=P) (ro:=ro) hF q e8 fn AP assign body Af;have a5:∀i,(s.AM.set s.next (some (.loop Bj s.base AP.toList assign body Af .normal))).get i=BY s.AM.get [(s.next,some (.loop Bj s.base AP.toList assign body Af .normal))] i:=fun i=>by rw[Tr.Cj,EV]
   have a7:∀id,id≠s.next->F0 β1 β2 s.AM.get (s.AM.set s.next (some (.loop Bj s.base AP.toList assign body Af .normal))).get id:=fun id a2 hf=>by
    obtain⟨BI,BD,B9⟩:=h1 id a2 hf;exact⟨by rw[a5];exact BI,BD,B9⟩
   have d1:Ae β2 G (first++[.B2 s.next]++c7) (vf.toArray ++ #[Value.func (.yield l) #[] #[]]++vc.toArray).toList:=by
    have:=Xc (Xc (Ae.mono a3 _ _ h4) (CE.2 ⟨_,[],rfl,Aca.2 ⟨l,e5,rfl⟩,CU.2 rfl⟩)) (Ae.mono a3 _ _ h5);simpa using this
   have hC:=hcs w0 G0 (FD K outer) w1 β2 G _ (h0.eq a5) (fun id a2=>(a7 id (by omega)).fresh (q.fresh id (by omega))) d1
   refine⟨l,mark,w1,{ target:=.fn (.func g) vc.toArray,args:=vf.toArray ++ #[.func (.yield l) #[] #[]] },w1,g,_,w1,e3,?_,fun _ _=>trivial,d9 _ _,fun k=>by simp[Fg,Fence.wide]at k,YC (Calls.mono hC fun e w' he=>?_)⟩
   ·have d3:a.eval (.const (.func (.yield l) #[] #[]))=.func (.yield l) #[] #[]:=rfl;simp[resolve,hv,Deferred.ofValue,d3]
   ·obtain⟨v,β3,G3,rfl,h9,o,c8,d8,_⟩:=he;split at h
    ·rename_i i3 i5 b8 b9 b6 i2 U d7;obtain⟨b3,b1,b4,b5,F3,k1,k2,_⟩:=c8.obj s.next _ d7;have d5:β3.BE s.next=some l:=o.ext.BE _ _ e5;rw[d5]at k1;cases k1;have b0:=c8.drop (ob':=.loop { state:=.exhausted,pending:=HK U,fn:=b5,tmps:=b1,params:=b8.toArray,assign:=b9,body:=b6,defers:=b4 }) d7 d5 k2 (by simp)
     have a4:(U,({ s with AM:=J.set s.next none,next:=d0 }:BV))=(ex,O)/\U≠.busy:=by
      cases U<;>simp only[Bc,reduceCtorEq]at h<;>exact⟨h,by simp⟩
     obtain⟨a4,e6⟩:=a4;simp only[Prod.mk.injEq]at a4;obtain⟨rfl,rfl⟩:=a4;have u:∀i,(J.set s.next none).get i=if i=s.next then none else J.get i:=fun i=>Tr.Cj _ _ _ _;have a6:∀id,F0 β3 β3 J.get (J.set s.next none).get id:=fun id hf=>⟨by
      rw[u]
      by_cases e:id=s.next
      ·rw[if_pos e]
      ·rw[if_neg e];exact hf,rfl,fun _=>rfl⟩
     have e7:(Instr.endLoop l).run P w'=.ok (HK U) (w'.putObj l (.loop { state:=.exhausted,pending:=HK U,fn:=b5,tmps:=b1,params:=b8.toArray,assign:=b9,body:=b6,defers:=b4 })) :=
      run_endLoop k2 (by cases U<;>simp at e6⊢)
     have hQ:=k K { a with defers:=mark++a.defers } (w'.putObj l (.loop { state:=.exhausted,pending:=HK U,fn:=b5,tmps:=b1,params:=b8.toArray,assign:=b9,body:=b6,defers:=b4 })) β3 G3 (by show s0.next<=d0;omega)
      ⟨q.B0.mono (a3.trans o.ext),q.GS,q.EI,b0.eq u,fun id a2=>(a6 id).fresh (d8 id a2),e9⟩
      (f8.trans ⟨a3.trans o.ext,fun id a2=>((a7 id (by omega)).trans (o.Cs id (by omega))).trans (a6 id)⟩)
     refine⟨_,_,e7,?_⟩;cases U with
     | normal=>exact hQ
     | exit i=>exact wpIn_exit hQ
     | ret=>exact wpIn_ret hQ
     | busy=>exact absurd rfl e6
    ·cases h
  ·cases h
 | _ =>
  intro Af s ex O h own a w β G Q AH I k;simp[CY]at h
end
end Go.Ab
namespace Go.Ab
open Go.RowKit
structure nX (P:Program) (f:FuncId) (F:Ag):Prop where
 fn:∃fn,P.funcs[f]? = some fn/\fn.body=some F.body/\fn.ntmps=F.AU/\fn.results.toList=F.JQ
 Pe:GY P f
def Y7 {α γ:Type} (P:Program) (w:World) (f:α->Sem γ):List α->List γ->Prop
 | [],out=>out=[]
 | x::xs,out=>∃b d,out=b::d/\(f x).run P w=.ok b w/\Y7 P w f xs d
section
variable {P:Program} {E:Env} {w0:World} {G0:Aj} {outer:CW} {own:List Nat} {D:CW} {V AU:Nat} {a:Act} {w:World} {β:BB} {G:Aj} {ro:Option Nat} {n:Nat} {h:Nat->Option A8}
theorem AmV {α γ δ:Type} (x:Sem α) (f:α->Sem γ) (g:γ->Sem δ):(x.bind f).bind g=x.bind fun a=>(f a).bind g:=by
 induction x<;>simp only[Sem.bind]<;>first|rfl|(congr 1;funext y;apply_assumption)|(congr 1)
theorem Aox {α:Type} (x:Sem α):x.bind Sem.pure=x:=by
 induction x<;>simp only[Sem.bind]<;>first|rfl|(congr 1;funext y;apply_assumption)|(congr 1)
instance:LawfulMonad Sem:=LawfulMonad.mk' Sem (fun x=>Aox x) (fun _ _=>rfl) (fun x f g=>AmV x f g)
theorem AbN {α γ:Type} (f:α->Sem γ):∀(l:List α) (out:List γ),Y7 P w f l out->(l.mapM f).run P w=.ok out w
 | [],out,h=>by simp only[Y7]at h;subst h;rfl
 | x::xs,out,h=>by
  obtain⟨b,d,rfl,a,c⟩:=h;rw[List.mapM_cons,Cz,a];simp only[Result.andThen];rw[Cz,AbN f xs d c];rfl
theorem Anq {ti:By} {e d:AB} {u:Value} (AH:AO β G e u) (a:I8 ti h e=some d):∃A,u=.pointer (some A):=by
 unfold I8 at a;split at a
 ·obtain⟨b,_,rfl⟩:=Ja.1 AH;exact⟨_,rfl⟩
 ·obtain⟨b,_,_,_,rfl⟩:=MX.1 AH;exact⟨_,rfl⟩
 ·obtain⟨_,b,o,rfl,_⟩:=N9.1 AH;exact⟨_,rfl⟩
 ·cases a
def VJ (CP:Array Value):ResultVar->Sem Value
 | .tmp t=>pure (CP.getD t undef)
 | .cell a t=>do loadVar t (<-asAddr (CP.getD a undef))
theorem Amb (fn:Func) (CP:Array Value):results fn CP=(do let vs <- fn.results.mapM (VJ CP);pure (if h:vs.size=1 then vs[0]else .tuple vs)):=by
 have:(fun(x:ResultVar)=>(match x with | .tmp t=>pure (CP.getD t undef) | .cell a t=>do loadVar t (<-asAddr (CP.getD a undef)):Sem Value))=VJ CP:=by
  funext x;cases x<;>rfl
 rw[<-this];rfl
theorem jG (hE:∀t ti,E.ty t=some ti->Br P t ti) {base:Nat->Option AB} {CP:Array Value} (hf:Dq β G base CP) (hh:Ax E w0 G0 D w β G h):∀(rs:List ResultVar) (vs:List AB),G6 E base h rs=some vs →
  ∃out,Y7 P w (VJ CP) rs out/\Ae β G vs out
 | [],vs,a=>by simp only[G6,Bc]at a;subst a;exact⟨[],rfl,CU.2 rfl⟩
 | .tmp t::rs,vs,a=>by
  simp only[G6]at a;obtain⟨d,k,a⟩:=AD a;obtain⟨ds,f,a⟩:=AD a;cases a;obtain⟨out,g,j⟩:=jG hE hf hh rs ds f;obtain⟨v,l,e⟩:=hf t d k;refine⟨v::out,⟨v,out,rfl,?_,g⟩,CE.2 ⟨v,out,rfl,e,j⟩⟩;simp[VJ,l]
 | .cell b t::rs,vs,a=>by
  simp only[G6]at a;obtain⟨ti,c,a⟩:=AD a;obtain⟨q,k,a⟩:=AD a;obtain⟨d,m,a⟩:=AD a;obtain⟨ds,f,a⟩:=AD a;cases a;obtain⟨out,g,j⟩:=jG hE hf hh rs ds f;obtain⟨u,l,e⟩:=hf b q k;obtain⟨A,rfl⟩:=Anq e m;obtain⟨v,n,o⟩:=Aa4 hE hh (hE t ti c) (hE t ti c).Ze e m;refine⟨v::out,⟨v,out,rfl,?_,g⟩,CE.2 ⟨v,out,rfl,o,j⟩⟩;have i:(loadVar t A).run P w=.ok v w:=by simpa[Instr.loadAt,Instr.sureAddr]using n
  simp[VJ,l,asAddr,i]
theorem AkZ (hE:∀t ti,E.ty t=some ti->Br P t ti) {base:Nat->Option AB} {CP:Array Value} (hf:Dq β G base CP) (hh:Ax E w0 G0 D w β G h) {fn:Func} {rs:List ResultVar} (b:fn.results.toList=rs) {vs:List AB} (f:G6 E base h rs=some vs) :
  ∃v,(results fn CP).run P w=.ok v w/\AO β G (Hz vs) v:=by
 obtain⟨out,c,a⟩:=jG (P:=P) hE hf hh rs vs f;rw[<-b]at c;have g:=AbN (P:=P) (w:=w) _ fn.results.toList out c;refine⟨if h:out.toArray.size=1 then out.toArray[0]else .tuple out.toArray,?_,?_⟩
 ·rw[Amb,Array.mapM_eq_mapM_toList,Cz];have j:∀(z:Sem (List Value)),z.run P w=.ok out w->(Functor.map List.toArray z).run P w=.ok out.toArray w:=fun z l=>by
   rw[<-LawfulMonad.bind_pure_comp,Cz,l];rfl
  rw[j _ g];rfl
 ·have hl:=FR a
  match vs,out,a,hl with
  | [],[],_,_=>exact HU.2 ⟨[],by simp,CU.2 rfl⟩
  | [d],[v],a,_ =>
   obtain⟨C,q,e,i,_⟩:=CE.1 a;cases e;simpa[Hz]using i
  | d::e::ds,u::v::out,a,_ =>
   refine HU.2 ⟨u::v::out,by simp,a⟩
theorem Ax.AAI {d:Nat} (hh:Ax E w0 G0 (FD [d] D) w β G h) (l:D d=none):Ax E w0 G0 D (w.putObj d (.deferred none)) β G h:=by
 obtain⟨k1,k2,_⟩:=hh.marks d Zk (by simp[FD])
 have f:∀i o b,h i=some o->Cc β i o b->b≠d:=fun i o b AA hb e=>(Xi (hh.own i o b AA hb).2.2).1 (by simp[e])
 refine⟨hh.below.trans ⟨rfl,rfl,rfl,by simp,fun k n=>World.putObj_heap_other (by omega)⟩,hh.g0,fun c off v m=>?_,fun i x AA=>?_,fun i x c AA hc=>?_,hh.inj,fun e x j=>?_,hh.H0⟩
 ·have hc:=hh.agree c off v m
  by_cases e:c=d
  ·subst e;unfold World.cell? at hc;rw[k2]at hc;cases hc
  ·exact(World.cell?_of_block (w:=w) (w':=w.putObj d (.deferred none)) (a:=⟨c,off,none⟩) (World.putObj_heap_other e)).trans hc
 ·exact FL.Cs (Ext.refl _ _) (fun _=>rfl) (fun c hc=>⟨World.putObj_heap_other (f i x c AA hc),fun _=>rfl⟩) (hh.obj i x AA)
 ·obtain⟨u,z,C⟩:=hh.own i x c AA hc;exact⟨u,by simpa using z,(Xi C).2⟩
 ·have g:e≠d:=fun q=>by rw[q,l]at j;cases j
  obtain⟨u,z,C⟩:=hh.marks e x (by unfold FD;rw[if_neg (by simpa using g)];exact j)
  exact⟨u,(World.putObj_heap_other g).trans z,C⟩
theorem Ax.AsB {e:CW} (hh:Ax E w0 G0 D w β G h) (hs:∀d x,e d=some x->D d=some x):Ax E w0 G0 e w β G h :=
 ⟨hh.below,hh.g0,hh.agree,hh.obj,fun i o b AA hb=>⟨(hh.own i o b AA hb).1,(hh.own i o b AA hb).2.1,by
  cases a:e b with
  | none=>rfl
  | some x=>have:=hs b x a;rw[(hh.own i o b AA hb).2.2]at this;cases this⟩,hh.inj,fun d x a=>hh.marks d x (hs d x a),hh.H0⟩
theorem Al6 (c:∀g,E.OB g=true->nI P g) {fn:Func} {CP:Array Value} {R:Ending->World->Prop} (i:∀w,Ax E w0 G0 outer w β G h->∃v,(results fn CP).run P w=.ok v w/\R (.returned v) w) {own:List Nat} {ds:List Deferred} (hl:JG E own ds) :
  ∀(w:World),Uj own outer->Ax E w0 G0 (FD own outer) w β G h->LeavesInM Fence.wide n P fn CP R ds .returning w:=by
 induction hl with
 | nil=>exact fun w _ hh=>i w (by rw[kK]at hh;exact hh)
 | @mark own ds d _ ih =>
  intro w hn hh;have a:=List.nodup_cons.1 hn.1;refine⟨by simp,.inl ⟨d,w.putObj d (.deferred none),rfl,run_takeDeferred (hh.marks d Zk Am7).2.1,?_⟩⟩
  rw[yP]at hh;exact ih _ ⟨a.2,fun b hb=>hn.2 b (by simp[hb])⟩ (hh.AAI (by unfold FD;rw[if_neg a.1];exact hn.2 d (by simp)))
 | @fn own ds g j l _ ih =>
  intro w hn hh;obtain⟨k1,k2⟩:=c g l (n-1) j w;refine⟨by simp,.inr ⟨by simp[Fence.wide],.func g,j,g,j,rfl,k1,fun _ _=>trivial,CallsDIn.mono k2 fun e q w' f=>?_⟩⟩
  obtain⟨⟨v,rfl⟩,rfl,rfl⟩:=f;exact ih w' hn hh
theorem iL {V:Nat}:∀(vs:List AB) (k:Nat) (b:Tr AB) (t:Nat) (d:AB),(Kl V k vs b).get t=some d->(k<=t/\vs[t-k]? = some d/\Nat.testBit V t=true)\/b.get t=some d
 | [],_,_,_,_,h=>.inr h
 | v::vs,k,b,t,d,h=>by
  simp only[Kl]at h;rcases iL vs (k+1) _ t d h with⟨a,c,f⟩|a
  ·exact .inl ⟨by omega,by rw[show t-k=(t-(k+1))+1 by omega];simpa using c,f⟩
  ·cases hv:Nat.testBit V k with
   | false=>rw[hv]at a;exact .inr a
   | true =>
    rw[hv]at a;simp only[AY,Tr.Cj]at a
    by_cases e:t=k
    ·rw[if_pos e]at a;subst e;exact .inl ⟨Nat.le_refl _,by simpa using a,hv⟩
    ·rw[if_neg e]at a;exact .inr a
theorem xV {V AU:Nat}:∀(AP:List Nat) (vs:List AB) (b z:Tr AB) (C:List Value) (CP:Array Value),Kh V AU AP vs b=some z->Ae β G vs C->Dq β G b.get CP->CP.size=AU->(∀t d,b.get t=some d->Nat.testBit V t=true) →
  AP.length=C.length/\Dq β G z.get ((AP.zip C).foldl (fun tmps (t,a)=>tmps.setIfInBounds t a) CP)/\((AP.zip C).foldl (fun tmps (t,a)=>tmps.setIfInBounds t a) CP).size=AU/\∀t d,z.get t=some d->Nat.testBit V t=true
 | [],[],b,z,C,CP,h,AH,hf,hs,I=>by
  simp only[Kh,Bc]at h;subst h;rw[CU]at AH;subst AH;exact⟨rfl,hf,hs,I⟩
 | p::AP,v::vs,b,z,C,CP,h,AH,hf,hs,I=>by
  simp only[Kh]at h;obtain⟨c,h⟩:=Ad h;rw[Tr.FT]at c;have c:p<AU:=by simpa using c
  obtain⟨u,J,rfl,l,k⟩:=CE.1 AH;have f:Dq β G (bif Nat.testBit V p then b.set p (some v)else b).get (CP.setIfInBounds p u)/\∀t d,(bif Nat.testBit V p then b.set p (some v)else b).get t=some d->Nat.testBit V t=true:=by
   cases hv:Nat.testBit V p with
   | true =>
    simp only[AY];refine⟨fun t d ht=>?_,fun t d ht=>?_⟩
    ·rw[Tr.Cj]at ht
     by_cases e:t=p
     ·rw[if_pos e]at ht;cases ht;exact⟨u,by rw[e,Array.getElem?_setIfInBounds_self_of_lt (by omega)],l⟩
     ·rw[if_neg e]at ht;obtain⟨x,i,j⟩:=hf t d ht;exact⟨x,by rw[Array.getElem?_setIfInBounds_ne (fun q=>e q.symm)];exact i,j⟩
    ·rw[Tr.Cj]at ht
     by_cases e:t=p
     ·rw[e];exact hv
     ·rw[if_neg e]at ht;exact I t d ht
   | false =>
    simp only[Ac];refine⟨fun t d ht=>?_,I⟩;have g:p≠t:=fun e=>by have:=I t d ht;rw[<-e,hv]at this;cases this
    obtain⟨x,i,j⟩:=hf t d ht;exact⟨x,by rw[Array.getElem?_setIfInBounds_ne g];exact i,j⟩
  obtain⟨k1,k2,K,M⟩:=xV AP vs _ z J (CP.setIfInBounds p u) h k f.1 (by simpa using hs) f.2
  exact⟨by simp[k1],k2,K,M⟩
 | [],_::_,_,_,_,_,h,_,_,_,_=>by cases h
 | _::_,[],_,_,_,_,h,_,_,_,_=>by cases h
end
end Go.Ab
namespace Go.Ab
open Go.RowKit
def Nj (P:Program) (g:Nat) (e:TypeId) (size bytes:Nat):Prop:=GY P g ∧
 (∀(a:Addr) (n c:Nat) (news:List Value) (w:World),news.length=n*size->n<=maxLen->n*bytes<=140737488355328->(∀j u,news[j]? = some u->w.cell? (a.add j)=some u)->(∀u∈news,u.oneCell'=true) →
  Calls P g #[.slice (some a) n c] w fun x w'=>∃d,x=.returned d/\w'.ownsRow w.heap.size e size d n news/\Below w.heap.size w w') ∧
 ∀(n c:Nat) (w:World),Calls P g #[.slice none n c] w fun x w'=>x=.returned (.slice none 0 0)/\w'=w
def Ut (P:Program) (g:Nat) (e:TypeId):Prop:=GY P g ∧
 (∀(b l:Nat) (j:List Int) (i:Array Value) (w:World),w.heap[b]? = some (.cells i e (0,0))->i.toList.take j.length=j.map (Value.int .i64)->j.length<=i.size->j.length<=1000000 →
  Calls P g #[.slice (some ⟨b,0,none⟩) j.length l] w fun x w'=>x=.returned (.tuple #[])/\w.grownBy w' (some b)/\∃d,w'.heap[b]? = some (.cells d e (0,0))/\d.size=i.size ∧
   d.toList.take j.length=(j.mergeSort fun x y=>decide (x<=y)).map (Value.int .i64)) ∧
 ∀(w:World),Calls P g #[.slice none 0 0] w fun x w'=>x=.returned (.tuple #[])/\w'=w
section
variable {P:Program} {E:Env}
theorem iJ {β:BB} {G:Aj} {a:AB} {vs:Array Value} (h:Ae β G [a] vs.toList):∃u,vs = #[u]/\AO β G a u:=by
 obtain⟨u,e,d,c,b⟩:=CE.1 h;rw[CU]at b;subst b;exact⟨u,HJ d,c⟩
theorem AmB {g:Nat} {e:TypeId} {C:By} (a3:E.ty e=some C) (hc:Nj P g e C.size C.bytes) {as:List AB} {o:Tr A8} {nx:Nat} {r:AB} {o':Tr A8} {Q:Nat} (h:ZT E e as o nx=some (r,o',Q)):GY P g ∧
   ∀(w0:World) (G0:Aj) (D:CW) (w:World) (β:BB) (G:Aj) (vs:Array Value),Ax E w0 G0 D w β G o.get->(∀id,nx<=id->C3 β o.get id)->Ae β G as vs.toList →
    Calls P g vs w (Iz E w0 G0 D β G o nx r o' Q):=by
 obtain⟨v,a5,z⟩:=hc;refine⟨v,fun w0 G0 D w β G vs hh O U=>?_⟩;unfold ZT at h;split at h
 ·rename_i x;obtain⟨es,b3,h⟩:=AD h;obtain⟨b5,q,h⟩:=AD h;rw[a3]at q;cases q;obtain⟨hq,h⟩:=Ad h;cases h;simp only[Ar,List.all_eq_true]at hq;obtain⟨⟨a6,b1⟩,a8⟩:=hq;have l:∀c∈es,c.length=C.size:=fun c a9=>Al (a6 c a9);have b0:0<C.size:=DF a8;have a0:es.length*(C.bytes+1)<=100000000000000:=DF b1;rw[Nat.mul_add,Nat.mul_one]at a0;have f:=RT a3;obtain⟨u,rfl,AH⟩:=iJ U;obtain⟨A,c,rfl,b4,p⟩:=X6 hh b3 AH;have W:∀(I:Value) (w':World) (news:List Value),w'.ownsRow w.heap.size e C.size I es.length news->Below w.heap.size w w'->Ae β G es.flatten news->(∀c∈es,c.length=C.size/\B4 c=true/\c.all Ct=true) →
    Iz E w0 G0 D β G o nx (.rs nx 0) (o.set nx (some (.row e es 0 0))) (nx+1) (.returned I) w':=fun I w' news d hb b2 a1=>by
   obtain⟨k1,k2⟩:=d;have t:w'.ownsRow w0.heap.size e (E0 E e) I es.length news:=by
    rw[f];refine⟨k1,?_⟩;rcases k2 with k2|⟨gg,M,K,m1,m2,m3⟩
    ·exact .inl k2
    ·exact .inr ⟨gg,M,K,m1,Nat.le_trans hh.below.size m2,m3⟩
   have a4:∀b,I.ownBlock=some b->w.heap.size<=b:=fun b a2=>by
    rcases k2 with⟨rfl,_⟩|⟨gg,M,K,rfl,m2,_⟩
    ·cases a2
    ·simp only[Value.ownBlock,Bc]at a2;omega
   have a7:∃a n c,I=.slice a n c:=by
    rcases k2 with⟨rfl,_⟩|⟨gg,M,K,rfl,_⟩<;>exact⟨_,_,_,rfl⟩
   obtain⟨β',j1,j2,j3,j4⟩:=Y4 hh (O nx (Nat.le_refl _)) (w':=w') ⟨hb.os,hb.tape,hb.output,hb.size,fun k Z _=>hb.block k Z⟩ t a4 a7 b2 (by rw[f];exact a1) (by rw[f];exact b0)
   have m:∀i,(o.set nx (some (.row e es 0 0))).get i=BY o.get [(nx,some (.row e es 0 0))] i:=fun i=>by rw[Tr.Cj,EV]
   have Z:∀i,i≠nx->F0 β β' o.get (o.set nx (some (.row e es 0 0))).get i:=fun i AA hf=>by
    obtain⟨BI,BD,B9⟩:=j4 i AA hf;exact⟨by rw[m];exact BI,BD,B9⟩
   exact⟨I,β',G,rfl,by omega,⟨j1,fun i AA=>Z i (by omega)⟩,j3.eq m,fun i AA=>(Z i (by omega)).fresh (O i (by omega)),j2⟩
  cases A with
  | none =>
   have h0:es=[]:=by
    rcases p with h0|⟨b,off,e',J,hA,_⟩
    ·exact h0
    ·cases hA
   subst h0;refine Calls.mono (z _ _ w) fun x w' hx=>?_;obtain⟨rfl,rfl⟩:=hx;exact W _ _ [] (World.ownsRow_nil _ _ _ _) (Below.refl _ _) (CU.2 rfl) (by simp)
  | some a =>
   have s:∃news,news.length=es.length*C.size/\Ae β G es.flatten news/\(∀j u,news[j]? = some u->w.cell? (a.add j)=some u)/\(∀u∈news,u.oneCell'=true)/\∀c∈es,c.length=C.size/\B4 c=true/\c.all Ct=true:=by
    rcases p with rfl|⟨b,off,e',J,hA,h1,h2,h3⟩
    ·exact⟨[],by simp,CU.2 rfl,by simp,by simp,by simp⟩
    ·cases hA;refine⟨J,by rw[FR h2,kV l],h2,fun j u hj=>by rw[HI];exact h3 j u hj,Xk ?_ h2,fun c hc=>⟨l c hc,(h1 c hc).2⟩⟩
     rw[List.all_eq_true];intro y hy;obtain⟨c,hc,hy⟩:=List.mem_flatten.1 hy;exact List.all_eq_true.1 (h1 c hc).2.2 y hy
   obtain⟨news,n1,n2,n3,n4,n5⟩:=s;refine Calls.mono (a5 a es.length c news w n1 (by unfold maxLen;omega) (by omega) n3 n4) fun x w' hx=>?_
   obtain⟨I,rfl,d,hb⟩:=hx;exact W I w' news d hb n2 n5
 ·cases h
theorem Ab6:∀{es:List (List AB)} {l:List Int},PS es=some l->es=l.map fun n=>[AB.int .i64 n]
 | [],l,h=>by simp only[PS,Bc]at h;subst h;rfl
 | c::es,l,h=>by
  unfold PS at h;split at h
  ·rename_i a;cases a
  ·rename_i n d a;cases a;obtain⟨e,b,h⟩:=AD h;cases h;rw[Ab6 b];rfl
  ·cases h
theorem jX (n:Int):∀l:List Int,(Lx n l).Perm (n::l)
 | []=>List.Perm.refl _
 | m::l=>by
  unfold Lx;cases decide (n<=m)with
  | true=>exact List.Perm.refl _
  | false=>exact((jX n l).cons m).trans (List.Perm.swap n m l)
theorem Xm:∀l:List Int,(He l).Perm l
 | []=>List.Perm.refl _
 | n::l=>(jX n (He l)).trans ((Xm l).cons n)
theorem zK (n:Int):∀l:List Int,l.Pairwise (· <= ·)->(Lx n l).Pairwise (· <= ·)
 | [],_=>by simp[Lx]
 | m::l,h=>by
  obtain⟨b,c⟩:=List.pairwise_cons.1 h;unfold Lx
  by_cases hc:n<=m
  ·rw[decide_eq_true hc];exact List.pairwise_cons.2 ⟨fun x a=>by
    rcases DK.1 a with rfl|a
    ·exact hc
    ·exact Int.le_trans hc (b x a),h⟩
  ·rw[decide_eq_false hc];refine List.pairwise_cons.2 ⟨fun x a=>?_,zK n l c⟩;rcases DK.1 ((jX n l).mem_iff.1 a)with rfl|a
   ·omega
   ·exact b x a
theorem zB:∀l:List Int,(He l).Pairwise (· <= ·)
 | []=>List.Pairwise.nil
 | n::l=>zK n _ (zB l)
theorem AlD {l i:List Int} (h:i.Perm l):(i.mergeSort fun x y=>decide (x<=y))=He l:=by
 refine List.Perm.eq_of_pairwise (le:=fun a b=>a<=b) (fun a b _ _ e d=>Int.le_antisymm e d) ?_ (zB l) (((List.mergeSort_perm i _).trans h).trans (Xm l).symm);have:=List.pairwise_mergeSort (le:=fun x y:Int=>decide (x<=y)) (fun a b c e d=>by simp only[Ew]at *;omega) (fun a b=>by simp only[Bool.or_eq_true,Ew];omega) i
 exact this.imp fun h=>by simpa using h
theorem Amq {es fs:List (List AB)} {l:List Int} (h:es=l.map fun n=>[AB.int .i64 n]) (a:fs.Perm es):∃d:List Int,d.Perm l/\fs=d.map fun n=>[AB.int .i64 n]:=by
 have hc:∀c∈fs,∃n,c=[AB.int .i64 n]:=fun c hc=>by
  have:=a.mem_iff.1 hc;rw[h]at this;obtain⟨n,_,rfl⟩:=List.mem_map.1 this;exact⟨n,rfl⟩
 have e:∀fs:List (List AB),(∀c∈fs,∃n,c=[AB.int .i64 n])->∃d:List Int,fs=d.map fun n=>[AB.int .i64 n]:=fun fs=>by
  induction fs with
  | nil=>intro _;exact⟨[],rfl⟩
  | cons c fs ih =>
   intro h;obtain⟨n,rfl⟩:=h c (by simp)
   obtain⟨d,rfl⟩:=ih fun c hc=>h c (by simp[hc])
   exact⟨n::d,rfl⟩
 obtain⟨d,rfl⟩:=e fs hc;refine⟨d,?_,rfl⟩;rw[h]at a;have:=a.map (fun c:List AB=>match c with|[.int _ n]=>n|_=>0)
 simpa[Function.comp_def]using this
theorem Aaq {β:BB} {G:Aj}:∀{l:List Int} {d:List Value},Ae β G ((l.map fun n=>[AB.int .i64 n]).flatten) d->d=l.map (Value.int .i64)
 | [],d,h=>by rw[show((([]:List Int).map fun n=>[AB.int .i64 n]).flatten)=[]from rfl,CU]at h;subst h;rfl
 | n::l,d,h=>by
  obtain⟨v,vs,rfl,b,a⟩:=CE.1 (show Ae β G (AB.int .i64 n::(l.map fun n=>[AB.int .i64 n]).flatten) d from h);rw[DX.1 b,Aaq a];rfl
theorem AaL {β:BB} {G:Aj}:∀(l:List Int),Ae β G ((l.map fun n=>[AB.int .i64 n]).flatten) (l.map (Value.int .i64))
 | []=>CU.2 rfl
 | n::l=>CE.2 ⟨_,_,rfl,DX.2 rfl,AaL l⟩
theorem Anj {g:Nat} {e:TypeId} (hc:Ut P g e) {as:List AB} {o:Tr A8} {nx:Nat} {r:AB} {o':Tr A8} {a3:Nat} (z:SE e as o nx=some (r,o',a3)):GY P g ∧
   ∀(w0:World) (G0:Aj) (D:CW) (w:World) (β:BB) (G:Aj) (vs:Array Value),Ax E w0 G0 D w β G o.get->(∀id,nx<=id->C3 β o.get id)->Ae β G as vs.toList →
    Calls P g vs w (Iz E w0 G0 D β G o nx r o' a3):=by
 obtain⟨a2,hcs,t⟩:=hc;refine⟨a2,fun w0 G0 D w β G vs hh W I=>?_⟩;unfold SE at z;split at z
 ·cases z;obtain⟨u,rfl,AH⟩:=iJ I;rw[L1]at AH;subst AH;refine Calls.mono (t w) fun x w' M=>?_;obtain⟨rfl,rfl⟩:=M;exact⟨.tuple #[],β,G,rfl,Nat.le_refl _,D6.refl _ _ _ _,hh,W,HU.2 ⟨[],rfl,CU.2 rfl⟩⟩
 ·rename_i id v;split at z
  ·rename_i e' es u y;obtain⟨O,Z⟩:=Ad z;clear z;simp only[Ar]at O;obtain⟨⟨BI,BD⟩,B9⟩:=O;obtain rfl:=Al BI;obtain rfl:=Al BD;obtain⟨l,hl,b8⟩:=AD Z;clear Z;cases b8;obtain⟨fs,hp,Am,b9,k1,k2,k3,k4,k5,k6,k7⟩:=hh.obj id _ y;obtain⟨C,a1,rfl⟩:=Amq (Ab6 hl) hp;have Q:=Aaq k3;subst Q;have a7:C.length<=1000000:=by
    have h1:=hp.length_eq;have h2:=DF B9;simp only[List.length_map]at h1;omega
   have j:(He l).length=C.length:=by rw[(Xm l).length_eq,a1.length_eq]
   obtain⟨uu,rfl,AH⟩:=iJ I;obtain⟨a5,_⟩:=IK.1 AH;rw[k1]at a5;cases a5;have b1:∀c∈(He l).map fun n=>[AB.int .i64 n],c.length=E0 E e'/\B4 c=true/\c.all Ct=true:=fun c b4=>by
    obtain⟨n,hn,rfl⟩:=List.mem_map.1 b4;have b7:n∈C:=a1.mem_iff.2 ((Xm l).mem_iff.1 hn);exact⟨(k4 [.int .i64 n] (List.mem_map.2 ⟨n,b7,rfl⟩)).1,rfl,rfl⟩
   have p:∀(x:A8) (i:Nat),(o.set id (some x)).get i=BY o.get [(id,some x)] i:=fun x i=>by rw[Tr.Cj,EV]
   have a8:∀(w':World) (T:Nat->Prop),Below w0.heap.size w0 w'->(∀b,¬T b->b<w.heap.size->w'.heap[b]? = w.heap[b]?)->w.heap.size<=w'.heap.size->(∀b,T b->Cc β id (.Ea e' es u) b) →
     w'.ownsRow w0.heap.size e' (E0 E e') Am ((He l).map fun n=>[AB.int .i64 n]).length ((He l).map (Value.int .i64))->Iz E w0 G0 D β G o nx (.Ap []) (o.set id (some (.row e' ((He l).map fun n=>[.int .i64 n]) 0 u))) nx (.returned (.tuple #[])) w':=fun w' T hb b0 b5 hT a4=>by
    have b2:∀b,T b->∀off,G b off=none:=fun b a off=>by
     obtain⟨n,c,O⟩:=hT b a;rw[k1]at O;cases O;exact k6 b rfl off (by simp[Jq])
    have b6:=hh.move (w':=w') T id (.row e' ((He l).map fun n=>[.int .i64 n]) 0 u) (Ext.refl β G) hb b0 (fun _ _=>rfl) b5 (fun b a=>by
      obtain⟨m1,m2,m3⟩:=hh.own id _ b y (hT b a);exact⟨m1,m3⟩) (fun b i x a M J=>hh.inj i id x _ b M y J (hT b a)) (fun b a off v hv=>by rw[b2 b a off]at hv;cases hv)
     ⟨Am,_,k1,a4,AaL _,b1,⟨k5.1,by simp[Jq]⟩,fun b a off c0=>k6 b a off (by simp[Jq]),k7⟩
     (fun b a=>.inr ⟨_,y,a⟩) (fun b a=>by
      obtain⟨m1,m2,m3⟩:=hh.own id _ b y a;omega) (fun _ _=>⟨rfl,fun _=>rfl⟩)
    refine⟨.tuple #[],β,G,rfl,Nat.le_refl _,⟨Ext.refl β G,fun i _ AA=>?_⟩,b6.eq (p _),fun i AA=>?_,HU.2 ⟨[],rfl,CU.2 rfl⟩⟩
    ·have a0:i≠id:=fun q=>by rw[q,y]at AA;cases AA
     exact⟨by rw[p,EV,if_neg a0];exact AA,rfl,fun _=>rfl⟩
    ·have hf:=W i AA;have a0:i≠id:=fun q=>by have:=hf.h;rw[q,y]at this;cases this
     exact⟨hf.BE,hf.Am,by rw[p,EV,if_neg a0];exact hf.h⟩
   have f:0<C.length->E0 E e'=1:=fun d=>by
    cases C with
    | nil=>cases d
    | cons n C=>exact((k4 [.int .i64 n] (by simp)).1).symm
   obtain⟨j1,j2⟩:=k2;rcases j2 with⟨rfl,j2⟩|⟨gg,a6,K,rfl,j3,j4,j5,j6,j7,j8⟩
   ·refine Calls.mono (t w) fun x w' M=>?_;obtain⟨rfl,rfl⟩:=M;have d:(He l).length=0:=by simp only[List.length_map]at j2;omega
    refine a8 w' (fun _=>False) hh.below (fun _ _ _=>rfl) (Nat.le_refl _) (fun _ hf=>hf.elim) ⟨?_,.inl ⟨rfl,by simpa using d⟩⟩
    simp[d]
   ·simp only[List.length_map]at j5 j8 AH⊢;have m:K.toList.take C.length=C.map (Value.int .i64):=by
     rcases Nat.eq_zero_or_pos C.length with d|d
     ·have:C=[]:=List.eq_nil_of_length_eq_zero d;subst this;rfl
     ·rw[f d,Nat.mul_one]at j8;exact j8
    have a9:C.length<=K.size:=by
     have:=congrArg List.length m;simp only[List.length_take,List.length_map,Array.length_toList]at this;omega
    refine Calls.mono (hcs gg a6 C K w j4 m a9 a7) fun x w' M=>?_;obtain⟨rfl,hg,U,Aw,BS,CK⟩:=M;have s:Cc β id (.Ea e' es u) gg:=⟨_,_,k1⟩;obtain⟨m1,m2,m3⟩:=hh.own id _ gg y s;refine a8 w' (fun b=>b=gg) (hh.below.grown hg hh.below.size (fun k hk=>by cases hk;exact m1)) (fun b hb b3=>hg.block b b3 (fun O=>hb (by cases O;rfl))) hg.size (fun b hb=>by subst hb;exact s) ⟨?_,.inr ⟨gg,a6,U,by simp[j],j3,Aw,by simpa[j]using j5,j6,by rw[BS];exact j7,?_⟩⟩
    ·simp only[List.length_map,j];rcases Nat.eq_zero_or_pos C.length with d|d
     ·rw[d];simp
     ·rw[f d,Nat.mul_one]
    ·simp only[List.length_map,j];rw[AlD a1]at CK;rcases Nat.eq_zero_or_pos C.length with d|d
     ·rw[d]at j;rw[List.eq_nil_of_length_eq_zero j,d];simp
     ·rw[f d,Nat.mul_one];exact CK
  ·cases z
 ·cases z
end
end Go.Ab
namespace Go.Ab
open Go.RowKit
section
variable {P:Program} {E:Env}
structure Nk (P:Program) (E:Env):Prop where
 fn:∀f F,E.fn f=some F->nX P f F
 leaf:∀g L as d,E.leaf g=some L->L as=some d->GY P g/\∀(w:World) (β:BB) (G:Aj) (vs:Array Value),E.inv w->(∀b o v,G b o=some v->w.cell? ⟨b,o,none⟩=some v)->Ae β G as vs.toList->B4 as=true →
  Calls P g vs w fun e w'=>∃v G',e=.returned v/\Below w.heap.size w w'/\(∀b,b<w.heap.size->G' b=G b)/\(∀b o v,G' b o=some v->w'.cell? ⟨b,o,none⟩=some v)/\AO β G' d v
 OB:∀g,E.OB g=true->nI P g
 Hh:∀g t,E.Hh g=some t->GY P g/\∀(w:World) (b:Nat) (p v:Value),w.heap[b]? = some (.cells #[p,v] t (0,0))->(p=.pointer none\/p=.pointer (some ⟨b,0,none⟩)) →
  Calls P g #[.pointer (some ⟨b,0,none⟩)] w fun e w'=>e=.returned (.tuple #[])/\Below 0 w w'/\w'.heap.size=w.heap.size/\(∀k,k≠b->w'.heap[k]? = w.heap[k]?)/\w'.heap[b]? = some (.cells #[.pointer (some ⟨b,0,none⟩),v] t (0,0))
 Mr:∀g e,E.Mr g=some e->∃ei,E.ty e=some ei/\Nj P g e ei.size ei.bytes
 Mz:∀g e,E.Mz g=some e->Ut P g e
def Aow (E:Env) (n:Nat) (g:Nat) (as:List AB):Option AB:=(B8 E n false g as .leaf 0).bind fun x=>BP x.2.1.get x.1
def Rt (callH:D5) (g:Nat) (as:List AB):Option AB:=(callH g as .leaf 0).bind fun x=>BP x.2.1.get x.1
theorem AnD {callH:D5} (l:HW P E callH):Kp P E (Rt callH):=fun g as d j=>by
 unfold Rt at j;obtain⟨⟨r,u,J⟩,n,k⟩:=AD j;obtain⟨b,hcs⟩:=l _ _ _ _ _ _ _ n;refine⟨b,fun w β G vs z C q hid=>?_⟩;have hh:Ax E w G (fun _=>none) w ⟨fun _=>none,fun _ _=>none⟩ G (Tr.leaf:Tr A8).get :=
  ⟨Below.refl _ _,fun _ _=>rfl,C,fun _ _ h=>(by cases h),fun _ _ _ h=>(by cases h),fun _ _ _ _ _ h=>(by cases h),fun _ _ h=>(by cases h),z⟩
 refine Calls.mono (hcs w G (fun _=>none) w _ G vs hh (fun _ _=>⟨rfl,fun _=>rfl,rfl⟩) (Ae.free as _ hid q)) fun e w' m=>?_;obtain⟨v,β',G',rfl,_,_,i,_,AH⟩:=m;obtain⟨I,c,a,f⟩:=N2 i (B3 r);obtain⟨k1,k2⟩:=R3 c (On _ _) k f AH;exact⟨v,I,rfl,a.below,a.g0,a.agree,k2,AO.free d v k2 k1⟩
theorem iD {n:Nat} (a:HW P E (B8 E n false)):Kp P E (Aow E n):=AnD a
theorem AmU (hE:∀t ti,E.ty t=some ti->Br P t ti) (k:Nk P E) (h:P.follows .mixedOrders=true) {n:Nat} {call:Nat->List AB->Option AB} {callH callY:D5} (hp:Kp P E call) (hH:HW P E callH) (hY:J7 P E callY):HW P E (JI E call callH callY n) :=
 fun g as AM nx r K U a=>by
  unfold JI at a;obtain⟨F,W,a⟩:=AD a;obtain⟨a0,a⟩:=Ad a;obtain⟨⟨ex,I⟩,hc,a⟩:=AD a;obtain⟨⟨fn,z,y,o,u⟩,j⟩:=k.fn g F W;refine⟨j,fun w0 G0 D w β G vs hh Q J=>?_⟩;have Z:as.length<=F.AU:=DF a0;have p:=FR J;have a1:vs.size=as.length:=by simpa using p
  have e:∃rs,G6 E I.base.get I.AM.get F.JQ=some rs/\r=Hz rs/\K=I.AM/\U=I.next/\(ex=.normal\/ex=.ret):=by
   cases ex with
   | normal=>obtain⟨rs,f,c⟩:=AD a;cases c;exact⟨rs,f,rfl,rfl,rfl,.inl rfl⟩
   | ret=>obtain⟨rs,f,c⟩:=AD a;cases c;exact⟨rs,f,rfl,rfl,rfl,.inr rfl⟩
   | exit i=>cases a
   | busy=>cases a
  obtain⟨rs,q,rfl,rfl,rfl,x⟩:=e;refine(callsIn_wide (n:=0)).1 (callsIn_of_wp_marks z y trivial ?_);rw[o];have hm:ER E w0 G0 D F.E6 F.AU [] ⟨Kl F.E6 0 as .leaf,AM,nx⟩ { tmps:=vs++Array.replicate (F.AU-vs.size) undef,defers:=[] } w β G:=by
   refine⟨fun t d ht=>?_,fun t d ht=>?_,?_,by rw[kK];exact hh,Q,JG.nil,List.nodup_nil,by simp⟩
   ·rcases iL as 0 .leaf t d ht with⟨_,c,_⟩|f
    ·obtain⟨v,l,s⟩:=RV J (i:=t) (d:=d) (by simpa using c)
     refine⟨v,?_,s⟩;have h5:vs[t]? = some v:=by simpa using l
     have m:t<vs.size:=(Gv.1 h5).1;show(vs++Array.replicate (F.AU-vs.size) undef)[t]? = some v;rw[Array.getElem?_append_left m];exact h5
    ·cases f
   ·rcases iL as 0 .leaf t d ht with⟨_,_,l⟩|f
    ·exact l
    ·cases f
   ·show(vs++Array.replicate (F.AU-vs.size) undef).size=F.AU;simp;omega
  have b:∀C M w' β' G',nx<=I.next->ER E w0 G0 D F.E6 F.AU C I M w' β' G'->D6 nx β G β' G' AM.get I.AM.get →
    LeavesInM Fence.wide 0 P fn M.tmps (Iz E w0 G0 D β G AM nx (Hz rs) I.AM I.next) M.defers .returning w':=fun C M w' β' G' k1 k2 O=>by
   refine Al6 k.OB (fun w2 c=>?_) k2.df.1 w' k2.df.2 k2.AH;obtain⟨v,l,s⟩:=AkZ hE k2.B0 c u q;exact⟨v,l,v,β',G',rfl,k1,O,c,k2.fresh,s⟩
  refine jS (ro:=none) (Cb:=none) hE h hp hH hY W n F.body 0 _ ex I hc [] _ w β G _ rfl hm fun C M w' β' G' k1 k2 O=>?_;rcases x with rfl|rfl
  ·exact b C M w' β' G' k1 k2 O
  ·exact b C M w' β' G' k1 k2 O
theorem Amr (f:Nk P E) {g:Nat} {L:List AB->Option AB} (Bn:E.leaf g=some L) {as:List AB} {o:Tr A8} {nx:Nat} {r:AB} {o':Tr A8} {q:Nat}
  (a:(bif B4 as then(L as).bind fun r=>bif BW r then some (r,o,nx)else none else none)=some (r,o',q)):GY P g ∧
   ∀(w0:World) (G0:Aj) (D:CW) (w:World) (β:BB) (G:Aj) (vs:Array Value),Ax E w0 G0 D w β G o.get->(∀id,nx<=id->C3 β o.get id)->Ae β G as vs.toList →
    Calls P g vs w (Iz E w0 G0 D β G o nx r o' q):=by
 obtain⟨h,a⟩:=Ad a;obtain⟨d,m,a⟩:=AD a;obtain⟨_,a⟩:=Ad a;cases a;obtain⟨b,hc⟩:=f.leaf g L as r Bn m;refine⟨b,fun w0 G0 D w β G vs hh z u=>Calls.mono (hc w β G vs hh.inv hh.agree u h) fun e w' l=>?_⟩;obtain⟨v,G',rfl,hb,j,c,AH⟩:=l;obtain⟨i,k⟩:=hh.grow hb j c;exact⟨v,β,G',rfl,Nat.le_refl _,⟨k,fun id _=>F0.refl β o.get id⟩,i,z,AH⟩
theorem AnJ (a5:Nk P E) {g:Nat} {t:TypeId} (hc:E.Hh g=some t) {as:List AB} {o:Tr A8} {nx:Nat} {r:AB} {o':Tr A8} {C:Nat} (d:oN t as o nx=some (r,o',C)):GY P g ∧
   ∀(w0:World) (G0:Aj) (D:CW) (w:World) (β:BB) (G:Aj) (vs:Array Value),Ax E w0 G0 D w β G o.get->(∀id,nx<=id->C3 β o.get id)->Ae β G as vs.toList →
    Calls P g vs w (Iz E w0 G0 D β G o nx r o' C):=by
 obtain⟨s,hcs⟩:=a5.Hh g t hc;refine⟨s,fun w0 G0 D w β G vs hh J I=>?_⟩;unfold oN at d;split at d
 ·rename_i id;split at d
  ·rename_i t' c0 Aw n;obtain⟨W,d⟩:=Ad d;cases d;simp only[Ar]at W;obtain⟨BI,BD⟩:=W;obtain rfl:=Al BI;obtain⟨b,cs,k1,k2,Z,k4,k5⟩:=hh.obj id _ n;obtain⟨u,us,a6,hu,M⟩:=CE.1 I;rw[CU]at M;subst M;obtain⟨b',Q,rfl⟩:=Ja.1 hu;rw[k1]at Q;cases Q;obtain⟨p,AP,y,K,b0⟩:=CE.1 Z;obtain⟨q,AhZ,rfl,a7,z⟩:=CE.1 b0;rw[CU]at z;subst z;have m:w.heap[b]? = some (.cells #[p,q] t' (0,0)):=by
    rw[k2];congr 2;exact HJ y
   have a9:p=.pointer none\/p=.pointer (some ⟨b,0,none⟩):=by
    split at BD
    ·exact .inl (YG.1 K)
    ·rename_i j;obtain rfl:=Al BD;obtain⟨b2,U,rfl⟩:=Ja.1 K;rw[k1]at U;cases U;exact .inr rfl
    ·cases BD
   have a2:vs = #[.pointer (some ⟨b,0,none⟩)]:=HJ a6;subst a2;refine Calls.mono (hcs w b p q m a9) fun e w' he=>?_;obtain⟨rfl,hb,b3,f,a3⟩:=he;obtain⟨m1,m2,m3⟩:=hh.own id _ b n k1;have O:∀off,G b off=none:=k5;have b1:Ct Aw=true:=by
    have:=k4;simp only[EW,Ar]at this;exact this.2.1
   have a8:Ax E w0 G0 D w' β G (BY o.get [(id,some (.cells t' [.ptr id 0,Aw]))]) :=
    hh.move (fun k=>k=b) id (.cells t' [.ptr id 0,Aw]) (Ext.refl β G) (hh.below.trans ⟨hb.os,hb.tape,hb.output,hb.size,fun k a=>f k (by omega)⟩)
     (fun k a _=>f k a) (fun _ _=>rfl) (by omega) (fun k a=>by subst a;exact⟨m1,m3⟩) (fun k i x a hx a0=>by subst a;exact hh.inj i id x _ k hx n a0 k1)
     (fun k a off v hv=>by subst a;rw[O off]at hv;cases hv)
     ⟨b,#[.pointer (some ⟨b,0,none⟩),q],k1,a3,CE.2 ⟨_,_,rfl,Ja.2 ⟨b,k1,rfl⟩,CE.2 ⟨_,_,rfl,a7,CU.2 rfl⟩⟩,by simp only[EW,b1,List.all_nil];rfl,O⟩
     (fun k a=>.inr ⟨_,n,a⟩) (fun k a=>by have:β.BE id=some k:=a;rw[k1]at this;cases this;omega) (fun _ _=>⟨rfl,fun _=>rfl⟩)
   have c:∀i,(o.set id (some (.cells t' [.ptr id 0,Aw]))).get i=BY o.get [(id,some (.cells t' [.ptr id 0,Aw]))] i:=fun i=>by
    rw[Tr.Cj,EV]
   refine⟨.tuple #[],β,G,rfl,Nat.le_refl _,⟨Ext.refl β G,fun i _ AA=>?_⟩,a8.eq c,fun i AA=>?_,HU.2 ⟨[],rfl,CU.2 rfl⟩⟩
   ·have l:i≠id:=fun q=>by rw[q,n]at AA;cases AA
    exact⟨by rw[c,EV,if_neg l];exact AA,rfl,fun _=>rfl⟩
   ·have hf:=J i AA;have l:i≠id:=fun q=>by have:=hf.h;rw[q,n]at this;cases this
    exact⟨hf.BE,hf.Am,by rw[c,EV,if_neg l];exact hf.h⟩
  ·cases d
 ·cases d
theorem An0 (b:Nk P E) {run:D5} (AH:HW P E run):HW P E (fun g as o nx=>JF E g run g as o nx):=fun g as o nx r o' j a=>by
 simp only[JF]at a;cases Bn:E.leaf g with
 | some L=>rw[Bn]at a;exact Amr b Bn a
 | none =>
  rw[Bn]at a;cases hc:E.Hh g with
  | some t=>rw[hc]at a;exact AnJ b hc a
  | none =>
   rw[hc]at a;cases i:E.Mr g with
   | some e =>
    rw[i]at a;obtain⟨l,c,d⟩:=b.Mr g e i;exact AmB c d a
   | none =>
    rw[i]at a;cases hs:E.Mz g with
    | some e =>
     rw[hs]at a;simp only at a;split at a
     ·rename_i c;cases a;exact Anj (b.Mz g e hs) c
     ·exact AH g as o nx r o' j a
    | none=>rw[hs]at a;exact AH g as o nx r o' j a
theorem AmJ (hE:∀t ti,E.ty t=some ti->Br P t ti) (b:Nk P E) (a:P.follows .mixedOrders=true) {n:Nat} (c:HW P E (B8 E n false)) (d:J7 P E (B8 E n true)):HW P E (B8 E (n+1) false) :=
 An0 b (Ame (AmU (n:=n) hE b a (iD c) c d))
def P5 (E:Env) (call:Nat->List AB->Option AB) (callH callY:D5) (n:Nat):D5:=fun l args AM next=>(match AM.get l with
  | some (.loop Bj base AP assign body Af .normal)=>(E.fn Bj).bind fun F=>(Kh F.E6 F.AU AP args base).bind fun b =>
    let run:=CY E (some l) Bj F call callH callY n Af
    (run assign ⟨b,AM,next⟩).bind fun r=>(match r.1,r.2.AM.get l with
    | .normal,some (.loop J u M e q C .normal)=>(run body { r.2 with AM:=r.2.AM.set l (some (.loop J u M e q C .busy)) }).bind fun r=>(match r.1,r.2.AM.get l with
     | .busy,_=>none
     | ex,some (.loop z i K d j I .busy)=>some (.bool (match ex with | .normal=>true|_=>false),r.2.AM.set l (some (.loop z i K d j I ex)),r.2.next)
     | _,_=>none)
    | _,_=>none)
  | _=>none)
theorem AlN (hE:∀t ti,E.ty t=some ti->Br P t ti) (q:P.follows .mixedOrders=true) {n:Nat} {call:Nat->List AB->Option AB} {callH callY:D5} (hp:Kp P E call) (hH:HW P E callH) (hY:J7 P E callY):J7 P E (P5 E call callH callY n) :=
 fun l as AM nx r c7 d4 c w0 G0 D w β G vs b hb hh d3 d0=>by
  unfold P5 at c;split at c
  ·rename_i Bj base AP assign body Af b2;obtain⟨F,hF,c⟩:=AD c;obtain⟨b1,a5,c⟩:=AD c;obtain⟨⟨d1,s1⟩,d5,c⟩:=AD c;obtain⟨b',CP,df,fn,F',k1,k2,k3,k4,k5,k6⟩:=hh.obj l _ b2;rw[hb]at k1;cases k1;rw[hF]at k4;cases k4;obtain⟨m1,m2,m3,m4⟩:=xV AP as base b1 vs.toList CP a5 d0 k3 k5 k6;have b0:vs.size=AP.toArray.size:=by simpa using m1.symm
   have z:(AP.toArray.zip vs).foldl (fun tmps (t,a)=>tmps.setIfInBounds t a) CP=(AP.zip vs.toList).foldl (fun tmps (t,a)=>tmps.setIfInBounds t a) CP:=by
    rw[<-Array.foldl_toList];simp
   refine⟨fn,_,assign,body,run_yield k2 b0,fun n=>?_⟩;refine roundIn_of_wpIn trivial ?_;simp only;rw[z];have hm:ER E w0 G0 D F.E6 F.AU [] ⟨b1,AM,nx⟩ { tmps:=(AP.zip vs.toList).foldl (fun tmps (t,a)=>tmps.setIfInBounds t a) CP,defers:=[] } w β G :=
    ⟨m2,m4,m3,by rw[kK];exact hh,d3,JG.nil,List.nodup_nil,by simp⟩
   refine jS (ro:=some b) (Cb:=some l) hE q hp hH hY hF _ assign Af _ d1 s1 d5 [] _ w β G _ ⟨b,rfl,hb⟩ hm fun c0 a1 w1 β1 G1 BI BD B9=>?_;split at c
   ·rename_i U b6 b3 Z W Q o f;replace o:d1=.normal:=o;replace f:s1.AM.get l=some (.loop U b6 b3 Z W Q .normal):=f;subst o;obtain⟨⟨C,s2⟩,a2,c⟩:=AD c;have j:β1.BE l=some b:=B9.ext.BE _ _ hb;obtain⟨d6,c6,c9,c8,F2,j1,j2,j3⟩:=BD.AH.obj l _ f;rw[j]at j1;cases j1;have v:∀id,F0 β1 β1 s1.AM.get (s1.AM.set l (some (.loop U b6 b3 Z W Q .busy))).get id:=fun id hf=>⟨by
     rw[Tr.Cj]
     by_cases e:id=l
     ·subst e;rw[hf]at f;cases f
     ·rw[if_neg e];exact hf,rfl,fun _=>rfl⟩
    have a8:Ax E w0 G0 (FD c0 D) (w1.putObj b (.loop { state:=.busy,pending:=HK .normal,fn:=c8,tmps:=c6,params:=b3.toArray,assign:=Z,body:=W,defers:=c9 })) β1 G1 (s1.AM.set l (some (.loop U b6 b3 Z W Q .busy))).get:=by
     refine(RX (o':=.loop U b6 b3 Z W Q .busy) (ob':=.loop { state:=.busy,pending:=HK .normal,fn:=c8,tmps:=c6,params:=b3.toArray,assign:=Z,body:=W,defers:=c9 }) BD.AH f j j2 (by simp) (fun x y=>?_) ?_).eq fun i=>by rw[Tr.Cj,EV]
     ·simp only[Cc]at y;rw[j]at y;cases y;rfl
     ·exact⟨b,c6,c9,c8,F2,j,by rw[World.putObj_heap_same (Gv.1 j2).1];simp[HK],j3⟩
    refine⟨_,run_beginRound j2 rfl,?_⟩;refine jS (ro:=some b) (Cb:=some l) hE q hp hH hY hF _ body Af { s1 with AM:=s1.AM.set l (some (.loop U b6 b3 Z W Q .busy)) } C s2 a2 c0 a1 _ β1 G1 _ ⟨b,rfl,j⟩
     ⟨BD.B0,BD.GS,BD.EI,a8,fun id m=>(v id).fresh (BD.fresh id m),BD.df⟩ fun d2 a3 w3 β3 G3 p1 p2 p3=>?_
    have a0:C≠.busy/\∃J b5 M O K I,s2.AM.get l=some (.loop J b5 M O K I .busy)/\r=.bool (HK C).isNone/\c7=s2.AM.set l (some (.loop J b5 M O K I C))/\d4=s2.next:=by
     split at c
     ·cases c
     ·rename_i a4 a7;cases c;have u:C≠.busy:=fun e=>a7 e;refine⟨u,_,_,_,_,_,_,a4,?_,rfl,rfl⟩;clear a2 a4;cases C<;>first|rfl|exact absurd rfl u
     ·cases c
    obtain⟨a6,J,b5,M,O,K,I,h,rfl,rfl,rfl⟩:=a0;have p:β3.BE l=some b:=p3.ext.BE _ _ j;obtain⟨b4,b8,b9,b7,F3,i1,i2,i3⟩:=p2.AH.obj l _ h;rw[p]at i1;cases i1;have k:=run_endRound (P:=P) (HK C) i2;have a9:Ax E w0 G0 (FD d2 D) (w3.putObj b (.loop { state:=(if(HK C).isNone then .ready else .done),pending:=HK C,fn:=b7,tmps:=b8,params:=M.toArray,assign:=O,body:=K,defers:=b9 })) β3 G3 (s2.AM.set l (some (.loop J b5 M O K I C))).get:=by
     refine(RX (o':=.loop J b5 M O K I C) (ob':=.loop { state:=(if(HK C).isNone then .ready else .done),pending:=HK C,fn:=b7,tmps:=b8,params:=M.toArray,assign:=O,body:=K,defers:=b9 }) p2.AH h p i2 (by simp) (fun x y=>?_) ?_).eq fun i=>by rw[Tr.Cj,EV]
     ·simp only[Cc]at y;rw[p]at y;cases y;rfl
     ·refine⟨b,b8,b9,b7,F3,p,?_,i3⟩;rw[World.putObj_heap_same (Gv.1 i2).1];cases C<;>simp[HK]at a6⊢
    have s:∀id,F0 β3 β3 s2.AM.get (s2.AM.set l (some (.loop J b5 M O K I C))).get id:=fun id hf=>⟨by
     rw[Tr.Cj]
     by_cases e:id=l
     ·subst e;rw[hf]at h;cases h
     ·rw[if_neg e];exact hf,rfl,fun _=>rfl⟩
    have g:Iz E w0 G0 D β G AM nx (.bool (HK C).isNone) (s2.AM.set l (some (.loop J b5 M O K I C))) s2.next (.returned (.bool (HK C).isNone)) (w3.putObj b (.loop { state:=(if(HK C).isNone then .ready else .done),pending:=HK C,fn:=b7,tmps:=b8,params:=M.toArray,assign:=O,body:=K,defers:=b9 })):=by
     refine⟨_,β3,G3,rfl,Nat.le_trans BI p1,B9.trans ⟨p3.ext,fun id m=>((v id).trans (p3.Cs id (Nat.lt_of_lt_of_le m BI))).trans (s id)⟩,a9.AsB (fun d x c=>?_),fun id m=>(s id).fresh (p2.fresh id m),Es.2 ?_⟩
     ·unfold FD;rw[if_neg (fun hm=>by rw[p2.df.2.2 d hm]at c;cases c)]
      exact c
     rfl
    cases C with
    | normal=>exact⟨_,_,k,g⟩
    | exit i=>exact⟨_,_,k,g⟩
    | ret=>exact⟨_,_,k,g⟩
    | busy=>exact absurd rfl a6
   ·cases c
  ·cases c
theorem Aml (hE:∀t ti,E.ty t=some ti->Br P t ti) (a:P.follows .mixedOrders=true) {n:Nat} (b:HW P E (B8 E n false)) (c:J7 P E (B8 E n true)):J7 P E (B8 E (n+1) true) :=
 AlN (n:=n) hE a (iD b) b c
def Mj (E:Env) (call:Nat->List AB->Option AB):Nat->Bool->D5
 | 0,_=>fun _ _ _ _=>none
 | n+1,false=>fun g as o nx=>JF E g (Kq E (JI E call (Mj E call n false) (Mj E call n true) n)) g as o nx
 | n+1,true=>P5 E call (Mj E call n false) (Mj E call n true) n
theorem AaE (hE:∀t ti,E.ty t=some ti->Br P t ti) (b:Nk P E) (a:P.follows .mixedOrders=true):∀n,HW P E (B8 E n false)/\J7 P E (B8 E n true)
 | 0=>⟨fun _ _ _ _ _ _ _ h=>by simp[B8]at h,fun _ _ _ _ _ _ _ h=>by simp[B8]at h⟩
 | n+1 =>
  have ih:=AaE hE b a n
  ⟨AmJ hE b a ih.1 ih.2,Aml hE a ih.1 ih.2⟩
theorem AoE (hE:∀t ti,E.ty t=some ti->Br P t ti) (h:Nk P E) (a:P.follows .mixedOrders=true) {n f:Nat} {as:List AB} {d:AB} (k:EQ E n f as=some d)
  {w:World} {β:BB} {G:Aj} {vs:Array Value} (j:E.inv w) (i:∀b o v,G b o=some v->w.cell? ⟨b,o,none⟩=some v) (c:Ae β G as vs.toList) (g:B4 as=true) :
  Calls P f vs w fun e w'=>∃v G',e=.returned v/\Below w.heap.size w w'/\(∀b,b<w.heap.size->G' b=G b)/\(∀b o v,G' b o=some v->w'.cell? ⟨b,o,none⟩=some v)/\BW d=true/\AO β G' d v :=
 ((iD (AaE hE h a n).1) f as d k).2 w β G vs j i c g
mutual
def GI:AB->AB->Bool
 | .bool a,.bool b=>a==b
 | .int k a,.int k' b=>k==k'&&a==b
 | .str a,.str b=>a.data.toList==b.data.toList
 | .Aq,.Aq=>true
 | .Bu,.Bu=>true
 | .AR a,.AR b=>VB a b
 | .agg a,.agg b=>Nr a b
 | _,_=>false
def Nr:List AB->List AB->Bool
 | [],[]=>true
 | a::as,b::bs=>GI a b&&Nr as bs
 | _,_=>false
def VB:List (List AB)->List (List AB)->Bool
 | [],[]=>true
 | a::as,b::bs=>Nr a b&&VB as bs
 | _,_=>false
end
mutual
theorem AnY:∀(a b:AB),GI a b=true->a=b
 | .bool a,b,h=>by cases b<;>simp[GI]at h;rw[h]
 | .int k a,b,h=>by cases b<;>simp[GI]at h;rw[h.1,h.2]
 | .str a,b,h=>by
  cases b<;>simp[GI]at h;rename_i b;cases a;cases b;simp only at h;rw[h]
 | .Aq,b,h=>by cases b<;>simp[GI]at h;rfl
 | .Bu,b,h=>by cases b<;>simp[GI]at h;rfl
 | .AR a,b,h=>by
  cases b<;>simp[GI]at h;rw[Abk _ _ h]
 | .agg a,b,h=>by
  cases b<;>simp[GI]at h;rw[YF _ _ h]
 | .ptr _ _,b,h=>by simp[GI]at h
 | .CO _ _ _ _ _,b,h=>by simp[GI]at h
 | .CN _,b,h=>by simp[GI]at h
 | .rs _ _,b,h=>by simp[GI]at h
 | .CV _ _ _ _ _,b,h=>by simp[GI]at h
 | .EG _,b,h=>by simp[GI]at h
 | .Ap _,b,h=>by simp[GI]at h
 | .fn _ _ _,b,h=>by simp[GI]at h
 | .A2,b,h=>by simp[GI]at h
 | .map _,b,h=>by simp[GI]at h
 | .Cv,b,h=>by simp[GI]at h
 | .iface _ _,b,h=>by simp[GI]at h
 | .Bl,b,h=>by simp[GI]at h
 | .iter _,b,h=>by simp[GI]at h
 | .B2 _,b,h=>by simp[GI]at h
theorem YF:∀(a b:List AB),Nr a b=true->a=b
 | [],b,h=>by cases b<;>simp[Nr]at h;rfl
 | a::as,b,h=>by
  cases b<;>simp[Nr]at h;rw[AnY _ _ h.1,YF _ _ h.2]
theorem Abk:∀(a b:List (List AB)),VB a b=true->a=b
 | [],b,h=>by cases b<;>simp[VB]at h;rfl
 | a::as,b,h=>by
  cases b<;>simp[VB]at h;rw[YF _ _ h.1,Abk _ _ h.2]
end
def VL:List (Nat×List AB×AB)->Nat->List AB->Option AB
 | [],_,_=>none
 | (f,xs,d)::l,g,as=>bif Nat.beq f g&&Nr xs as then some d else VL l g as
def Rn (E:Env) (l:List (Nat×List AB×AB)) (n:Nat) (g:Nat) (as:List AB):Option AB:=bif l.any fun e=>Nat.beq e.1 g then VL l g as else EQ E n g as
def oK (E:Env) (l:List (Nat×List AB×AB)) (n f:Nat) (as:List AB):Option AB:=Rt (Mj E (Rn E l n) n false) f as
end
end Go.Ab
namespace Go.Ab
open Go.RowKit
mutual
def Jc (P:Program):Nat->TypeId->List AB->Bool
 | 0,_,_=>false
 | d+1,t,l=>(match P.underlying t,l with
  | some .bool,[.bool _]=>true
  | some (.int k),[.int k' _]=>k==k'
  | some .string,[.str _]=>true
  | some (.struct fs),l => !P.stoodInHeld t&&La P d fs.toList 0 l
  | some (.array n e),l=>(match P.info? e with
   | some i=>Nat.beq l.length (n*i.size)&&(List.range n).all fun j=>Jc P d e ((l.drop (j*i.size)).take i.size)
   | none=>false)
  | _,_=>false)
def La (P:Program):Nat->List Field->Nat->List AB->Bool
 | _,[],off,zs=>Nat.ble zs.length off
 | 0,_::_,_,_=>false
 | d + 1, f :: fs, off, zs => f.name != "_" && Nat.beq f.offset off && (match P.info? f.type with
  | some i=>Nat.ble (off+i.size) zs.length&&Jc P d f.type ((zs.drop off).take i.size)&&La P d fs (off+i.size) zs
  | none=>false)
end
theorem HT:∀{d xs:List AB},C9 d xs=true->xs.length=d.length
 | [],[],_=>rfl
 | z::d,x::xs,h=>by
  cases z<;>cases x<;>simp only[C9,CI,Ar]at h
  ·simp[HT h]
  ·simp[HT h.2]
  ·simp[HT h]
 | [],x::xs,h=>by simp[C9]at h
 | z::d,[],h=>by cases z<;>simp[C9]at h
theorem J6:∀(k:Nat) {d xs:List AB},C9 d xs=true->C9 (d.take k) (xs.take k)=true/\C9 (d.drop k) (xs.drop k)=true
 | 0,d,xs,h=>⟨by simp[C9],by simpa using h⟩
 | k+1,[],[],_=>⟨by simp[C9],by simp[C9]⟩
 | k+1,z::d,x::xs,h=>by
  cases z<;>cases x<;>simp only[C9,CI,Ar]at h
  ·obtain⟨a,b⟩:=J6 k h;exact⟨by simpa[C9]using a,by simpa using b⟩
  ·obtain⟨a,b⟩:=J6 k h.2;exact⟨by simpa[C9]using ⟨by simpa using h.1,a⟩,by simpa using b⟩
  ·obtain⟨a,b⟩:=J6 k h;exact⟨by simpa[C9]using a,by simpa using b⟩
 | k+1,[],x::xs,h=>by simp[C9]at h
 | k+1,z::d,[],h=>by cases z<;>simp[C9]at h
def GA (P:Program) (t:TypeId) (vs:List Value):Value:=match P.underlying t with
 | some (.struct _)=>.agg vs.toArray
 | some (.array _ _)=>.agg vs.toArray
 | _=>vs.headD undef
section
variable {P:Program} {β:BB} {G:Aj}
theorem Ty:∀(k:Nat) {xs ys:List AB} {r:Bool},Bz xs ys=some r->∃i j,Bz (xs.take k) (ys.take k)=some i/\Bz (xs.drop k) (ys.drop k)=some j/\r=(i&&j)
 | 0,xs,ys,r,h=>⟨true,r,by simp[Bz],by simpa using h,by simp⟩
 | k+1,[],[],r,h=>⟨true,true,by simp[Bz],by simp[Bz],by simpa[Bz]using h.symm⟩
 | k+1,x::xs,[],r,h=>by cases x<;>simp[Bz]at h
 | k+1,[],y::ys,r,h=>by cases y<;>simp[Bz]at h
 | k+1,x::xs,y::ys,r,h=>by
  cases x<;>cases y<;>simp only[Bz,reduceCtorEq]at h
  ·rename_i a b;obtain⟨q,d,c⟩:=AD h;cases c;obtain⟨i,j,k1,k2,rfl⟩:=Ty k d;exact⟨(a==b&&i),j,by simp[Bz,k1],by simpa using k2,by rw[Bool.and_assoc]⟩
  ·rename_i u a l b;obtain⟨e,h⟩:=Ad h;obtain⟨q,d,c⟩:=AD h;cases c;obtain⟨i,j,k1,k2,rfl⟩:=Ty k d;exact⟨(a==b&&i),j,by simp[Bz,k1,e],by simpa using k2,by rw[Bool.and_assoc]⟩
  ·rename_i a b;obtain⟨q,d,c⟩:=AD h;cases c;obtain⟨i,j,k1,k2,rfl⟩:=Ty k d;exact⟨(a==b&&i),j,by simp[Bz,k1],by simpa using k2,by rw[Bool.and_assoc]⟩
theorem UX {d:Nat} {t:TypeId} {i:TypeInfo} (AA:P.info? t=some i) {z:List AB} (b:z.length=i.size) (hf:Jc P d t z=true) {vs:List Value} {off:Nat} (l:off+i.size<=vs.length) (w:World) :
  (part t vs.toArray off).run P w=.ok (GA P t ((vs.drop off).take i.size)) w:=by
 cases d with
 | zero=>simp[Jc]at hf
 | succ d =>
  have h:(sizeOf t).run P w=.ok i.size w:=by simp[sizeOf,typeInfo,AA]
  simp only[Jc]at hf;have plain:∀u,P.underlying t=some u->(match u with | .struct _ | .array _ _=>true|_=>false)=false->i.size=1->(part t vs.toArray off).run P w=.ok (GA P t ((vs.drop off).take i.size)) w:=fun u f c j=>by
   have a:(isAgg t).run P w=.ok false w:=by
    unfold isAgg;rw[Cz,C7 f w];cases u<;>first|rfl|(simp at c)
   have g:off<vs.length:=by omega
   have hv:GA P t ((vs.drop off).take i.size)=vs[off]:=by
    unfold GA;rw[f,j,HO g];cases u<;>first|rfl|(simp at c)
   unfold part;rw[Cz,a,hv];simp[Result.andThen,g]
  cases q:P.underlying t with
  | none=>rw[q]at hf;cases hf
  | some u =>
   rw[q]at hf;cases u with
   | bool =>
    split at hf<;>first|(rename_i e _;exact plain _ q rfl (by rw[<-b];rfl))|cases hf|simp_all
   | int k =>
    split at hf<;>first|(rename_i e _;exact plain _ q rfl (by rw[<-b];rfl))|cases hf|simp_all
   | string =>
    split at hf<;>first|(rename_i e _;exact plain _ q rfl (by rw[<-b];rfl))|cases hf|simp_all
   | struct fs =>
    have a:(isAgg t).run P w=.ok true w:=by unfold isAgg;rw[Cz,C7 q w];rfl
    unfold part GA;rw[Cz,a,q];simp[Result.andThen,h]
   | array n e =>
    have a:(isAgg t).run P w=.ok true w:=by unfold isAgg;rw[Cz,C7 q w];rfl
    unfold part GA;rw[Cz,a,q];simp[Result.andThen,h]
   | _=>simp at hf
theorem Ac5:∀(C:Nat),
  (∀(t:TypeId) (I:List AB),Jc P C t I=true->∀D,C<=D->∀(xs ys:List AB) (r:Bool) (CZ D2:List Value) (w:World),Bz xs ys=some r->C9 I xs=true->C9 I ys=true->Ae β G xs CZ->Ae β G ys D2 →
   (Op.equalIn D t (GA P t CZ) (GA P t D2)).run P w=.ok r w) ∧
  (∀(fs:List Field) (off:Nat) (I:List AB),La P C fs off I=true->∀D,C<=D->∀(xs ys:List AB) (r:Bool) (CZ D2:List Value) (w:World),Bz (xs.drop off) (ys.drop off)=some r->C9 I xs=true->C9 I ys=true->Ae β G xs CZ->Ae β G ys D2 →
   (Op.eqFields D CZ.toArray D2.toArray fs).run P w=.ok r w)
 | 0=>by
  refine⟨fun t n h=>by simp[Jc]at h,fun fs off I h D _ xs ys r CZ D2 w a g hy d b=>?_⟩
  cases fs with
  | cons f fs=>simp[La]at h
  | nil =>
   simp only[La]at h;have:=DF h;rw[G9 (by rw[HT g];exact this),G9 (by rw[HT hy];exact this)]at a
   simp only[Bz,Bc]at a;subst a;rfl
 | C+1=>by
  obtain⟨O,M⟩:=Ac5 C;refine⟨fun t I h D hD xs ys r CZ D2 w a g hy d b=>?_,fun fs off I h D hD xs ys r CZ D2 w a g hy d b=>?_⟩
  ·obtain⟨D,rfl⟩:∃D',D=D'+1:=⟨D-1,by omega⟩
   simp only[Jc]at h;have one:∀{I:List AB} {W:List Value},I.length=1->Ae β G I W->∃z v,I=[z]/\W=[v]/\AO β G z v:=fun {I W} hz AH=>by
    obtain⟨z,rfl⟩:=List.length_eq_one_iff.1 hz;obtain⟨v,b2,rfl,q,o⟩:=CE.1 AH;rw[CU]at o;subst o;exact⟨z,v,rfl,rfl,q⟩
   split at h
   ·rename_i j;obtain⟨x,u,rfl,rfl,q⟩:=one (HT g) d;obtain⟨y,v,rfl,rfl,o⟩:=one (HT hy) b;have hv:∀v:Value,GA P t [v]=v:=fun v=>by unfold GA;rw[j];rfl
    rw[hv,hv];cases x<;>simp only[C9,CI]at g;cases y<;>simp only[C9,CI]at hy;simp only[Bz,AX,Bool.and_true,Bc]at a;rw[Es]at q o;subst q o a;simp[Op.equalIn,C7 j]
   ·rename_i j;obtain⟨x,u,rfl,rfl,q⟩:=one (HT g) d;obtain⟨y,v,rfl,rfl,o⟩:=one (HT hy) b;have hv:∀v:Value,GA P t [v]=v:=fun v=>by unfold GA;rw[j];rfl
    rw[hv,hv];cases x<;>simp only[C9,CI]at g;cases y<;>simp only[C9,CI]at hy;simp only[Bz,AX,Bool.and_true]at a;obtain⟨hq,a⟩:=Ad a;have hq:=eq_of_beq hq;simp only[Bc]at a;rw[DX]at q o;subst q o a hq;simp[Op.equalIn,C7 j]
   ·rename_i j;obtain⟨x,u,rfl,rfl,q⟩:=one (HT g) d;obtain⟨y,v,rfl,rfl,o⟩:=one (HT hy) b;have hv:∀v:Value,GA P t [v]=v:=fun v=>by unfold GA;rw[j];rfl
    rw[hv,hv];cases x<;>simp only[C9,CI]at g;cases y<;>simp only[C9,CI]at hy;simp only[Bz,AX,Bool.and_true,Bc]at a;rw[GO]at q o;subst q o a;simp[Op.equalIn,C7 j]
   ·rename_i _ fs j;simp only[Ar,Bool.not_eq_true']at h;have a3:P.fieldsOf t=fs:=by unfold Program.fieldsOf;rw[j]
    have hv:∀vs,GA P t vs=.agg vs.toArray:=fun vs=>by unfold GA;rw[j]
    rw[hv,hv,run_equalIn_struct w D t _ _ (by rw[a3];exact j) h.1,a3]
    exact M fs.toList 0 _ h.2 D (by omega) xs ys r CZ D2 w (by simpa using a) g hy d b
   ·rename_i m e j;split at h
    ·rename_i i AA;rw[Ar]at h;obtain⟨s,a4⟩:=h;have s:=Al s;have hv:∀vs,GA P t vs=.agg vs.toArray:=fun vs=>by unfold GA;rw[j]
     have a2:P.cellsOf e=i.size:=by simp[Program.cellsOf,AA]
     rw[hv,hv,run_equalIn_array (w:=w) D _ _ j AA,a2,List.range_eq_range'];have a7:=HT g;have a6:=HT hy;have a9:=FR d;have a8:=FR b;have J:∀(c k:Nat) (r:Bool) (w:World),k+c=m->Bz (xs.drop (k*i.size)) (ys.drop (k*i.size))=some r->(Op.eqItems D e i.size CZ.toArray D2.toArray (List.range' k c)).run P w=.ok r w:=by
      intro c
      induction c with
      | zero =>
       intro k r w hk a;have:k=m:=by omega
       subst this;rw[G9 (by omega),G9 (by omega)]at a
       simp only[Bz,Bc]at a;subst a;rfl
      | succ c U =>
       intro k r w hk a;obtain⟨K,Q,AS,BG,rfl⟩:=Ty i.size a;have l:=(List.all_eq_true.1 a4) k (List.mem_range.2 (by omega))
       have b1:k*i.size+i.size<=m*i.size:=by
        have:=Nat.mul_le_mul_right i.size (show k+1<=m by omega)
        rwa [Nat.add_mul,Nat.one_mul]at this
       have g1:=O e _ l D (by omega) _ _ K _ _ w AS (J6 i.size (J6 (k*i.size) g).2).1 (J6 i.size (J6 (k*i.size) hy).2).1 (J5 i.size (J4 (k*i.size) d)) (J5 i.size (J4 (k*i.size) b))
       rw[List.drop_drop,List.drop_drop,show k*i.size+i.size=(k+1)*i.size by rw[Nat.add_mul,Nat.one_mul]]at BG
       have Z:=U (k+1) Q w (by omega) BG
       have p1:=UX AA (by simp;omega) l (vs:=CZ) (off:=k*i.size) (by omega) w
       have p2:=UX AA (by simp;omega) l (vs:=D2) (off:=k*i.size) (by omega) w
       rw[List.range'_succ];simp only[Op.eqItems,Cz,p1,p2,Result.andThen,g1];cases K
       ·simp
       ·simpa using Z
     exact J m 0 r w (by omega) (by simpa using a)
    ·cases h
   ·cases h
  ·cases fs with
   | nil =>
    simp only[La]at h;have:=DF h;rw[G9 (by rw[HT g];exact this),G9 (by rw[HT hy];exact this)]at a
    simp only[Bz,Bc]at a;subst a;rfl
   | cons f fs =>
    simp only[La,Ar,bne_iff_ne,ne_eq]at h;obtain⟨⟨a0,p⟩,h⟩:=h;have p:f.offset=off:=Al p;split at h
    ·rename_i i AA;rw[Ar,Ar]at h;obtain⟨⟨a5,l⟩,b0⟩:=h;have a5:=DF a5;have a9:=FR d;have a8:=FR b;have a7:=HT g;have a6:=HT hy;obtain⟨K,Q,AS,BG,rfl⟩:=Ty i.size a;have g1:=O f.type _ l D (by omega) _ _ K _ _ w AS (J6 i.size (J6 off g).2).1 (J6 i.size (J6 off hy).2).1 (J5 i.size (J4 off d)) (J5 i.size (J4 off b))
     rw[List.drop_drop,List.drop_drop]at BG;have Z:=M fs (off+i.size) I b0 D (by omega) xs ys Q CZ D2 w BG g hy d b
     have a1:((I.drop off).take i.size).length=i.size:=by simp;omega
     have p1:=UX AA a1 l (vs:=CZ) (off:=off) (by omega) w
     have p2:=UX AA a1 l (vs:=D2) (off:=off) (by omega) w
     simp only[Op.eqFields,if_pos a0,p,Cz,p1,p2,Result.andThen,g1];cases K
     ·simp
     ·simpa using Z
    ·cases h
def Rr (P:Program):Nat->TypeId->Bool
 | 0,_=>false
 | d+1,t=>match P.underlying t with
  | some .bool|some (.int _)|some .string=>true
  | some (.struct fs)=>fs.toList.all fun f=>Rr P d f.type
  | _=>false
theorem Ab8 (b:Bool):∀(n:Nat) (t:TypeId),Rr P n t=true->∀(fuel:Nat) (zs:List AB),Jc P fuel t zs=true->∀(d:Nat) (xs:List AB) (CZ:List Value) (w:World),C9 zs xs=true->Ae β G xs CZ →
  (Instr.checkKey b (d+n) t (GA P t CZ)).run P w=.ok () w
 | 0,_,h=>by simp[Rr]at h
 | n+1,t,h=>fun fuel zs hf d xs CZ w m AH=>by
  cases fuel with
  | zero=>simp[Jc]at hf
  | succ fuel =>
  unfold Rr at h;simp only[Jc]at hf;rw[show d+(n+1)=(d+n)+1 from rfl];have one:∀{zs:List AB},zs.length=1->C9 zs xs=true->∃x v,xs=[x]/\CZ=[v]/\AO β G x v:=fun {zs} hz m=>by
   have hl:=HT m;rw[hz]at hl;obtain⟨x,rfl⟩:=List.length_eq_one_iff.1 hl;obtain⟨v,vs',rfl,y,r⟩:=CE.1 AH;rw[CU]at r;subst r;exact⟨x,v,rfl,rfl,y⟩
  cases hu:P.underlying t with
  | none=>rw[hu]at h;cases h
  | some dd =>
   rw[hu]at h hf;cases dd with
   | bool=>exact RF hu trivial _
   | int k=>exact RF hu trivial _
   | string=>exact RF hu trivial _
   | struct fs =>
    simp only[Ar,Bool.not_eq_true',List.all_eq_true]at hf h;have hv:GA P t CZ=.agg CZ.toArray:=by unfold GA;rw[hu]
    rw[hv,Instr.checkKey];simp only[Cz,run_underlying hu,Result.andThen_ok];rw[<-Array.forIn_toList];have main:∀(L:List Field) (fuel off:Nat),(∀f∈L,Rr P n f.type=true)->La P fuel L off zs=true →
      (forIn L PUnit.unit (fun f (_ : PUnit) => (if f.name ≠ "_" then do
       Instr.checkKey b (d+n) f.type (<-part f.type CZ.toArray f.offset)
       pure (ForInStep.yield PUnit.unit)else pure (ForInStep.yield PUnit.unit):Sem (ForInStep PUnit)))).run P w=.ok PUnit.unit w:=by
     intro L
     induction L with
     | nil=>intro fuel off _ _;rfl
     | cons f L ih =>
      intro fuel off Bn a;cases fuel with
      | zero=>simp[La]at a
      | succ fuel =>
       simp only[La,Ar,bne_iff_ne,ne_eq]at a;obtain⟨⟨e,c⟩,a⟩:=a;have c:f.offset=off:=Al c;split at a
       ·rename_i i AA;rw[Ar,Ar]at a;obtain⟨⟨l,j⟩,q⟩:=a;have l:=DF l;have s:=FR AH;have z:=HT m;have o:((zs.drop off).take i.size).length=i.size:=by simp;omega
        have p1:=UX AA o j (vs:=CZ) (off:=off) (by omega) w
        have p2:=Ab8 b n f.type (Bn f (by simp)) fuel _ j d _ _ w (J6 i.size (J6 off m).2).1 (J5 i.size (J4 off AH))
        simp only[List.forIn_cons,Cz,e,ne_eq,not_false_eq_true,if_true,Result.andThen_ok,c,p1,p2,Sem.run_pure];exact ih fuel (off+i.size) (fun g u=>Bn g (by simp[u])) q
       ·cases a
    have p:=main fs.toList fuel 0 h hf.2;simp only[ne_eq,ite_not]at p⊢;simp at p⊢;rw[p];rfl
   | _=>cases h
end
end Go.Ab
namespace Go.Ab
open Go.RowKit
def Hg:AB->Value->Bool
 | .bool a,.bool b=>a==b
 | .int k a,.int k' b=>k==k'&&a==b
 | .str a,.string b=>a==b
 | .Bu,.pointer none=>true
 | .Aq,.slice none 0 0=>true
 | .Cv,.map none=>true
 | .A2,.nilFunc=>true
 | .Bl,.nilIface=>true
 | _,_=>false
def ZA:List AB->List Value->Bool
 | [],[]=>true
 | d::ds,v::vs=>Hg d v&&ZA ds vs
 | _,_=>false
theorem AbB {d:AB} {v:Value} (h:Hg d v=true):(∀β G,AO β G d v)/\BW d=true/\Ct d=true:=by
 unfold Hg at h;split at h
 ·have:=eq_of_beq h;subst this;exact⟨fun _ _=>Es.2 rfl,rfl,rfl⟩
 ·rw[Ar]at h;have c:=eq_of_beq h.1;have e:=eq_of_beq h.2;subst c e;exact⟨fun _ _=>DX.2 rfl,rfl,rfl⟩
 ·rename_i a b;rw[Nw]at h;have:=of_decide_eq_true h;subst this;exact⟨fun _ _=>GO.2 rfl,rfl,rfl⟩
 ·exact⟨fun _ _=>YG.2 rfl,rfl,rfl⟩
 ·exact⟨fun _ _=>L1.2 rfl,rfl,rfl⟩
 ·exact⟨fun _ _=>jF.2 rfl,rfl,rfl⟩
 ·exact⟨fun _ _=>by unfold AO;rfl,rfl,rfl⟩
 ·exact⟨fun _ _=>by unfold AO;rfl,rfl,rfl⟩
 ·cases h
theorem Aar:∀{ds:List AB} {vs:List Value},ZA ds vs=true->(∀β G,Ae β G ds vs)/\B4 ds=true/\ds.all Ct=true
 | [],[],_=>⟨fun _ _=>CU.2 rfl,rfl,rfl⟩
 | d::ds,v::vs,h=>by
  simp only[ZA,Ar]at h;obtain⟨e,b,g⟩:=AbB h.1;obtain⟨c,f,a⟩:=Aar h.2;exact⟨fun β G=>CE.2 ⟨v,vs,rfl,e β G,c β G⟩,by simp[B4,b,f],by simp only[EW,g,a,CD]⟩
 | [],_::_,h=>by cases h
 | _::_,[],h=>by cases h
def Yb:List (Nat×Nat)->List (Nat×Nat)->Bool
 | [],[]=>true
 | (a,b)::l,(c,d)::m=>Nat.beq a c&&Nat.beq b d&&Yb l m
 | _,_=>false
theorem AaR:∀{l m:List (Nat×Nat)},Yb l m=true->l=m
 | [],[],_=>rfl
 | (a,b)::l,(c,d)::m,h=>by
  simp only[Yb,Ar]at h;have e:=Al h.1.1;have g:=Al h.1.2;have f:=AaR h.2;subst e g f;rfl
 | [],_::_,h=>by cases h
 | _::_,[],h=>by cases h
def AcQ (P:Program) (t:TypeId) (k:NE):Bool :=
 match k,P.underlying t with
 | .bool,some .bool=>true
 | .int k,some (.int k')=>k==k'
 | .string,some .string=>true
 | .struct fs,some (.struct d)=>Yb (d.toList.map fun f=>(f.type,f.offset)) fs&&(d.toList.mapM (fun f=>(P.info? f.type).map fun i=>(f.offset,i.size))).isSome
 | .array n e,some (.array j e')=>Nat.beq n j&&Nat.beq e e'
 | .slice e,some (.slice e')=>Nat.beq e e'
 | .map k e,some (.map k' e')=>Nat.beq k k'&&Nat.beq e e'
 | .ptr e,some (.pointer e')=>Nat.beq e e'
 | .func,some (.func _ _ _)=>true
 | .iface,some (.interface _)=>true
 | _,_=>false
def ZL (P:Program) (t:TypeId) (m:String) (g:Nat):Bool:=match P.info? t with
 | some i=>(match i.methods.find? (·.name==m)with
  | some mt=>mt.path.isEmpty&&(match mt.func,P.underlying t with
   | some (f,Gy),some (.pointer _)=>Nat.beq f g&&Gy
   | some (f,Gy),some _=>Nat.beq f g && !Gy
   | _,_=>false)
  | none=>false)
 | none=>false
def Ys (P:Program) (t:TypeId):List (String×Nat)->Bool
 | []=>true
 | (m,g)::l=>ZL P t m g&&Ys P t l
theorem Anu {P:Program} {t:TypeId} {m:String} {g:Nat} (h:ZL P t m g=true) (v:Value) (args:Array Value) (w:World):(callMethod (.iface t v) m args).run P w=(callFunc g (#[v]++args)).run P w:=by
 unfold ZL at h;split at h
 ·rename_i i AA;split at h
  ·rename_i mt o;simp only[Ar]at h;obtain⟨n,h⟩:=h;have b:mt.path.toList=[]:=by
    have:mt.path = #[]:=by simpa using n
    rw[this]
   have a:∀q,(method (q+1) t v m).run P w=.ok (g,v) w:=fun q=>by
    unfold method;rw[Cz];have j:(typeInfo t).run P w=.ok i w:=by simp[typeInfo,AA]
    rw[j];simp only[Result.andThen_ok,o];rw[b];simp only[follow,pure_bind];split at h
    ·rename_i f Gy e c k;simp only[Ar]at h;have l:=Al h.1;rw[c];simp only;rw[Cz];unfold receiverAt;rw[Cz,C7 k w];simp only[Result.andThen_ok,h.2,Place.get,Sem.run_pure,l]
    ·rename_i f Gy u d c k;simp only[Ar,Bool.not_eq_true']at h;have l:=Al h.1;rw[c];simp only;rw[Cz];unfold receiverAt;rw[Cz,C7 k w];cases u<;>first|(simp only[Result.andThen_ok,h.2,Place.get,Sem.run_pure,l];done)|exact absurd rfl (d _)
    ·cases h
   unfold callMethod;simp only;rw[Cz,show(program).run P w=.ok P w from rfl];simp only[Result.andThen_ok];rw[Cz,show P.types.size+Made.depth=(P.types.size+99)+1 from rfl,a];rfl
  ·cases h
 ·cases h
theorem AaO {P:Program} {t:TypeId}:∀{l:List (String×Nat)},Ys P t l=true->∀{m:String} {g:Nat},Rc m l=some g->ZL P t m g=true
 | [],_,_,_,h=>by cases h
 | (n,f)::l,hl,m,g,h=>by
  simp only[Ys,Ar]at hl;unfold Rc at h;cases d:(n==m)with
  | true =>
   rw[d]at h;simp only[AY,Bc]at h;have:=eq_of_beq d;subst this h;exact hl.1
  | false=>rw[d]at h;exact AaO hl.2 h
def nO (P:Program) (t:TypeId) (ti:By):Bool :=
 (match P.info? t with
  | some i=>Nat.beq i.size ti.size&&Nat.beq i.bytes ti.bytes&&(match i.zero with
   | some z=>Nat.beq z.cells.size ti.size&&ZA ti.zero z.cells.toList&&(bif ti.isAgg then(match z with | .agg _=>true|_=>false)else(match ti.zero with|[d]=>Hg d z|_=>false))
   | none=>false)
  | none=>false) &&
 (!ti.SL||(Jc P 64 t ti.zero&&(match P.underlying t with|some (.struct _)=>true|some (.array _ _)=>true|_=>false) && !P.eqGuardType P.depth t)) &&
 AcQ P t ti.k&&(!ti.LG||(Rr P 64 t&&Jc P 64 t ti.zero&&(match P.underlying t with|some (.struct _)=>true|_=>false)))&&Ys P t ti.Zj
theorem U5 {P:Program} {t:TypeId} {ti:By} (h:nO P t ti=true):Br P t ti:=by
 unfold nO at h;simp only[Ar]at h;obtain⟨⟨⟨⟨p,q⟩,a⟩,l⟩,c⟩:=h;cases AA:P.info? t with
 | none=>rw[AA]at p;cases p
 | some i =>
  rw[AA]at p;simp only[Ar]at p;obtain⟨⟨a1,a2⟩,Q⟩:=p;cases M:i.zero with
  | none=>rw[M]at Q;cases Q
  | some z =>
   rw[M]at Q;simp only[Ar]at Q;obtain⟨⟨b1,b2⟩,J⟩:=Q;obtain⟨Aw,BS,CK⟩:=Aar b2;refine⟨⟨i,z,AA,Al a1,Al a2,M,Al b1,Aw⟩,CK,fun u=>?_,BS,fun f d hd i' z' j o β G=>?_,fun f=>?_,fun x i' z' j o=>?_,fun m g s v args w=>Anu (AaO c s) v args w,fun a4 xs Z b β G CZ w O=>?_,?_⟩
   ·rw[u]at q;simp only[Bool.not_true,Bool.false_or,Ar,Bool.not_eq_true']at q;obtain⟨⟨d1,W⟩,d3⟩:=q;refine⟨fun xs ys r AH hx hy β G CZ D2 w O a0=>?_,d3⟩;have hv:∀vs,GA P t vs=.agg vs.toArray:=fun vs=>by
     unfold GA;cases U:P.underlying t with
     | none=>rw[U]at W;cases W
     | some I=>rw[U]at W;cases I<;>first|rfl|cases W
    have:=(Ac5 (P:=P) (β:=β) (G:=G) 64).1 t ti.zero d1 10000 (by omega) xs ys r CZ D2 w AH hx hy O a0
    rw[hv,hv]at this;exact this
   ·rw[j]at AA;cases AA;rw[o]at M;cases M;rw[f,hd]at J;exact(AbB (by simpa using J)).1 β G
   ·rw[f]at J;simp only[Ac]at J;split at J
    ·rename_i e;rw[e];rfl
    ·cases J
   ·rw[j]at AA;cases AA;rw[o]at M;cases M;rw[x]at J;simp only[AY]at J;split at J
    ·exact⟨_,rfl⟩
    ·cases J
   ·rw[a4]at l;simp only[Bool.not_true,Bool.false_or,Ar]at l;obtain⟨⟨AS,BG⟩,e3⟩:=l;have hv:GA P t CZ=.agg CZ.toArray:=by
     unfold GA;split at e3
     ·rename_i e;rw[e]
     ·cases e3
    have:=Ab8 (P:=P) (β:=β) (G:=G) b 64 t AS 64 ti.zero BG 9936 xs CZ w Z O;rw[hv]at this;exact this
   ·unfold AcQ at a;cases U:P.underlying t with
    | none=>rw[U]at a;cases C:ti.k<;>rw[C]at a<;>cases a
    | some I =>
     rw[U]at a;cases C:ti.k with
     | bool=>rw[C]at a;cases I<;>first|rfl|cases a
     | int k=>rw[C]at a;cases I<;>first|(cases eq_of_beq a;rfl)|cases a
     | string=>rw[C]at a;cases I<;>first|rfl|cases a
     | struct fs =>
      rw[C]at a;cases I with
      | struct K =>
       simp only[Ar]at a;exact⟨K,rfl,AaR a.1,Option.isSome_iff_exists.1 a.2⟩
      | _=>cases a
     | array n e =>
      rw[C]at a;cases I with
      | array n' e' =>
       simp only[Ar]at a;have l:=Al a.1;have c:=Al a.2;subst l c;rfl
      | _=>cases a
     | slice e =>
      rw[C]at a;cases I with
      | slice e' =>
       have c:=Al a;subst c;rfl
      | _=>cases a
     | map k e =>
      rw[C]at a;cases I with
      | map n' e' =>
       simp only[Ar]at a;have l:=Al a.1;have c:=Al a.2;subst l c;rfl
      | _=>cases a
     | ptr e =>
      rw[C]at a;cases I with
      | pointer e' =>
       have c:=Al a;subst c;rfl
      | _=>cases a
     | func=>rw[C]at a;cases I<;>first|exact⟨_,_,_,rfl⟩|cases a
     | iface=>rw[C]at a;cases I<;>first|exact⟨_,rfl⟩|cases a
     | other=>rw[C]at a;cases a
def Mf {α:Type} (p:Nat->α->Bool) (t:Tr α):Bool:=(t.CP (fun k x=>bif p k x then some (none:Option α)else none) 1 0).isSome
theorem RY {α:Type} {p:Nat->α->Bool} {t:Tr α} (h:Mf p t=true) {k:Nat} {x:α} (b:t.get k=some x):p k x=true:=by
 unfold Mf at h;obtain⟨t',ht⟩:=Option.isSome_iff_exists.1 h;rcases Tr.S1 ht k with⟨a,_⟩|⟨d,y,a,c,_⟩
 ·rw[b]at a;cases a
 ·rw[b]at a;cases a;exact(Ad c).1
theorem Jz {P : Program} {f : FuncId} {fn : Func} {c : Code} (hf : P.funcs[f]? = some fn) (hb : fn.body = some c) (hn : (fn.name == "runtime.NumGoroutine") = false) : GY P f := fun args w => by
 have a : ¬ fn.name = "runtime.NumGoroutine" := by simpa using hn
 unfold callFunc;simp[hf,hb,a]
def Md {α:Type} (p:Nat->α->Prop):Tr α->Nat->Nat->Prop
 | .leaf,_,_=>True
 | .node l v r,a,b=>Md p l (2*a) (a+b)/\(match v with|some x=>p b x|none=>True)/\Md p r (2*a) (2*a+b)
theorem lA {α:Type} {p:Nat->α->Prop}:∀{t:Tr α} {a b:Nat},Md p t a b->∀{k:Nat} {x:α},t.get k=some x->p (a*k+b) x
 | .leaf,_,_,_,k,x,h=>by cases h
 | .node l v r,a,b,h,k,x,i=>by
  rw[Tr.Hj]at i;obtain⟨d,c,e⟩:=h
  by_cases Cu:k=0
  ·rw[if_pos Cu]at i;subst Cu i;simpa using c
  ·rw[if_neg Cu]at i
   by_cases AS:k % 2=1
   ·rw[if_pos AS]at i;have:=lA d i
    rwa [show 2*a*(k / 2)+(a+b)=a*k+b by
     have:k=2*(k / 2)+1:=by omega
     generalize k / 2=m at this;subst this;rw[Nat.mul_add,<-Nat.mul_assoc,Nat.mul_comm a 2];omega]at this
   ·rw[if_neg AS]at i;have:=lA e i
    rwa [show 2*a*(k / 2-1)+(2*a+b)=a*k+b by
     have:k=2*(k / 2-1)+2:=by omega
     generalize k / 2-1=m at this;subst this;rw[Nat.mul_add,<-Nat.mul_assoc,Nat.mul_comm a 2];omega]at this
theorem UJ {α:Type} {p:Nat->α->Prop} {t:Tr α} (h:Md p t 1 0) {k:Nat} {x:α} (a:t.get k=some x):p k x:=by
 have:=lA h a;simpa using this
end Go.Ab
namespace Go.Ab
open Go.RowKit
abbrev OP (w:World) (G:Aj):Prop:=∀b o v,G b o=some v->w.cell? ⟨b,o,none⟩=some v
def M7 (P:Program) (inv:World->Prop) (g:Nat) (L:List AB->Option AB):Prop:=∀as d,L as=some d->GY P g/\∀(w:World) (β:BB) (G:Aj) (vs:Array Value),inv w->OP w G->Ae β G as vs.toList->B4 as=true →
  Calls P g vs w fun e w'=>∃v G',e=.returned v/\Below w.heap.size w w'/\(∀b,b<w.heap.size->G' b=G b)/\OP w' G'/\AO β G' d v
theorem Ac2 {w:World} {b o:Nat} {v:Value} (h:w.cell? ⟨b,o,none⟩=some v):b<w.heap.size:=by
 unfold World.cell? at h;rcases Nat.lt_or_ge b w.heap.size with a|a
 ·exact a
 ·simp[Array.getElem?_eq_none a]at h
theorem OP.below {w w':World} {G:Aj} (c:OP w G) (hb:Below w.heap.size w w'):OP w' G:=fun b o v h=>by
 have a:=c b o v h;rw[hb.cell (p:=⟨b,o,none⟩) (Ac2 a)];exact a
theorem Aly (w:World) (k:Nat) (os:Array Obj):Below w.heap.size w (Go.Sort.grow (w.drewN k) os) :=
 ⟨rfl,rfl,rfl,by simp[Go.Sort.grow,World.drewN],fun j a=>by
  show(w.heap++os)[j]?=_;rw[Array.getElem?_append_left a]⟩
theorem Alg (w:World) (e:TypeId) (s:ByteArray):Below w.heap.size w (Lib.bytesWorld w e s) :=
 ⟨rfl,rfl,rfl,by rw[Lib.bytesWorld_size];omega,fun j a=>Lib.bytesWorld_at_old w e s j a⟩
theorem AbF {β:BB} {G:Aj} {a b:AB} {vs:List Value} (h:Ae β G [a,b] vs):∃u v,vs=[u,v]/\AO β G a u/\AO β G b v:=by
 obtain⟨u,j,rfl,e,d⟩:=CE.1 h;obtain⟨v,i,rfl,f,c⟩:=CE.1 d;rw[CU]at c;subst c;exact⟨u,v,rfl,e,f⟩
theorem AbC {β:BB} {G:Aj} {a:AB} {vs:List Value} (h:Ae β G [a] vs):∃u,vs=[u]/\AO β G a u:=by
 obtain⟨u,d,rfl,c,b⟩:=CE.1 h;rw[CU]at b;subst b;exact⟨u,rfl,c⟩
theorem jZ {w w':World} {β:BB} {G:Aj} {d:AB} {v:Value} (a:OP w G) (hb:Below w.heap.size w w') (AH:AO β G d v) :
  ∃e G',Ending.returned v=.returned e/\Below w.heap.size w w'/\(∀b,b<w.heap.size->G' b=G b)/\OP w' G'/\AO β G' d e :=
 ⟨v,G,rfl,hb,fun _ _=>rfl,a.below hb,AH⟩
def P4:Nat->Nat->List UInt8->List UInt8
 | 0,_,d=>d
 | f+1,u,d=>bif Nat.blt u 10 then UInt8.ofNat (48+u)::d else P4 f (u / 10) (UInt8.ofNat (48+u % 10)::d)
theorem lX:∀(f u:Nat) (d:List UInt8),u<10 ^ f->0<f->P4 f u d=Lib.decDigits u++d
 | 0,_,_,_,h=>absurd h (Nat.lt_irrefl 0)
 | f+1,u,d,e,_=>by
  unfold P4;rw[Lib.decDigits]
  by_cases h:u<10
  ·rw[show Nat.blt u 10=true from Nat.ble_eq_true_of_le h];simp[h]
  ·have hb:Nat.blt u 10=false:=by
    cases i:Nat.blt u 10 with
    | false=>rfl
    | true=>exact absurd (DF i) (by omega)
   have hf:0<f:=by
    rcases Nat.eq_zero_or_pos f with a|a
    ·subst a;simp at e;omega
    ·exact a
   rw[hb,Ac,lX f (u / 10) _ (by rw[Nat.pow_succ]at e;omega) hf]
   simp[h]
def AcS:Int->List UInt8
 | .ofNat m=>P4 19 m []
 | .negSucc m=>45::P4 19 (m+1) []
theorem An9 (n:Int) (b : -9223372036854775808<=n) (a:n<=9223372036854775807):AcS n=Lib.itoa n:=by
 cases n with
 | ofNat m =>
  have:m<10 ^ 19:=by simp at a;omega
  show P4 19 m []=_;rw[lX 19 m [] this (by omega)]
  unfold Lib.itoa;rw[if_neg (by simp)]
  simp
 | negSucc m =>
  have:m+1<10 ^ 19:=by omega
  show(45::P4 19 (m+1) [])=_;rw[lX 19 (m+1) [] this (by omega)]
  unfold Lib.itoa;rw[if_pos (Int.negSucc_lt_zero m)];simp
def Ad3 (n:Int):Bool:=match n with
 | .ofNat m=>Nat.ble m 9223372036854775807
 | .negSucc m=>Nat.ble m 9223372036854775807
theorem Ao7 {n:Int} (h:Ad3 n=true) : -9223372036854775808<=n/\n<=9223372036854775807:=by
 cases n with
 | ofNat m=>have:=DF h;constructor<;>(simp<;>try omega)
 | negSucc m=>have:=DF h;omega
def Yr:List AB->Option AB
 | [.int .i64 n]=>bif Ad3 n then some (.str ⟨(AcS n).toArray⟩)else none
 | _=>none
theorem Amu {P:Program} {inv:World->Prop} {g:Nat} (f:GY P g)
  (hc:∀n:Int,-9223372036854775808<=n->n<=9223372036854775807->∀w,inv w->Calls P g #[.int .i64 n] w fun e w'=>e=.returned (.string ⟨(Lib.itoa n).toArray⟩)/\Below w.heap.size w w'):M7 P inv g Yr:=fun as d a=>by
 refine⟨f,fun w β G vs AA l AH hid=>?_⟩;unfold Yr at a;split at a
 ·rename_i n;obtain⟨hb,a⟩:=Ad a;cases a;obtain⟨i,j⟩:=Ao7 hb;obtain⟨u,c,b⟩:=AbC AH;obtain rfl:=DX.1 b;rw[HJ c];refine Calls.mono (hc n i j w AA) fun e w' h=>?_;obtain⟨rfl,hb⟩:=h;exact jZ l hb (GO.2 (by rw[An9 n i j]))
 ·cases a
def Yq:List AB->Option AB
 | [.str s]=>bif Nat.ble s.size 9223372036854775806 then(match Lib.atoiAll s.data.toList with | .ok v=>some (.Ap [.int .i64 v,.Bl])|_=>none)else none
 | _=>none
theorem Amt {P:Program} {inv:World->Prop} {g:Nat} (f:GY P g)
  (hc:∀(s:ByteArray),s.size<=9223372036854775806->∀v,Lib.atoiAll s.data.toList=.ok v->∀w,inv w->Calls P g #[.string s] w fun e w'=>e=.returned (.tuple #[.int .i64 v,.nilIface])/\Below w.heap.size w w'):M7 P inv g Yq:=fun as d a=>by
 refine⟨f,fun w β G vs AA i AH hid=>?_⟩;unfold Yq at a;split at a
 ·rename_i s;obtain⟨hb,a⟩:=Ad a;split at a
  ·rename_i v hv;cases a;obtain⟨u,c,b⟩:=AbC AH;obtain rfl:=GO.1 b;rw[HJ c];refine Calls.mono (hc s (DF hb) v hv w AA) fun e w' h=>?_;obtain⟨rfl,hb⟩:=h;refine jZ i hb ?_;unfold AO;exact⟨[.int .i64 v,.nilIface],rfl,CE.2 ⟨_,_,rfl,DX.2 rfl,CE.2 ⟨_,_,rfl,Xz.2 rfl,CU.2 rfl⟩⟩⟩
  ·cases a
 ·cases a
def PT:List (List UInt8)->List (List AB)
 | []=>[]
 | x::l=>[.str ⟨x.toArray⟩]::PT l
def Y2:List AB->Option AB
 | [.str s,.str p]=>bif Nat.blt s.size 4294967281&&Nat.ble 1 p.size then(let l:=Lib.splitK p.data.toList 0 (Lib.count s.data.toList p.data.toList) s.data.toList
   bif Nat.beq l.length (Lib.count s.data.toList p.data.toList+1)then some (.AR (PT l))else none)else none
 | _=>none
theorem Aax:∀l:List (List UInt8),(PT l).length=l.length
 | []=>rfl
 | _::l=>by simp[PT,Aax l]
theorem Aay {β:BB} {G:Aj}:∀l:List (List UInt8),Ae β G (PT l).flatten (l.map fun x=>Value.string ⟨x.toArray⟩)
 | []=>CU.2 rfl
 | x::l=>by
  show Ae β G (AB.str ⟨x.toArray⟩::(PT l).flatten) _;exact CE.2 ⟨_,_,rfl,GO.2 rfl,Aay l⟩
theorem zU:∀(l:List (List UInt8)),∀c∈PT l,c.length=1/\B4 c=true/\c.all Ct=true
 | [],c,h=>by cases h
 | x::l,c,h=>by
  rcases DK.1 h with rfl|h
  ·exact⟨rfl,rfl,rfl⟩
  ·exact zU l c h
theorem AlX {P:Program} {inv:World->Prop} {g:Nat} {t:TypeId} (z:GY P g)
  (hc:∀(s p:ByteArray),s.size<4294967281->1<=p.size->∀w,inv w->Calls P g #[.string s,.string p] w fun e w'=>e=.returned (.slice (some ⟨w.heap.size,0,none⟩) (Lib.countB s p+1) (Lib.countB s p+1))/\w'=w.alloc (.cells ((Lib.splitB p 0 (Lib.countB s p) s).map Value.string).toArray t)):M7 P inv g Y2:=fun as d a=>by
 refine⟨z,fun w β G vs AA I AH hid=>?_⟩;unfold Y2 at a;split at a
 ·rename_i s p;obtain⟨hb,a⟩:=Ad a;simp only[Ar]at hb;obtain⟨hl,a⟩:=Ad a;cases a;have hl:=Al hl;obtain⟨u,v,y,n,m⟩:=AbF AH;obtain rfl:=GO.1 n;obtain rfl:=GO.1 m;rw[HJ y];refine Calls.mono (hc s p (DF hb.1) (DF hb.2) w AA) fun e w' h=>?_;obtain⟨rfl,rfl⟩:=h;have f:(Lib.splitB p 0 (Lib.countB s p) s).map Value.string=(Lib.splitK p.data.toList 0 (Lib.countB s p) s.data.toList).map fun x=>Value.string ⟨x.toArray⟩:=by
   rw[<-Lib.splitB_data,List.map_map];rfl
  rw[f];generalize J:Lib.splitK p.data.toList 0 (Lib.countB s p) s.data.toList=K at *;have i:K.length=Lib.countB s p+1:=hl;have c:∀j v,(K.map fun x=>Value.string ⟨x.toArray⟩)[j]? = some v->(w.alloc (.cells (K.map fun x=>Value.string ⟨x.toArray⟩).toArray t)).cell? ⟨w.heap.size,j,none⟩=some v:=fun j v r=>by
   unfold World.cell? World.alloc;simp only[Array.getElem?_push_size];simpa using r
  refine⟨_,fun b o=>if b=w.heap.size then(K.map fun x=>Value.string ⟨x.toArray⟩)[o]? else G b o,rfl,Below.alloc (Below.refl _ _) (Nat.le_refl _) _,fun b l=>?_,fun b o v k=>?_,?_⟩
  ·funext o;exact if_neg (Nat.ne_of_lt l)
  ·by_cases C:b=w.heap.size
   ·have q:(K.map fun x=>Value.string ⟨x.toArray⟩)[o]? = some v:=(if_pos C).symm.trans k;rw[C];exact c o v q
   ·have k:G b o=some v:=(if_neg C).symm.trans k;exact(I.below (Below.alloc (Below.refl _ _) (Nat.le_refl _) _)) b o v k
  ·unfold AO;refine⟨_,_,⟨?_,Nat.le_refl _⟩,.inr ⟨w.heap.size,0,1,rfl,?_⟩⟩
   ·show Value.slice _ _ _=Value.slice _ _ _;rw[Aax];rw[i]
   ·refine iC (G:=_) (Aay _) (zU _) fun j v r=>?_;refine(if_pos rfl).trans ?_;rw[Nat.zero_add];exact r
 ·cases a
def nV (P:Program) (g:Nat) (t:TypeId):Prop:=GY P g/\∀(w:World) (b:Nat) (p v:Value),w.heap[b]? = some (.cells #[p,v] t (0,0))->(p=.pointer none\/p=.pointer (some ⟨b,0,none⟩)) →
  Calls P g #[.pointer (some ⟨b,0,none⟩)] w fun e w'=>e=.returned (.tuple #[])/\Below 0 w w'/\w'.heap.size=w.heap.size/\(∀k,k≠b->w'.heap[k]? = w.heap[k]?)/\w'.heap[b]? = some (.cells #[.pointer (some ⟨b,0,none⟩),v] t (0,0))
theorem AnI {P:Program} {g:Nat} {t:TypeId} (l:GY P g)
  (i:∀(b:Nat) (w:World),w.cell? ⟨b,0,none⟩=some (.pointer (some ⟨b,0,none⟩))->Calls P g #[.pointer (some ⟨b,0,none⟩)] w fun e w'=>e=.returned (.tuple #[])/\w'=w)
  (hf:∀(b:Nat) (w:World),w.cell? ⟨b,0,none⟩=some (.pointer none)->w.shape? b=some (t,2)->w.frozen? ⟨b,0,none⟩=false->Calls P g #[.pointer (some ⟨b,0,none⟩)] w fun e w'=>e=.returned (.tuple #[])/\w'=w.setCell ⟨b,0,none⟩ (.pointer (some ⟨b,0,none⟩))):nV P g t :=
 ⟨l,fun w b p v a d=>by
  rcases d with rfl|rfl
  ·refine Calls.mono (hf b w (by simp[World.cell?,a]) (by simp[World.shape?,a]) (by simp[World.frozen?,a])) fun e w' h=>?_
   obtain⟨rfl,rfl⟩:=h;have c:=Below.setCell (B:=0) (Below.refl 0 w) (p:=⟨b,0,none⟩) (Nat.zero_le _) (.pointer (some ⟨b,0,none⟩));have f:b<w.heap.size:=(Gv.1 a).1;refine⟨rfl,c,by simp[World.setCell],fun k j=>Below.heap_setCell w ⟨b,0,none⟩ _ k j,?_⟩
   unfold World.setCell;simp[Array.getElem?_modify,a]
  ·refine Calls.mono (i b w (by simp[World.cell?,a])) fun e w' h=>?_
   obtain⟨rfl,rfl⟩:=h;exact⟨rfl,Below.refl _ _,rfl,fun _ _=>rfl,a⟩⟩
theorem Alr {P:Program} {w w':World} {d:String} {k:IntKind} {i:List Int} (h:Lib.TabIs P w d k i) (hb:Below w.heap.size w w'):Lib.TabIs P w' d k i:=by
 unfold Lib.TabIs World.var? at *;cases e:P.globalNamed d with
 | none=>rw[e]at h;cases h
 | some g =>
  rw[e]at h;simp only[AX]at h⊢;have a:g<w.heap.size:=by
   rcases Nat.lt_or_ge g w.heap.size with b|b
   ·exact b
   ·rw[Array.getElem?_eq_none b]at h;cases h
  rw[hb.block g a];exact h
theorem Al8 {w w':World} {g:Nat} (h:∃m,w.cell? ⟨g,0,none⟩=some (.int .i64 m)) (hb:Below w.heap.size w w'):∃m,w'.cell? ⟨g,0,none⟩=some (.int .i64 m):=by
 obtain⟨m,a⟩:=h;exact⟨m,by rw[hb.cell (p:=⟨g,0,none⟩) (Ac2 a)];exact a⟩
end Go.Ab
