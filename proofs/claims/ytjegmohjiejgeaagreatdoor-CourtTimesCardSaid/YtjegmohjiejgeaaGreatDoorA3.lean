/- What the code of the program comes to on plain values. -/
import Derived.Test.YtjegmohjiejgeaaGreatDoorA2
import Derived.RangeFuncIn
import Derived.LoopNIn
import Derived.Maps.RangeRun
import Derived.Laws.StructEq
import Derived.ChangeKeysEq
import Derived.Lib.ItoaNum
import Derived.Lib.AtoiAll
import Derived.Lib.Split
import Derived.Lib.CutLaws
import Derived.Lib.ConvBytes
import Derived.Lib.LaidTab
import Derived.Deep.Draws
import Derived.Sort.Grow
set_option linter.unusedSectionVars false
set_option linter.unusedVariables false
set_option linter.unusedSimpArgs false
namespace Go.Ab
open Go.RowKit
section
variable {P:Program} {E:Env} {w0:World} {G0:Gh} {outer:DD} {own:List Nat} {D:DD} {V nt:Nat} {a:Act} {w:World} {β:Bi} {G:Gh} {ro:Option Nat} {n:Nat} {h:Nat->Option Zb}
theorem ZA (a:Act) (d t:Nat) (v:Value) (b:d<a.tmps.size):(a.put (some d) v).eval (.tmp t)=if t=d then v else a.eval (.tmp t):=by
 simp only[Act.put,Act.eval,Array.getD_eq_getD_getElem?,Array.getElem?_setIfInBounds]
 by_cases e:t=d
 ·subst e;simp[b]
 ·have:¬d=t:=fun q=>e q.symm;simp[e,this]
theorem ZB (a:Act) (d:Nat) (v:Value):(a.put (some d) v).tmps.size=a.tmps.size:=by simp[Act.put]
theorem Z1s {ρ:Nat->Option DV} (f:FrM β G ρ a.tmps) {d:Nat} (e:ρ d=none) (v:Value):FrM β G ρ (a.put (some d) v).tmps:=fun t x c=>by
 obtain⟨u,h,g⟩:=f t x c;have b:¬d=t:=fun q=>by rw[q]at e;rw[e]at c;cases c
 exact⟨u,by simp only[Act.put,Array.getElem?_setIfInBounds,if_neg b];exact h,g⟩
theorem YF {ops:Array Oper} {Q:Exit->Act->World->Prop} {o:Oper} {os:List Oper} {v:Value} {w':World} (e:o.guard=none) (b:∀c,o.op≠.defer c) (hr:(execOp a.eval o).run P w=.ok (.value v) w')
  (d:wpListIn (fw ro) n P ops Q os (a.put o.dst v) w'):wpListIn (fw ro) n P ops Q (o::os) a w:=by
 simp only[wpListIn];have:Region.wanted o (yielded ops a.tmps)=true:=by simp[Region.wanted,e]
 rw[this];simp only[if_true];refine⟨fun f _=>trivial,?_⟩;rw[Oper.semAt_eq _ _ _ b,hr,Oper.uponIn_value];exact d
theorem ZeY {o:Oper} {d i:Nat} (h:Z8T o=some (d,i)):o.guard=none/\o.dst=some d/\o.op=.next (.tmp i) false:=by
 unfold Z8T at h;split at h
 ·rename_i a c b;cases h;exact⟨a,c,b⟩
 ·cases h
theorem Zb6 {o:Oper} {d i:Nat} (h:Z7X o=some (d,i)):o.guard=none/\o.dst=some d/\o.op=.extract (.tmp i) 0:=by
 unfold Z7X at h;split at h
 ·rename_i a c b;cases h;exact⟨a,c,b⟩
 ·cases h
theorem ZgH {o:Oper} {d i:Nat} (h:Zca o=some (d,i)):o.guard=none/\o.dst=some d/\o.op=.entry (.tmp i):=by
 unfold Zca at h;split at h
 ·rename_i a c b;cases h;exact⟨a,c,b⟩
 ·cases h
theorem Z74 {o:Oper} {d i:Nat} (h:Z5V o=some (d,i)):o.guard=none/\o.dst=some d/\(o.op=.move (.tmp i)\/o.op=.assign (.tmp i)):=by
 unfold Z5V at h;split at h
 ·rename_i a c b;cases h;exact⟨a,c,.inl b⟩
 ·rename_i a c b;cases h;exact⟨a,c,.inr b⟩
 ·cases h
theorem ZhU {o:Oper} {d:Nat} {t:TypeId} {x:Nat} (h:ZfV o=some (d,t,x)):o.guard=none/\o.dst=some d/\∃ps,o.op=.buildSlice t 1 ps/\ps.toList=[(0,.tmp x)]:=by
 unfold ZfV at h;split at h
 ·rename_i c a e;split at h
  ·rename_i b;cases h;exact⟨c,a,_,e,b⟩
  ·cases h
 ·cases h
theorem ZgG {o:Oper} {d:Nat} {t:TypeId} {s x:Nat} (h:Zc9 o=some (d,t,s,x)):o.guard=none/\o.dst=some d/\∃c,o.op=.call c/\c.callee=.builtin .append/\c.args.toList=[.tmp s,.tmp x]/\c.argTypes.toList=[t,t]:=by
 unfold Zc9 at h;split at h
 ·rename_i g b j;split at h
  ·rename_i e i a;obtain⟨f,h⟩:=Z3 h;cases h;obtain rfl:=je f;exact⟨g,b,_,j,e,i,a⟩
  ·cases h
 ·cases h
theorem Zco {o:Oper} {i:Nat} (h:o.op=.move (.tmp i)\/o.op=.assign (.tmp i)):(execOp a.eval o).run P w=.ok (.value (a.eval (.tmp i))) w:=by
 unfold execOp;rcases h with h|h<;>rw[h]<;>simp
theorem Zcn {o:Oper} {i:Nat} {vs:Array Value} {v:Value} (h:o.op=.extract (.tmp i) 0) (b:a.eval (.tmp i)=.tuple vs) (hv:vs[0]? = some v):(execOp a.eval o).run P w=.ok (.value v) w:=by
 refine Yk (by unfold execOp;rw[h]) ?_
 simp[Instr.extract,b,hv]
theorem Z7F:∀{es:List (DV×DV)} {ms:List MapEntry} {zs:List Int},Z64 β G es ms->Z6W es=some zs->zs.length=ms.length/\∀(i:Nat) (e:MapEntry),ms[i]? = some e->e.key=Value.int .i64 (zs.getD i 0)
 | [],_,zs,hm,a=>by
  simp only[Z64]at hm;subst hm;simp only[Z6W,jh]at a;subst a;exact⟨rfl,fun i e h=>by simp at h⟩
 | (k,v)::es,_,zs,⟨m,ms',hms,h2,h3,h4,h5,h6⟩,a=>by
  subst hms;unfold Z6W at a;split at a
  ·rename_i b;cases b
  ·rename_i z v' es' b;cases b;obtain⟨zs',f,a⟩:=Z0 a;cases a;obtain⟨d,c⟩:=Z7F h6 f;refine⟨by simp[d],fun i e hi=>?_⟩
   cases i with
   | zero=>simp at hi;subst hi;simpa using Zu.1 h2
   | succ i=>simpa using c i e (by simpa using hi)
  ·cases a
theorem Zbh {ms:Array MapEntry} {clock:Nat} (f:Zh2 ms clock) {e:MapEntry} (c:e∈ms.toList):e.born<ms.size/\ms.toList[e.born]? = some e:=by
 obtain⟨i,hi,rfl⟩:=List.mem_iff_getElem.1 c;have b:(ms.toList.map (·.born))[i]? = some (ms.toList[i]).born:=by rw[List.getElem?_map,List.getElem?_eq_getElem hi];rfl
 rw[f.1]at b;have a:i<ms.size:=by simpa using hi
 rw[List.getElem?_range a]at b;have d:(ms.toList[i]).born=i:=by simpa using b.symm
 rw[d];exact⟨a,List.getElem?_eq_getElem hi⟩
def Z9Y (e:TypeId) (zs:List Int) (seen:List Nat):Option Zb:=match seen with
 | []=>none
 | _::_=>some (.row e (seen.map fun j=>[DV.int .i64 (zs.getD j 0)]) 0 (seen.length-1))
def Z3t (h:Nat->Option Zb) (k m n nx:Nat) (e:TypeId) (zs:List Int) (seen:List Nat):Nat->Option Zb:=fun i =>
 if i=k then some (.mit m n seen)else if i=nx then Z9Y e zs seen else h i
def Zgy (nx:Nat) (seen:List Nat):DV:=match seen with|[]=>.nils|_::_=>.rs nx (seen.length-1)
structure MrI (E:Env) (w0:World) (G0:Gh) (outer:DD) (nt:Nat) (own:List Nat) (h:Nat->Option Zb) (k m N nx:Nat) (e:TypeId) (zs:List Int) (it l:Nat) (bf:Tr DV) (β0:Bi) (Gx:Gh) (seen:List Nat) (a:Act) (w:World) (β:Bi) (G:Gh):Prop where
 df:Z6y E own a.defers/\Z8Y own outer
 sz:a.tmps.size=nt
 fr:FrM β G bf.get a.tmps
 it:∃ib,β.blk k=some ib/\a.eval (.tmp it)=.pointer (some ⟨ib,0,none⟩)
 li:Rep β G (Zgy nx seen) (a.eval (.tmp l))
 hr:HR E w0 G0 (Yu own outer) w β G (Z3t h k m N nx e zs seen)
 fresh:∀id,nx+1<=id->ZE β (Z3t h k m N nx e zs seen) id
 fr0:seen=[]->ZE β (Z3t h k m N nx e zs seen) nx
 go:Go2 nx β0 Gx β G h (Z3t h k m N nx e zs seen)
 nd:seen.Nodup/\∀j∈seen,j<N
theorem Zhk {bt e:TypeId} {ti ei:TI} (ht:ZL P bt ti) (g:ti.k=.slice e) (f:ZL P e ei) (d:ei.size=1) (v:Value) (hv:v.cells = #[v]) :
  (Instr.buildSlice bt 1 #[(0,v)]).run P w=.ok (.slice (some ⟨w.heap.size,0,none⟩) 1 1) (w.alloc (.cells #[v] e)):=by
 have c:=ht.desc;rw[g]at c;obtain⟨z,hz,a,_⟩:=f.run_zero w;rw[d]at a;have b:=f.run_sizeOf w;rw[d]at b;simp[Instr.buildSlice,jz,ji c,b,hz,Result.andThen,Instr.fill,hv,a];have e1:(Array.map (fun x=>z.cells[x % 1]!) (Array.range 1)).setIfInBounds 0 v = #[v]:=by
  have e2:Array.range 1 = #[0]:=rfl;rw[e2];simp
 rw[e1];simp[newRow,newObj,Sem.run]
theorem Z9w (h:Nat->Option Zb) (k m n nx:Nat) (e:TypeId) (zs:List Int) (seen:List Nat):Z3t h k m n nx e zs seen k=some (.mit m n seen):=by simp[Z3t]
theorem ZbL {h:Nat->Option Zb} {k m n nx:Nat} {e:TypeId} {zs:List Int} {seen:List Nat} (a:nx≠k):Z3t h k m n nx e zs seen nx=Z9Y e zs seen:=by
 simp[Z3t,a]
theorem Z6j {h:Nat->Option Zb} {k m n nx:Nat} {e:TypeId} {zs:List Int} {seen:List Nat} {i:Nat} (b:i≠k) (a:i≠nx):Z3t h k m n nx e zs seen i=h i:=by
 simp[Z3t,b,a]
theorem ZaR {h:Nat->Option Zb} {k m n nx:Nat} {e:TypeId} {zs:List Int} {seen:List Nat} {j:Nat} (b:nx≠k) (i:Nat) :
  Z3t h k m n nx e zs (seen++[j]) i=Zy (Zy (Z3t h k m n nx e zs seen) [(k,some (.mit m n (seen++[j])))]) [(nx,some (.row e ((seen++[j]).map fun j=>[DV.int .i64 (zs.getD j 0)]) 0 seen.length))] i:=by
 rw[Zz,Zz]
 by_cases e1:i=nx
 ·subst e1;rw[if_pos rfl,ZbL b];cases seen with
  | nil=>rfl
  | cons a l=>simp[Z9Y]
 ·rw[if_neg e1]
  by_cases e2:i=k
  ·subst e2;rw[if_pos rfl,Z9w]
  ·rw[if_neg e2,Z6j e2 e1,Z6j e2 e1]
theorem ZeD (hE:∀t ti,E.ty t=some ti->ZL P t ti) {nx:Nat} {e bt ty:TypeId} {ti ei:TI} {zs:List Int} {seen:List Nat} (r:E.ty bt=some ti) (hk:ti.k=.slice e) (o:E.ty e=some ei) (g:ei.size=1) (hby:ei.bytes<=1000)
  (y:seen.length<=100000) (hh:HR E w0 G0 D w β G h) (hnx:h nx=Z9Y e zs seen) (hf:seen=[]->ZE β h nx) {s x:Value} (hs:Rep β G (Zgy nx seen) s) {z:Int} (hx:Rep β G (.sl [[.int .i64 z]]) x) :
  ∃v w' β',(Builtin.append_ #[bt,bt] ty #[s,x]).run P w=.ok v w'/\Rep β' G (.rs nx seen.length) v/\Ext β G β' G/\HR E w0 G0 D w' β' G (Zy h [(nx,some (.row e ((seen.map fun j=>[DV.int .i64 (zs.getD j 0)])++[[.int .i64 z]]) 0 seen.length))]) ∧
   ∀i,i≠nx->YN β β' h (Zy h [(nx,some (.row e ((seen.map fun j=>[DV.int .i64 (zs.getD j 0)])++[[.int .i64 z]]) 0 seen.length))]) i:=by
 have a2:∀c:Nat,c<=100001->Nat.ble (c*(ei.bytes+1)) 200000000000000=true:=fun c hc=>by
  rw[Nat.ble_eq]
  calc c*(ei.bytes+1)<=100001*1001:=Nat.mul_le_mul hc (by omega)
   _<=200000000000000:=by decide
 have hb0:Nat.blt 0 1=true:=rfl;have hb1:Nat.ble ei.bytes 100000000000=true:=by rw[Nat.ble_eq];omega
 cases seen with
 | nil =>
  have hb2:=a2 1 (by omega)
  have hd:Z29 E nx h bt bt .nils (.sl [[.int .i64 z]])=some ⟨some (.rs nx 0),[(nx,some (.row e [[.int .i64 z]] 0 0))]⟩:=by
   unfold Z29;simp only[r,jm,hk,o,Z8g,Nat.beq_refl,jB,ZT,g,jt,List.all_nil,List.length_cons,List.length_nil,Nat.zero_add,Bool.and_true,hb0,hb1,hb2]
  obtain⟨v,w',β',h1,h2,h3,h4,h5⟩:=Z6A hE hh (hf rfl) (ty:=ty) hs hx hd;exact⟨v,w',β',h1,h2 _ rfl,h3,h4,h5⟩
 | cons a l =>
  have a0:=(hE bt ti r).desc;rw[hk]at a0;have f:=Z3Q o;obtain⟨i,zv,hi,q,p,hz,hzs,_⟩:=(hE e ei o).info;have ho:h nx=some (.row e ((a::l).map fun j=>[DV.int .i64 (zs.getD j 0)]) 0 l.length):=hnx;obtain⟨A,c,rfl,hc,a4⟩:=Z3u (d:=.sl [[.int .i64 z]]) hh rfl hx;rcases a4 with h0|⟨b,off,e',vals,hA,g1,g2,g3⟩
  ·cases h0
  ·have n:vals=[Value.int .i64 z]:=by
    obtain⟨v,vs,rfl,q1,q2⟩:=Za.1 (show Ze β G (DV.int .i64 z::[]) vals from g2);rw[Zg]at q2;rw[q2,Zu.1 q1]
   subst n;obtain⟨hv,_⟩:=Z1i.1 (show Rep β G (.rs nx l.length) s from hs);obtain⟨hdr,vals,h1,h2,h3,h4,h5,h6,h7⟩:=hh.obj nx _ ho;rw[hv]at h1;cases h1;have a1:=h2;rw[f]at a1;obtain⟨v',w',row,hr,ho',hg,a3⟩:=Z69 (P:=P) (t:=bt) (t':=bt) (ty:=ty) (news:=[Value.int .i64 z]) (m:=1) hi q p hz hzs a1 (by rw[g];rfl)
    (Z86 a0 hi hz (by rw[q,g];rfl) (.inr ⟨b,off,hA,g3⟩) (by intro u hu;simp only[List.mem_singleton]at hu;subst hu;rfl)) (jf (a2 _ (by simp only[List.length_map,List.length_cons]at y⊢;omega))) (by omega) hh.below.size
   obtain⟨β',m1,m2,m3,m4⟩:=ZdL (nid:=nx) (xs:=[[DV.int .i64 z]]) (news:=[Value.int .i64 z]) hh ho hv h2 h3 hg (by rw[f];exact ho') a3 g2 (fun c hc=>by
    simp only[List.mem_singleton]at hc;subst hc;exact⟨by rw[f,g];rfl,rfl,rfl⟩)
   exact⟨v',w',β',hr,m2,m1,m3,m4⟩
theorem Z4Y:∀(ts:List Nat) (b:Tr DV) (t:Nat),(Z9a ts b).get t=if t∈ts then none else b.get t
 | [],b,t=>by simp[Z9a]
 | s::ts,b,t=>by
  unfold Z9a;rw[Z4Y ts,Tr.get_set]
  by_cases h1:t∈ts
  ·simp[h1]
  ·by_cases h2:t=s
   ·simp[h2]
   ·simp[h1,h2]
theorem Z6Y:∀{l:List Nat},Z9J l=true->l.Nodup
 | [],_=>List.nodup_nil
 | i::is,h=>by
  simp only[Z9J,jn,Bool.not_eq_true',List.any_eq_false]at h;exact List.nodup_cons.2 ⟨fun a=>by have:=h.1 i a;simp at this,Z6Y h.2⟩
structure Zjb (nt it l tc:Nat) (R0 R1 R2:List Oper) (bt:TypeId) (d0 d2 d3 d4 u0 u1 u2 u3:Nat) (o1 o2 o3 o4 o5 o6 o7 o8 o9 o10:Oper):Prop where
 e0:R0=[o1,o2]
 e1:R1=[o3,o4,o5]
 e2:R2=[o6,o7,o8,o9,o10]
 q1:Z8T o1=some (d0,it)
 q2:Z7X o2=some (tc,d0)
 q3:Zca o3=some (d2,it)
 q4:Z7X o4=some (d3,d2)
 q5:Z5V o5=some (d4,d3)
 q6:Z5V o6=some (u0,l)
 q7:Z5V o7=some (u1,d4)
 q8:ZfV o8=some (u2,bt,u1)
 q9:Zc9 o9=some (u3,bt,u0,u2)
 q10:Z5V o10=some (l,u3)
 nd:[it,l,d0,tc,d2,d3,d4,u0,u1,u2,u3].Nodup
 lt:∀s∈[it,l,d0,tc,d2,d3,d4,u0,u1,u2,u3],s<nt
theorem ZhK {nt it l tc:Nat} {R0 R1 R2:List Oper} {ds:List Nat} {bt:TypeId} (h:ZhJ nt it l R0 R1 R2 tc=some (ds,bt)) :
  ∃d0 d2 d3 d4 u0 u1 u2 u3 o1 o2 o3 o4 o5 o6 o7 o8 o9 o10,ds=[d0,tc,d2,d3,d4,u0,u1,u2,u3]/\Zjb nt it l tc R0 R1 R2 bt d0 d2 d3 d4 u0 u1 u2 u3 o1 o2 o3 o4 o5 o6 o7 o8 o9 o10:=by
 unfold ZhJ at h;split at h
 ·rename_i o1 o2 o3 o4 o5 o6 o7 o8 o9 o10;obtain⟨⟨d0,i0⟩,q1,h⟩:=Z0 h;obtain⟨⟨d1,x1⟩,q2,h⟩:=Z0 h;obtain⟨⟨d2,i2⟩,q3,h⟩:=Z0 h;obtain⟨⟨d3,x3⟩,q4,h⟩:=Z0 h;obtain⟨⟨d4,x4⟩,q5,h⟩:=Z0 h;obtain⟨⟨u0,y0⟩,q6,h⟩:=Z0 h;obtain⟨⟨u1,y1⟩,q7,h⟩:=Z0 h;obtain⟨⟨u2,bt',y2⟩,q8,h⟩:=Z0 h;obtain⟨⟨u3,bt2,y3,y4⟩,q9,h⟩:=Z0 h;obtain⟨⟨l',y5⟩,q10,h⟩:=Z0 h;obtain⟨hc,h⟩:=Z3 h;simp only[jh,Prod.mk.injEq]at h;obtain⟨a,b⟩:=h;simp only[jn]at hc;obtain⟨⟨⟨⟨⟨⟨⟨⟨⟨⟨⟨⟨⟨⟨⟨c1,c2⟩,c3⟩,c4⟩,c5⟩,c6⟩,c7⟩,c8⟩,c9⟩,c10⟩,c11⟩,c12⟩,c13⟩,c14⟩,cnd⟩,call⟩:=hc;have c1:i0=it:=je c1;have c2:x1=d0:=je c2;have c3:tc=d1:=je c3;have c4:i2=it:=je c4;have c5:x3=d2:=je c5
  have c6:x4=d3:=je c6;have c7:y0=l:=je c7;have c8:y1=d4:=je c8;have c9:y2=u1:=je c9;have c10:bt2=bt':=je c10;have c11:y3=u0:=je c11;have c12:y4=u2:=je c12;have c13:l'=l:=je c13;have c14:y5=u3:=je c14;replace a:[d0,d1,d2,d3,d4,u0,u1,u2,u3]=ds:=a;replace b:bt'=bt:=b;replace cnd:Z9J [it,l,d0,d1,d2,d3,d4,u0,u1,u2,u3]=true:=cnd;replace call:([it,l,d0,d1,d2,d3,d4,u0,u1,u2,u3].all fun s=>Nat.blt s nt)=true:=call;subst c1 c2 c4 c5 c6 c8 c9 c11 c12 c14 b;have d:=Z6Y cnd;have c:=fun s e=>jf (List.all_eq_true.1 call s e);rw[<-c3]at a d c q2;rw[c7]at q6;rw[c10]at q9;rw[c13]at q10;exact⟨_,_,_,_,_,_,_,_,_,_,_,_,_,_,_,_,_,_,a.symm,⟨rfl,rfl,rfl,q1,q2,q3,q4,q5,q6,q7,q8,q9,q10,d,c⟩⟩
 ·cases h
theorem Z6Z:∀{N:Nat} {l:List Nat},l.Nodup->(∀j∈l,j<N)->l.length<=N
 | 0,l,_,h=>by
  cases l with
  | nil=>exact Nat.le_refl _
  | cons a l=>exact absurd (h a (by simp)) (by omega)
 | N+1,l,hn,h=>by
  have b:=Z6Z (N:=N) (hn.erase N) fun j d=>by
   have c:=(hn.mem_erase_iff).1 d;have:=h j c.2;have:=c.1;omega
  by_cases hm:N∈l
  ·rw[List.length_erase_of_mem hm]at b;omega
  ·rw[List.erase_of_not_mem hm]at b;omega
theorem Zdq (hE:∀t ti,E.ty t=some ti->ZL P t ti) {k m N nx it l bid y id0 id1 id2 tc:Nat} {e bt:TypeId} {ti ei:TI} {zs:List Int} {es:List (DV×DV)} {bf:Tr DV} {β0:Bi} {Gx:Gh} {r0 r1 r2:Array Oper} {d0 d2 d3 d4 u0 u1 u2 u3:Nat} {o1 o2 o3 o4 o5 o6 o7 o8 o9 o10:Oper}
  (p:Zjb nt it l tc r0.toList r1.toList r2.toList bt d0 d2 d3 d4 u0 u1 u2 u3 o1 o2 o3 o4 o5 o6 o7 o8 o9 o10) (b0:E.ty bt=some ti) (hk:ti.k=.slice e) (hei:E.ty e=some ei) (hs1:ei.size=1) (hby:ei.bytes<=1000)
  (hzs:Z6W es=some zs) (hN:es.length=N) (hN1:N<=100000) (s:nx≠k) (hmk:m≠k) (hmn:m≠nx) (hm:h m=some (.map es)) (hbf:∀t∈[l,d0,tc,d2,d3,d4,u0,u1,u2,u3],bf.get t=none) {Q:Exit->Act->World->Prop} {R:Act->World->Prop} {seen:List Nat} {β:Bi} {G:Gh}
  (d:MrI E w0 G0 outer nt own h k m N nx e zs it l bf β0 Gx seen a w β G) (hq:∀a' ,(∀j,j<N->j∈seen)->MrI E w0 G0 outer nt own h k m N nx e zs it l bf β0 Gx seen a' w β G->Q (.exit bid) a' w)
  (hR:∀j a' w' β' G',j<N->j∉seen->MrI E w0 G0 outer nt own h k m N nx e zs it l bf β0 Gx (seen++[j]) a' w' β' G'->R a' w') :
  (Code.seq (.region id0 r0 false) (.seq (.cond (.tmp tc) .skip (.exit bid)) (.block y (.seq (.region id1 r1 false) (.region id2 r2 false))))).wpIn (fw ro) n P (Exit.then R Q) a w:=by
 obtain⟨ib,r,hit⟩:=d.it;obtain⟨ib',bm,c0,j1,j2,j3,j4⟩:=d.hr.obj k _ (Z9w h k m N nx e zs seen);rw[r]at j1;cases j1;obtain⟨bm',ms,clock,k1,k2,k3,k4⟩:=d.hr.obj m _ ((Z6j hmk hmn).trans hm);rw[j2]at k1;cases k1;have f:ms.size=N:=by have:=Z58 k3;simp only[Array.length_toList]at this;omega
 obtain⟨g1,g2,g3⟩:=ZeY p.q1;obtain⟨g4,g5,g6⟩:=Zb6 p.q2;have hlt:=p.lt;have c:=p.nd;simp only[jv,List.not_mem_nil,or_false,forall_eq_or_imp,forall_eq]at hlt;obtain⟨t0,t1,t2,t3,t4,t5,t6,t7,t8,t9,t10⟩:=hlt;simp only[List.nodup_cons,jv,List.not_mem_nil,or_false,not_or,List.nodup_nil,not_false_eq_true,and_true]at c;simp only[jv,List.not_mem_nil,or_false,forall_eq_or_imp,forall_eq]at hbf;obtain⟨b1,b2,b3,b4,b5,b6,b7,b8,b9,b10⟩:=hbf;refine wpIn_seq (wpIn_region_list ?_);rw[p.e0];rcases run_next_at (P:=P) w o1.type ib bm N c0 seen.toArray ms clock j3 k2 (fun x hx=>by have:=(Zbh k4 hx).1;omega) j4 with⟨h0,g⟩|⟨en,hen,w1,a4,g⟩
 ·
  have hall:∀j,j<N->j∈seen:=fun j hj=>by
   have z:j<ms.toList.length:=by simpa[f]using hj
   have h1:=all_seen ms seen.toArray h0 _ (jl z);have h2:=congrArg (fun l=>l[j]?) k4.1;simp only[List.getElem?_map,List.getElem?_eq_getElem z,jq,f,List.getElem?_range hj,jh]at h2;rw[h2]at h1;simpa using h1
  refine YF (v:=.tuple #[.bool false]) (w':=w) g1 (by rw[g3];simp) (Yk (by unfold execOp;rw[g3]) (by rw[hit];exact g)) ?_
  rw[g2];refine YF (v:=.bool false) (w':=w) g4 (by rw[g6];simp) (Zcn g6 (by rw[ZA _ _ _ _ (by rw[d.sz];exact t2),if_pos rfl]) rfl) ?_
  rw[g5];refine wpIn_seq (wpIn_cond (t:=false) (by rw[ZA _ _ _ _ (by rw[ZB,d.sz];exact t3),if_pos rfl]) (wpIn_exit ?_))
  refine hq _ hall ⟨d.df,by rw[ZB,ZB];exact d.sz,Z1s (Z1s d.fr b2 _) b3 _,⟨ib,r,?_⟩,?_,d.hr,d.fresh,d.fr0,d.go,d.nd⟩
  ·rw[ZA _ _ _ _ (by rw[ZB,d.sz];exact t3),if_neg (fun q=>by subst q;simp at c),ZA _ _ _ _ (by rw[d.sz];exact t2),if_neg (fun q=>by subst q;simp at c)];exact hit
  ·rw[ZA _ _ _ _ (by rw[ZB,d.sz];exact t3),if_neg (fun q=>by subst q;simp at c),ZA _ _ _ _ (by rw[d.sz];exact t2),if_neg (fun q=>by subst q;simp at c)];exact d.li
 ·obtain⟨a9,hes⟩:=mem_left hen;obtain⟨hbl,hget⟩:=Zbh k4 a9;have hj:en.born<N:=by omega
  have hnj:en.born∉seen:=by simpa using hes
  have a1:en.key=.int .i64 (zs.getD en.born 0):=(Z7F k3 hzs).2 _ _ hget;have hh1:HR E w0 G0 (Yu own outer) w1 β G (Z3t h k m N nx e zs seen):=by
   rcases a4 with rfl|rfl
   ·exact d.hr
   ·exact d.hr.drew _
  have j3':w1.heap[ib]? = some (.mapIter (some bm) N seen.toArray c0):=by rcases a4 with rfl|rfl<;>exact j3
  have k2':w1.heap[bm]? = some (.map ms clock):=by rcases a4 with rfl|rfl<;>exact k2
  have a0:ib<w1.heap.size:=(ja.1 j3').1;have hcl:N<=clock:=by have:=k4.2;omega
  have a7:HR E w0 G0 (Yu own outer) (w1.putObj ib (.mapIter (some bm) N (seen.toArray.push en.born) clock)) β G (Zy (Z3t h k m N nx e zs seen) [(k,some (.mit m N (seen++[en.born])))]) :=
   Z48 (o':=.mit m N (seen++[en.born])) (ob':=.mapIter (some bm) N (seen.toArray.push en.born) clock) hh1 (Z9w h k m N nx e zs seen) r j3' (by simp) (fun x hx=>by have:β.blk k=some x:=hx;rw[r]at this;cases this;rfl)
    ⟨ib,bm,clock,r,j2,by rw[World.putObj_heap_same a0];simp,hcl⟩
  have hsb:Go.ChangeMaps.setBlock w1 ib (.mapIter (some bm) N (seen.toArray.push en.born) clock)=w1.putObj ib (.mapIter (some bm) N (seen.toArray.push en.born) clock):=rfl;rw[hsb]at g;have hr3:(w1.putObj ib (.mapIter (some bm) N (seen.toArray.push en.born) clock)).heap[ib]? = some (.mapIter (some bm) N (seen.toArray.push en.born) clock):=World.putObj_heap_same a0;have hne2:bm≠ib:=fun q=>by rw[q,j3']at k2';cases k2'
  have hb3:(w1.putObj ib (.mapIter (some bm) N (seen.toArray.push en.born) clock)).heap[bm]? = some (.map ms clock):=(World.putObj_heap_other hne2).trans k2';generalize w1.putObj ib (.mapIter (some bm) N (seen.toArray.push en.born) clock)=w2 at a7 g hr3 hb3;refine YF (v:=.tuple #[.bool true,en.key,en.val]) (w':=w2) g1 (by rw[g3];simp) (Yk (by unfold execOp;rw[g3]) (by rw[hit];exact g)) ?_
  rw[g2];refine YF (v:=.bool true) (w':=w2) g4 (by rw[g6];simp) (Zcn g6 (by rw[ZA _ _ _ _ (by rw[d.sz];exact t2),if_pos rfl]) rfl) ?_
  rw[g5];obtain⟨g7,g8,g9⟩:=ZgH p.q3;obtain⟨g10,g11,g12⟩:=Zb6 p.q4;obtain⟨g13,g14,g15⟩:=Z74 p.q5;obtain⟨g16,g17,g18⟩:=Z74 p.q6;obtain⟨g19,g20,g21⟩:=Z74 p.q7;obtain⟨g22,g23,ps,g24,g25⟩:=ZhU p.q8;obtain⟨g26,g27,cl,g28,g29,g30,g31⟩:=ZgG p.q9;obtain⟨g32,g33,g34⟩:=Z74 p.q10;refine wpIn_seq (wpIn_cond (t:=true) (by rw[ZA _ _ _ _ (by rw[ZB,d.sz];exact t3),if_pos rfl]) (wpIn_skip ?_))
  refine wpIn_block (wpIn_seq (wpIn_region_list ?_));rw[p.e1]
  have n1:it≠d0:=fun q=>by subst q;simp at c
  have n2:it≠tc:=fun q=>by subst q;simp at c
  have n3:it≠d2:=fun q=>by subst q;simp at c
  have n4:it≠d3:=fun q=>by subst q;simp at c
  have n5:it≠d4:=fun q=>by subst q;simp at c
  have n6:it≠u0:=fun q=>by subst q;simp at c
  have n7:it≠u1:=fun q=>by subst q;simp at c
  have n8:it≠u2:=fun q=>by subst q;simp at c
  have n9:it≠u3:=fun q=>by subst q;simp at c
  have n10:it≠l:=fun q=>by subst q;simp at c
  have m1:l≠d0:=fun q=>by subst q;simp at c
  have m2:l≠tc:=fun q=>by subst q;simp at c
  have m3:l≠d2:=fun q=>by subst q;simp at c
  have m4:l≠d3:=fun q=>by subst q;simp at c
  have m5:l≠d4:=fun q=>by subst q;simp at c
  have p1:u0≠u1:=fun q=>by subst q;simp at c
  have p2:u0≠u2:=fun q=>by subst q;simp at c
  have p3:d4≠u0:=fun q=>by subst q;simp at c
  clear c;have f:=d.sz;generalize hA2:(a.put (some d0) (.tuple #[.bool true,en.key,en.val])).put (some tc) (.bool true)=a2;have s2:a2.tmps.size=nt:=by rw[<-hA2];simp only[ZB];exact f
  have f2:FrM β G bf.get a2.tmps:=by rw[<-hA2];exact Z1s (Z1s d.fr b2 _) b3 _
  have v2:a2.defers=a.defers:=by rw[<-hA2];rfl
  have i2:a2.eval (.tmp it)=.pointer (some ⟨ib,0,none⟩):=by rw[<-hA2,ZA _ _ _ _ (by rw[ZB,f];exact t3),if_neg n2,ZA _ _ _ _ (by rw[f];exact t2),if_neg n1];exact hit
  have l2:a2.eval (.tmp l)=a.eval (.tmp l):=by rw[<-hA2,ZA _ _ _ _ (by rw[ZB,f];exact t3),if_neg m2,ZA _ _ _ _ (by rw[f];exact t2),if_neg m1]
  have hent:=run_entry_at (P:=P) w2 ib bm N seen.toArray ms clock en hr3 hb3 a9 (by rw[k4.1];exact List.nodup_range)
  refine YF (v:=.tuple #[en.key,en.val]) (w':=w2) g7 (by rw[g9];simp) (Yk (by unfold execOp;rw[g9]) (by rw[i2];exact hent)) ?_
  rw[g8];refine YF (v:=en.key) (w':=w2) g10 (by rw[g12];simp) (Zcn g12 (by rw[ZA _ _ _ _ (by rw[s2];exact t4),if_pos rfl]) rfl) ?_
  rw[g11];refine YF (v:=en.key) (w':=w2) g13 (by rcases g15 with q|q<;>rw[q]<;>simp) (by rw[Zco g15,ZA _ _ _ _ (by rw[ZB,s2];exact t5),if_pos rfl]) ?_
  rw[g14];generalize hA3:((a2.put (some d2) (.tuple #[en.key,en.val])).put (some d3) en.key).put (some d4) en.key=a3;have s3:a3.tmps.size=nt:=by rw[<-hA3];simp only[ZB];exact s2
  have f3:FrM β G bf.get a3.tmps:=by rw[<-hA3];exact Z1s (Z1s (Z1s f2 b4 _) b5 _) b6 _
  have v3:a3.defers=a.defers:=by rw[<-hA3];exact v2
  have i3:a3.eval (.tmp it)=.pointer (some ⟨ib,0,none⟩):=by
   rw[<-hA3,ZA _ _ _ _ (by rw[ZB,ZB,s2];exact t6),if_neg n5,ZA _ _ _ _ (by rw[ZB,s2];exact t5),if_neg n4,ZA _ _ _ _ (by rw[s2];exact t4),if_neg n3];exact i2
  have l3:a3.eval (.tmp l)=a.eval (.tmp l):=by
   rw[<-hA3,ZA _ _ _ _ (by rw[ZB,ZB,s2];exact t6),if_neg m5,ZA _ _ _ _ (by rw[ZB,s2];exact t5),if_neg m4,ZA _ _ _ _ (by rw[s2];exact t4),if_neg m3];exact l2
  have x3:a3.eval (.tmp d4)=en.key:=by rw[<-hA3,ZA _ _ _ _ (by rw[ZB,ZB,s2];exact t6),if_pos rfl]
  refine wpIn_region_list ?_;rw[p.e2];refine YF (v:=a.eval (.tmp l)) (w':=w2) g16 (by rcases g18 with q|q<;>rw[q]<;>simp) (by rw[Zco g18,l3]) ?_
  rw[g17];refine YF (v:=en.key) (w':=w2) g19 (by rcases g21 with q|q<;>rw[q]<;>simp) (by rw[Zco g21,ZA _ _ _ _ (by rw[s3];exact t7),if_neg p3,x3]) ?_
  rw[g20];have hps:(ps.map fun(i,x)=>(i,((a3.put (some u0) (a.eval (.tmp l))).put (some u1) en.key).eval x)) = #[(0,en.key)]:=by
   rw[YP g25];simp only[List.map_toArray,jr,List.map_nil];rw[ZA _ _ _ _ (by rw[ZB,s3];exact t8),if_pos rfl]
  have u:en.key.cells = #[en.key]:=by rw[a1];rfl
  have hbs:=Zhk (P:=P) (w:=w2) (hE bt ti b0) hk (hE e ei hei) hs1 en.key u;refine YF (v:=.slice (some ⟨w2.heap.size,0,none⟩) 1 1) (w':=w2.alloc (.cells #[en.key] e)) g22 (by rw[g24];simp) (Yk (by unfold execOp;rw[g24]) (by rw[hps];exact hbs)) ?_
  rw[g23]
  have hold:∀b,b<w2.heap.size->(w2.alloc (.cells #[en.key] e)).heap[b]? = w2.heap[b]? := fun b hb=>Below.heap_alloc w2 _ b hb;have hnew:(w2.alloc (.cells #[en.key] e)).heap[w2.heap.size]? = some (.cells #[en.key] e (0,0)):=heap_alloc_new w2 _;obtain⟨hh3,a5⟩:=a7.grow (w':=w2.alloc (.cells #[en.key] e)) (G':=fun b o=>if b=w2.heap.size then(if o=0 then some en.key else none)else G b o) ((Below.refl _ w2).alloc (Nat.le_refl _) _)
   (fun b hb=>by funext o;rw[if_neg (by omega)]) (fun b o v hv=>by
    by_cases q:b=w2.heap.size
    ·subst q;rw[if_pos rfl]at hv
     by_cases q2:o=0
     ·subst q2;rw[if_pos rfl]at hv;cases hv;show(w2.alloc (.cells #[en.key] e)).cell? ⟨w2.heap.size,0,none⟩=some en.key;unfold World.cell?;simp only[hnew];rfl
     ·rw[if_neg q2]at hv;cases hv
    ·rw[if_neg q]at hv;have hc:=a7.agree b o v hv;exact(World.cell?_of_block (w:=w2) (w':=w2.alloc (.cells #[en.key] e)) (a:=⟨b,o,none⟩) (hold b (block_lt_of_cell hc))).trans hc)
  generalize hG3:(fun b o=>if b=w2.heap.size then(if o=0 then some en.key else none)else G b o)=G3 at hh3 a5;have hxr:Rep β G3 (.sl [[.int .i64 (zs.getD en.born 0)]]) (.slice (some ⟨w2.heap.size,0,none⟩) 1 1):=by
   refine Z3i.2 ⟨_,_,⟨rfl,Nat.le_refl _⟩,.inr ⟨w2.heap.size,0,1,rfl,?_⟩⟩;unfold Ym;refine⟨rfl,⟨rfl,rfl⟩,?_,by unfold Ym;trivial⟩
   unfold Pub;refine⟨⟨en.key,by rw[<-hG3];simp,Zu.2 a1⟩,by unfold Pub;trivial⟩
  have hnx:Zy (Z3t h k m N nx e zs seen) [(k,some (.mit m N (seen++[en.born])))] nx=Z9Y e zs seen:=by
   rw[Zz,if_neg s,ZbL s]
  have a8:∀i,YN β β (Z3t h k m N nx e zs seen) (Zy (Z3t h k m N nx e zs seen) [(k,some (.mit m N (seen++[en.born])))]) i:=fun i hi=>by
   have hik:i≠k:=fun q=>by rw[q,Z9w]at hi;cases hi
   exact⟨by rw[Zz,if_neg hik];exact hi,rfl,fun _=>rfl⟩
  have hsl:seen.length<=100000:=Nat.le_trans (Z6Z d.nd.1 d.nd.2) hN1;obtain⟨v4,w4,β4,r1',r2',r3',r4',r5'⟩:=ZeD (ty:=o9.type) hE b0 hk hei hs1 hby hsl hh3 hnx (fun q=>(a8 nx).fresh (d.fr0 q)) (Rep.mono a5 _ _ d.li) hxr;refine YF (v:=v4) (w':=w4) g26 (by rw[g28];simp) ?_ ?_
  ·have hcs:∃cs,execOp (((a3.put (some u0) (a.eval (.tmp l))).put (some u1) en.key).put (some u2) (.slice (some ⟨w2.heap.size,0,none⟩) 1 1)).eval o9=Go.builtin .append cl.argTypes o9.type cs (cl.args.map (((a3.put (some u0) (a.eval (.tmp l))).put (some u1) en.key).put (some u2) (.slice (some ⟨w2.heap.size,0,none⟩) 1 1)).eval):=by
    refine⟨cl.args.map fun | .const _=>true|_=>false,?_⟩;unfold execOp;rw[g28];simp[resolve,g29,invoke];rfl
   obtain⟨cs,hcs⟩:=hcs;rw[hcs,YP g30,YP g31];have z1:(((a3.put (some u0) (a.eval (.tmp l))).put (some u1) en.key).put (some u2) (.slice (some ⟨w2.heap.size,0,none⟩) 1 1)).eval (.tmp u0)=a.eval (.tmp l):=by
    rw[ZA _ _ _ _ (by rw[ZB,ZB,s3];exact t9),if_neg p2,ZA _ _ _ _ (by rw[ZB,s3];exact t8),if_neg p1,ZA _ _ _ _ (by rw[s3];exact t7),if_pos rfl]
   have z2:(((a3.put (some u0) (a.eval (.tmp l))).put (some u1) en.key).put (some u2) (.slice (some ⟨w2.heap.size,0,none⟩) 1 1)).eval (.tmp u2)=.slice (some ⟨w2.heap.size,0,none⟩) 1 1:=by
    rw[ZA _ _ _ _ (by rw[ZB,ZB,s3];exact t9),if_pos rfl]
   simp[Go.builtin,r1',z1,z2]
  rw[g27];refine YF (v:=v4) (w':=w4) g32 (by rcases g34 with q|q<;>rw[q]<;>simp) (by rw[Zco g34,ZA _ _ _ _ (by rw[ZB,ZB,ZB,s3];exact t10),if_pos rfl]) ?_
  rw[g33];have a6:Ext β G β4 G3:=a5.trans r3';have hst:∀i,i≠nx->YN β β4 (Z3t h k m N nx e zs seen) (Z3t h k m N nx e zs (seen++[en.born])) i:=fun i hi=>by
   have q:=(a8 i).trans (r5' i hi);intro hf;obtain⟨y1,y2,y3⟩:=q hf;refine⟨?_,y2,y3⟩;rw[ZaR s,List.map_append];exact y1
  refine hR en.born _ w4 β4 G3 hj hnj ⟨⟨?_,d.df.2⟩,?_,?_,⟨ib,a6.blk _ _ r,?_⟩,?_,r4'.eq fun i=>?_,fun i hi=>(hst i (by omega)).fresh (d.fresh i hi),fun q=>by simp at q,d.go.trans ⟨a6,fun i hi=>hst i (by omega)⟩,?_⟩
  ·show Z6y E own a3.defers;rw[v3];exact d.df.1
  ·simp only[ZB];exact s3
  ·exact Z1s (Z1s (Z1s (Z1s (Z1s (FrM.mono a6 f3) b7 _) b8 _) b9 _) b10 _) b1 _
  ·rw[ZA _ _ _ _ (by simp only[ZB];rw[s3];exact t1),if_neg n10,ZA _ _ _ _ (by simp only[ZB];rw[s3];exact t10),if_neg n9,ZA _ _ _ _ (by simp only[ZB];rw[s3];exact t9),if_neg n8,
    ZA _ _ _ _ (by simp only[ZB];rw[s3];exact t8),if_neg n7,ZA _ _ _ _ (by rw[s3];exact t7),if_neg n6]
   exact i3
  ·rw[ZA _ _ _ _ (by simp only[ZB];rw[s3];exact t1),if_pos rfl]
   have:Zgy nx (seen++[en.born])=.rs nx seen.length:=by
    cases seen with
    | nil=>rfl
    | cons x xs=>simp[Zgy]
   rw[this];exact r2'
  ·rw[ZaR s,List.map_append];rfl
  ·refine⟨List.nodup_append.2 ⟨d.nd.1,by simp,fun x hx y hy=>?_⟩,fun j z=>?_⟩
   ·simp only[List.mem_singleton]at hy;subst hy;exact fun q=>hnj (q▸hx)
   ·rcases List.mem_append.1 z with q|q
    ·exact d.nd.2 j q
    ·simp only[List.mem_singleton]at q;subst q;exact hj
theorem ZeW:∀(zs:List Int),(List.range zs.length).map (fun j=>zs.getD j 0)=zs:=fun zs=>by
 apply List.ext_getElem (by simp)
 intro i a b;simp at a;simp[a]
theorem ZcV {a:Act} {t:Nat} (h:t<a.tmps.size):a.tmps[t]? = some (a.eval (.tmp t)):=by
 simp[Act.eval,Array.getD_eq_getD_getElem?,h]
theorem HR.conv {h':Nat->Option Zb} (f:Nat->Nat) (hh:HR E w0 G0 D w β G h) (hc:∀i o',h' i=some o'->∃o,h (f i)=some o/\(Z1M E w0.heap.size w β G (f i) o->Z1M E w0.heap.size w β G i o')/\∀b,Yf β i o' b->Yf β (f i) o b)
  (e:∀i j o p,h' i=some o->h' j=some p->f i=f j->i=j):HR E w0 G0 D w β G h' :=
 ⟨hh.below,hh.g0,hh.agree,fun i o' hi=>let⟨o,a,c,_⟩:=hc i o' hi;c (hh.obj _ o a),fun i o' b hi g=>let⟨o,a,_,h3⟩:=hc i o' hi;hh.own _ o b a (h3 b g),
  fun i j o' p' b hi d a c=>let⟨o,k1,_,k3⟩:=hc i o' hi;let⟨p,q1,_,q3⟩:=hc j p' d;e i j o' p' hi d (hh.inj _ _ o p b k1 q1 (k3 b a) (q3 b c)),hh.marks,hh.inv0⟩
theorem HR.rehdr (hh:HR E w0 G0 D w β G h) {id:Nat} (c:ZE β h id) (v:Value):Ext β G (Y7 β id 0 v) G/\HR E w0 G0 D w (Y7 β id 0 v) G h:=by
 have e:Ext β G (Y7 β id 0 v) G:=Z6x (c.hdr 0);have d:∀i o,h i=some o->∀u,(Y7 β id 0 v).hdr i u=β.hdr i u:=fun i o hi u=>by
  have:i≠id:=fun q=>by rw[q,c.h]at hi;cases hi
  simp[Y7,this]
 have a:∀i o b,h i=some o->(Yf (Y7 β id 0 v) i o b↔Yf β i o b):=fun i o b hi=>Z1e (β:=β) (β':=Y7 β id 0 v) (id:=i) rfl (d i o hi) o b;exact⟨e,hh.below,hh.g0,hh.agree,fun i o hi=>Z1M.keep e (d i o hi) (fun _ _=>⟨rfl,fun _=>rfl⟩) (hh.obj i o hi),fun i o b hi k=>hh.own i o b hi ((a i o b hi).1 k),
  fun i j o p b hi f l g=>hh.inj i j o p b hi f ((a i o b hi).1 l) ((a j p b f).1 g),hh.marks,hh.inv0⟩
theorem ZhL (hE:∀t ti,E.ty t=some ti->ZL P t ti) {F:FI} {bid:Nat} {p:Nat×Nat×TypeId×Nat} {c:Code} {s:St} {ex:Ex} {s':St} (f:Z7L E F bid p c s=some (ex,s'))
  (hm:SS E w0 G0 outer F.vmask F.nt own s a w β G) {Q:Exit->Act->World->Prop}
  (hq:∀s1,s'=s1.keepX F bid->ex=.exit bid->∀a' w' β' G',s.next<=s1.next->SS E w0 G0 outer F.vmask F.nt own s1 a' w' β' G'->Go2 s.next β G β' G' s.objs.get s1.objs.get->Q (.exit bid) a' w'):(Code.loop c).wpIn (fw ro) n P Q a w:=by
 unfold Z7L at f;split at f
 ·rename_i k hbk hbl;split at f
  ·rename_i m N hok;split at f
   ·rename_i es a1;obtain⟨⟨x,ds,bt⟩,a0,f⟩:=Z0 f;obtain⟨ti,hbt,f⟩:=Z0 f;split at f
    ·rename_i e hk;obtain⟨ei,hei,f⟩:=Z0 f;split at f
     ·obtain⟨zs,hzs,f⟩:=Z0 f;obtain⟨hc,f⟩:=Z3 f;simp only[jn]at hc;obtain⟨⟨⟨⟨⟨⟨c1,c2⟩,c3⟩,c4⟩,c5⟩,c6⟩,c7⟩:=hc;have c2:x=bid:=je c2;have c3:es.length=N:=je c3;have c4:N<=100000:=jf c4;have c5:ei.size=1:=je c5;have c6:ei.bytes<=1000:=jf c6;simp only[jh,Prod.mk.injEq]at f;obtain⟨rfl,a3⟩:=f;unfold ZbZ at a0;split at a0
      ·rename_i id0 r0 tc x' y id1 r1 id2 r2;obtain⟨⟨ds',bt'⟩,hops,a0⟩:=Z0 a0;simp only[jh,Prod.mk.injEq]at a0;obtain⟨hx1,rfl,rfl⟩:=a0;obtain rfl:bid=x':=(hx1.trans c2).symm;obtain⟨d0,d2,d3,d4,u0,u1,u2,u3,o1,o2,o3,o4,o5,o6,o7,o8,o9,o10,rfl,ho⟩:=ZhK hops;have r:=hm.fresh s.next (Nat.le_refl _);have hne:s.next≠k:=fun q=>by have:=r.h;rw[q,hok]at this;cases this
       have hmk:m≠k:=fun q=>by rw[q,hok]at a1;cases a1
       have hmn:m≠s.next:=fun q=>by have:=r.h;rw[<-q,a1]at this;cases this
       have hbf:∀t∈[p.2.1,d0,tc,d2,d3,d4,u0,u1,u2,u3],(Z9a (p.2.1::[d0,tc,d2,d3,d4,u0,u1,u2,u3]) s.base).get t=none:=fun t ht=>by
        rw[Z4Y,if_pos ht]
       have hlen:zs.length=N:=by
        obtain⟨b',ms,clock,_,_,k3,_⟩:=hm.hr.obj m _ a1;have h1:=(Z7F k3 hzs).1;have h2:=Z58 k3;omega
       obtain⟨vit,hvit,hrit⟩:=hm.fr _ _ hbk;obtain⟨ib,hib,rfl⟩:=Z79.1 hrit;obtain⟨vl,hvl,hrl⟩:=hm.fr _ _ hbl;have hs0:∀i,Z3t s.objs.get k m N s.next e zs [] i=s.objs.get i:=fun i=>by
        unfold Z3t
        by_cases e1:i=k
        ·subst e1;rw[if_pos rfl,hok]
        ·rw[if_neg e1]
         by_cases e2:i=s.next
         ·subst e2;rw[if_pos rfl,r.h];rfl
         ·rw[if_neg e2]
       have hI0:MrI E w0 G0 outer F.nt own s.objs.get k m N s.next e zs p.1 p.2.1 (Z9a (p.2.1::[d0,tc,d2,d3,d4,u0,u1,u2,u3]) s.base) β G [] a w β G:=by
        refine⟨hm.df,hm.sz,fun t d ht=>?_,⟨ib,hib,?_⟩,?_,hm.hr.eq hs0,fun id hid=>?_,fun _=>?_,⟨Ext.refl β G,fun id _ hn=>⟨(hs0 id).trans hn,rfl,fun _=>rfl⟩⟩,List.nodup_nil,by simp⟩
        ·rw[Z4Y]at ht;split at ht
         ·cases ht
         ·exact hm.fr t d ht
        ·simp only[Act.eval,Array.getD_eq_getD_getElem?,hvit,Option.getD_some]
        ·simp only[Act.eval,Array.getD_eq_getD_getElem?,hvl,Option.getD_some];exact hrl
        ·have g:=hm.fresh id (by omega)
         exact⟨g.blk,g.hdr,(hs0 id).trans g.h⟩
        ·exact⟨r.blk,r.hdr,(hs0 _).trans r.h⟩
       have hend:∀seen a' w' β' G',(∀j,j<N->j∈seen)->MrI E w0 G0 outer F.nt own s.objs.get k m N s.next e zs p.1 p.2.1 (Z9a (p.2.1::[d0,tc,d2,d3,d4,u0,u1,u2,u3]) s.base) β G seen a' w' β' G'->Q (.exit bid) a' w':=fun seen a' w' β' G' l hI=>by
        have hln:seen.length=N:=Nat.le_antisymm (Z6Z hI.nd.1 hI.nd.2) (by
         have:=List.Nodup.length_le_of_subset (List.nodup_range (n:=N)) (l₂:=seen) fun j hj=>l j (List.mem_range.1 hj);simpa using this)
        have hperm:(seen.map fun j=>[DV.int .i64 (zs.getD j 0)]).Perm (zs.map fun z=>[DV.int .i64 z]):=by
         have h1:seen.Perm (List.range N):=(List.perm_ext_iff_of_nodup hI.nd.1 List.nodup_range).2 fun j=>⟨fun hj=>List.mem_range.2 (hI.nd.2 j hj),fun hj=>l j (List.mem_range.1 hj)⟩;have h2:=h1.map fun j=>[DV.int .i64 (zs.getD j 0)];have h3:(List.range N).map (fun j=>[DV.int .i64 (zs.getD j 0)])=zs.map fun z=>[DV.int .i64 z]:=by
          conv=>rhs;rw[<-ZeW zs]
          rw[List.map_map,hlen];rfl
         rw[h3]at h2;exact h2
        have hlt:p.2.1<a'.tmps.size:=by rw[hI.sz];exact ho.lt _ (by simp)
        have a4:∀i,Z3t s.objs.get k m N s.next e zs seen i=none->i≠k:=fun i hi q=>by rw[q,Z9w]at hi;cases hi
        cases hN0:Nat.beq N 0 with
        | true =>
         rw[hN0]at a3;simp only[jB]at a3;have hz:=je hN0;have hsn:seen=[]:=List.eq_nil_of_length_eq_zero (by omega)
         subst hsn;refine hq _ a3.symm rfl a' w' β' G' (by show s.next<=s.next+2;omega) ⟨fun t d ht=>?_,fun t d ht=>?_,hI.sz,hI.hr.less fun i o hi=>?_,fun id hid=>?_,hI.df⟩ ⟨hI.go.ext,fun i hi g=>?_⟩
         ·rw[Tr.get_set]at ht
          by_cases q:t=p.2.1
          ·rw[if_pos q]at ht;cases ht;rw[q];exact⟨_,ZcV hlt,hI.li⟩
          ·rw[if_neg q]at ht;exact hI.fr t d ht
         ·rw[Tr.get_set]at ht
          by_cases q:t=p.2.1
          ·rw[q];exact c7
          ·rw[if_neg q,Z4Y]at ht;split at ht
           ·cases ht
           ·exact hm.dom t d ht
         ·rw[Tr.get_set]at hi
          by_cases q:i=k
          ·rw[if_pos q]at hi;cases hi
          ·rw[if_neg q]at hi
           by_cases q2:i=s.next
           ·subst q2;rw[r.h]at hi;cases hi
           ·rw[Z6j q q2];exact hi
         ·have hid':s.next+2<=id:=hid;have g:=hI.fresh id (by omega)
          refine⟨g.blk,g.hdr,?_⟩;rw[Tr.get_set,if_neg (a4 id g.h),<-Z6j (h:=s.objs.get) (a4 id g.h) (show id≠s.next by omega)];exact g.h
         ·obtain⟨y1,y2,y3⟩:=hI.go.keep i hi g;refine⟨?_,y2,y3⟩;rw[Tr.get_set,if_neg (a4 i y1)];exact g
        | false =>
         rw[hN0]at a3;simp only[jA]at a3;have hz:N≠0:=fun q=>by rw[q]at hN0;cases hN0
         have hrow:Z9Y e zs seen=some (.row e (seen.map fun j=>[DV.int .i64 (zs.getD j 0)]) 0 (N-1)):=by
          cases seen with
          | nil=>simp at hln;omega
          | cons x xs=>simp only[Z9Y];rw[hln]
         have hli:Zgy s.next seen=.rs s.next (N-1):=by
          cases seen with
          | nil=>simp at hln;omega
          | cons x xs=>simp only[Zgy];rw[hln]
         have hge:∀i,((s.objs.set k none).set (s.next+1) (some (.bag e (zs.map fun z=>[.int .i64 z]) 0))).get i=if i=s.next+1 then some (.bag e (zs.map fun z=>[.int .i64 z]) 0)else if i=k then none else s.objs.get i:=fun i=>by
          rw[Tr.get_set,Tr.get_set]
         have hrl2:=hI.li;rw[hli]at hrl2;obtain⟨hv1,hv2⟩:=Z1i.1 hrl2;have hf1:=hI.fresh (s.next+1) (Nat.le_refl _);obtain⟨hx2,hh2⟩:=hI.hr.rehdr hf1 (a'.eval (.tmp p.2.1));have hh3:HR E w0 G0 (Yu own outer) w' (Y7 β' (s.next+1) 0 (a'.eval (.tmp p.2.1))) G' ((s.objs.set k none).set (s.next+1) (some (.bag e (zs.map fun z=>[.int .i64 z]) 0))).get:=by
          refine hh2.conv (fun i=>if i=s.next+1 then s.next else i) (fun i o' hi=>?_) (fun i j o' q' hi hj he=>?_)
          ·rw[hge]at hi
           by_cases q2:i=s.next+1
           ·rw[if_pos q2]at hi;cases hi;subst q2;simp only[if_true];have hv3:(Y7 β' (s.next+1) 0 (a'.eval (.tmp p.2.1))).hdr s.next (N-1)=some (a'.eval (.tmp p.2.1)):=by simp[Y7];exact hv1
            have hv4:(Y7 β' (s.next+1) 0 (a'.eval (.tmp p.2.1))).hdr (s.next+1) 0=some (a'.eval (.tmp p.2.1)):=by simp[Y7]
            refine⟨.row e (seen.map fun j=>[DV.int .i64 (zs.getD j 0)]) 0 (N-1),by rw[ZbL hne];exact hrow,fun⟨hdr,vals,g1,g2,g3,g4,g5,g6,g7⟩=>?_,fun b ⟨n',c',hb⟩=>⟨n',c',by rw[hv3];rw[hv4]at hb;exact hb⟩⟩
            rw[hv3]at g1;cases g1;exact⟨_,hperm,_,vals,hv4,g2,g3,g4,g5,g6,fun u' hu=>by
             have:¬u'=0:=by omega
             simp only[Y7,this,and_false,if_false];exact hf1.hdr u'⟩
           ·rw[if_neg q2]at hi
            by_cases q:i=k
            ·rw[if_pos q]at hi;cases hi
            ·rw[if_neg q]at hi;have q3:i≠s.next:=fun q3=>by rw[q3,r.h]at hi;cases hi
             simp only[if_neg q2];exact⟨o',by rw[Z6j q q3];exact hi,fun x=>x,fun b hb=>hb⟩
          ·have nn:∀i o,((s.objs.set k none).set (s.next+1) (some (.bag e (zs.map fun z=>[.int .i64 z]) 0))).get i=some o->i≠s.next:=fun i o hi q=>by
            rw[hge,q,if_neg (by omega)]at hi
            split at hi
            ·cases hi
            ·rw[r.h]at hi;cases hi
           have n1:=nn i o' hi;have n2:=nn j q' hj;split at he<;>split at he<;>omega
         have a6:∀i,i≠s.next+1->∀u,(Y7 β' (s.next+1) 0 (a'.eval (.tmp p.2.1))).hdr i u=β'.hdr i u:=fun i hi u=>by simp[Y7,hi]
         refine hq _ a3.symm rfl a' w' _ G' (by show s.next<=s.next+2;omega) ⟨fun t d ht=>?_,fun t d ht=>?_,hI.sz,hh3,fun id hid=>?_,hI.df⟩ ⟨hI.go.ext.trans hx2,fun i hi g=>?_⟩
         ·rw[Tr.get_set]at ht
          by_cases q:t=p.2.1
          ·rw[if_pos q]at ht;cases ht;rw[q];exact⟨_,ZcV hlt,Z1i.2 ⟨by simp[Y7],hv2⟩⟩
          ·rw[if_neg q]at ht;obtain⟨u,h1,h2⟩:=hI.fr t d ht;exact⟨u,h1,Rep.mono hx2 d u h2⟩
         ·rw[Tr.get_set]at ht
          by_cases q:t=p.2.1
          ·rw[q];exact c7
          ·rw[if_neg q,Z4Y]at ht;split at ht
           ·cases ht
           ·exact hm.dom t d ht
         ·have hid':s.next+2<=id:=hid;have g:=hI.fresh id (by omega)
          refine⟨g.blk,fun u=>(a6 id (by omega) u).trans (g.hdr u),?_⟩
          rw[hge,if_neg (show id≠s.next+1 by omega),if_neg (a4 id g.h),<-Z6j (h:=s.objs.get) (a4 id g.h) (show id≠s.next by omega)];exact g.h
         ·obtain⟨y1,y2,y3⟩:=hI.go.keep i hi g;refine⟨?_,y2,fun u=>(a6 i (by omega) u).trans (y3 u)⟩
          rw[hge,if_neg (show i≠s.next+1 by omega),if_neg (a4 i y1)];exact g
       have a5:∀(c:Nat) (seen:List Nat) (a':Act) (w':World) (β':Bi) (G':Gh),c=N-seen.length->MrI E w0 G0 outer F.nt own s.objs.get k m N s.next e zs p.1 p.2.1 (Z9a (p.2.1::[d0,tc,d2,d3,d4,u0,u1,u2,u3]) s.base) β G seen a' w' β' G' →
         Code.roundsIn (fw ro) n P (.seq (.region id0 r0 false) (.seq (.cond (.tmp tc) .skip (.exit bid)) (.block y (.seq (.region id1 r1 false) (.region id2 r2 false))))) Q (c+1) a' w':=by
        intro c
        induction c with
        | zero =>
         intro seen a' w' β' G' hc hI;rw[roundsIn_succ];refine Zdq hE ho hbt hk hei c5 c6 hzs c3 c4 hne hmk hmn a1 hbf hI (fun a2 l v=>hend seen a2 w' β' G' l v) fun j a2 w2 β2 G2 hj hnj v=>?_;have:=Z6Z v.nd.1 v.nd.2;simp only[List.length_append,List.length_cons,List.length_nil]at this;omega
        | succ c ih =>
         intro seen a' w' β' G' hc hI;rw[roundsIn_succ];refine Zdq hE ho hbt hk hei c5 c6 hzs c3 c4 hne hmk hmn a1 hbf hI (fun a2 l v=>hend seen a2 w' β' G' l v) fun j a2 w2 β2 G2 hj hnj v=>?_;exact ih (seen++[j]) a2 w2 β2 G2 (by simp;omega) v
       exact wpIn_loop_rounds (N-0+1) (a5 (N-0) [] a w β G (by simp) hI0)
      ·cases a0
     ·cases f
    ·cases f
   ·cases f
  ·cases f
 ·cases f
end
end Go.Ab
namespace Go.Ab
open Go.RowKit
def ZjR:Ex->Exit
 | .normal=>.normal
 | .exit id=>.exit id
 | .ret=>.ret
 | .busy=>.outgrown
section
variable {P:Program} {E:Env} {w0:World} {G0:Gh} {outer:DD} {own:List Nat} {D:DD} {V nt:Nat} {a:Act} {w:World} {β:Bi} {G:Gh} {ro:Option Nat} {n:Nat} {h:Nat->Option Zb}
theorem Z5L {F:Fence} {c:Code} {Q:Exit->Act->World->Prop} (h:c.wpIn F n P (fun e a w=>match e with | .goto _=>False|e=>Q e a w) a w):(Code.scope c).wpIn F n P Q a w:=by
 intro b k cs m j hr;have f:(lone (b.atR a (.code (.scope c)::k)) cs w).fenced P F:=fenced_calm j hr rfl;have s1:step P (lone (b.atR a (.code (.scope c)::k)) cs w)=.next (lone (b.atR a (.code c::.inScope c::k)) cs w):=step_lone_go (by simp[stepG,stepG.exec,Frame.atR])
 obtain⟨e,a₁,w₁,g,d⟩:=h b (.inScope c::k) cs m j hr;cases e with
 | normal=>exact⟨.normal,a₁,w₁,g,.head f s1 (StepsIn.trans d (.one (fenced_calm j hr rfl) (step_lone_go (by simp[stepG,stepG.exec,Frame.atR]))))⟩
 | exit id =>
  have p:exitTo id (.inScope c::k)=exitTo id k:=by simp[exitTo]
  exact⟨.exit id,a₁,w₁,g,fun k' o=>.head f s1 (d.1 k' (by rw[p];exact o)),
   fun i o=>let⟨k₁,h1,h2⟩:=d.2 i (by rw[p];exact o);⟨k₁,h1,.head f s1 h2⟩⟩
 | goto l=>exact g.elim
 | ret=>exact⟨_,a₁,w₁,g,.of_steps (.one f s1) d⟩
 | panic ch=>exact⟨_,a₁,w₁,g,.of_steps (.one f s1) d⟩
 | outgrown=>exact⟨_,a₁,w₁,g,.of_steps (.one f s1) d⟩
theorem SS.mid {s:St} (b:SS E w0 G0 outer V nt own s a w β G) (k:Nat):MM E w0 G0 outer V nt own ⟨s.base,[],s.objs,s.next+k⟩ a w β G:=by
 refine⟨fun t d ht=>?_,b.dom,b.sz,b.hr,fun id c=>b.fresh id (by have:s.next+k<=id:=c;omega),b.df⟩
 unfold ZS at ht;cases hv:Nat.testBit V t with
 | true=>rw[hv]at ht;exact b.fr t d ht
 | false=>rw[hv]at ht;cases ht
theorem MM.st {m:Mid} (b:MM E w0 G0 outer V nt own m a w β G):SS E w0 G0 outer V nt own ⟨m.base,m.objs,m.next⟩ a w β G:=by
 refine⟨fun t d ht=>b.fr t d ?_,b.dom,b.sz,b.hr,b.fresh,b.df⟩;unfold ZS;rw[b.dom t d ht];exact ht
theorem SS.drew {s:St} (b:SS E w0 G0 outer V nt own s a w β G) (k:Nat):SS E w0 G0 outer V nt own s a { w with drawn:=k } β G :=
 ⟨b.fr,b.dom,b.sz,b.hr.drew k,b.fresh,b.df⟩
theorem SS.pubSlot {s:St} (c:SS E w0 G0 outer V nt own s a w β G) (t:Nat):∃G',SS E w0 G0 outer V nt own (pubSlot s t) a w β G'/\Go2 s.next β G β G' s.objs.get (pubSlot s t).objs.get/\(pubSlot s t).next=s.next:=by
 unfold Go.Ab.pubSlot;split
 ·rename_i id off l;cases hof:Nat.beq off 0 with
  | false=>exact⟨G,c,Go2.refl _ _ _ _,rfl⟩
  | true =>
  obtain rfl:=je hof;simp only[jB];unfold ZfP;split
  ·rename_i ct cs n;cases hid:Zc cs with
   | false=>exact⟨G,c,Go2.refl _ _ _ _,rfl⟩
   | true =>
    obtain⟨v,hv,hr⟩:=c.fr t _ l;obtain⟨b,j,rfl⟩:=Z1f.1 hr;obtain⟨G',m,k,f⟩:=ZhQ c.hr n j;refine⟨G',⟨fun t' d ht=>?_,fun t' d ht=>?_,c.sz,k.eq fun i=>by simp only[jB];rw[Tr.get_set,Zz],fun i hi=>?_,c.df⟩,⟨m,fun i _ p=>⟨?_,rfl,fun _=>rfl⟩⟩,rfl⟩
    ·simp only[jB]at ht;rw[Tr.get_set]at ht
     by_cases e:t'=t
     ·rw[if_pos e]at ht;cases ht;exact⟨_,by rw[e];exact hv,Z3A.2 ⟨hid,b,0,rfl,f⟩⟩
     ·rw[if_neg e]at ht;obtain⟨u,q,o⟩:=c.fr t' d ht;exact⟨u,q,Rep.mono m d u o⟩
    ·simp only[jB]at ht;rw[Tr.get_set]at ht
     by_cases e:t'=t
     ·rw[e];exact c.dom t _ l
     ·rw[if_neg e]at ht;exact c.dom t' d ht
    ·have g:=c.fresh i hi;refine⟨g.blk,g.hdr,?_⟩;simp only[jB];rw[Tr.get_set];split
     ·rfl
     ·exact g.h
    ·simp only[jB];rw[Tr.get_set];split
     ·rfl
     ·exact p
  ·exact⟨G,c,Go2.refl _ _ _ _,rfl⟩
 ·exact⟨G,c,Go2.refl _ _ _ _,rfl⟩
theorem SS.pubAll (rid:Nat):∀(ps:List (Nat×Nat)) {s:St} {G:Gh},SS E w0 G0 outer V nt own s a w β G->∃G',SS E w0 G0 outer V nt own (pubAll rid ps s) a w β G'/\Go2 s.next β G β G' s.objs.get (pubAll rid ps s).objs.get/\(pubAll rid ps s).next=s.next
 | [],s,G,hm=>⟨G,hm,Go2.refl _ _ _ _,rfl⟩
 | (r,t)::ps,s,G,hm=>by
  unfold Go.Ab.pubAll;cases Nat.beq r rid with
  | false=>exact SS.pubAll rid ps hm
  | true =>
   obtain⟨G1,f,d,b⟩:=hm.pubSlot t;obtain⟨G2,e,g,c⟩:=SS.pubAll rid ps f;simp only[jB];exact⟨G2,e,d.trans (g.less (Nat.le_of_eq b.symm)),c.trans b⟩
theorem HR.mark (hh:HR E w0 G0 D w β G h):HR E w0 G0 (Yu [w.heap.size] D) (w.alloc (.deferred (some []))) β G h:=by
 have c:∀b,b<w.heap.size->(w.alloc (.deferred (some []))).heap[b]? = w.heap[b]? := fun b g=>Below.heap_alloc w _ b g;refine⟨hh.below.alloc hh.below.size _,hh.g0,fun b o v k=>?_,fun i o hi=>?_,fun i o b hi g=>?_,hh.inj,fun d x f=>?_,hh.inv0⟩
 ·have hc:=hh.agree b o v k;have j:=block_lt_of_cell hc;exact(World.cell?_of_block (w:=w) (w':=w.alloc (.deferred (some []))) (a:=⟨b,o,none⟩) (c b j)).trans hc
 ·exact Z1M.keep (Ext.refl _ _) (fun _=>rfl) (fun b g=>⟨c b (hh.own i o b hi g).2.1,fun _=>rfl⟩) (hh.obj i o hi)
 ·obtain⟨k1,k2,k3⟩:=hh.own i o b hi g;refine⟨k1,by simp;omega,?_⟩
  unfold Yu;rw[if_neg (by simp;omega)]
  exact k3
 ·unfold Yu at f
  by_cases e:d=w.heap.size
  ·subst e;rw[if_pos (by simp)]at f
   cases f;exact⟨hh.below.size,heap_alloc_new w _,fun o=>glt hh (Nat.le_refl _) o⟩
  ·rw[if_neg (by simpa using e)]at f
   obtain⟨k1,k2,k3⟩:=hh.marks d x f;exact⟨k1,(c d (ja.1 k2).1).trans k2,k3⟩
theorem HR.drop (hh:HR E w0 G0 D w β G h) {id b:Nat} {o:Zb} {ob ob':Obj} (u:h id=some o) (m:Yf β id o b) (hb:w.heap[b]? = some ob) (r:∀c t f,ob≠.cells c t f) :
  HR E w0 G0 D (w.putObj b ob') β G (fun i=>if i=id then none else h i):=by
 obtain⟨k1,_,k3⟩:=hh.own id o b u m;have g:∀i x,(if i=id then none else h i)=some x->i≠id/\h i=some x:=fun i x hi=>by
  by_cases e:i=id
  ·rw[if_pos e]at hi;cases hi
  ·rw[if_neg e]at hi;exact⟨e,hi⟩
 have l:∀i x c,i≠id->h i=some x->Yf β i x c->c≠b:=fun i x c hi n hc e=>hi (hh.inj i id x o b n u (e▸hc) m);refine⟨hh.below.trans ⟨rfl,rfl,rfl,by simp,fun k hk=>World.putObj_heap_other (by omega)⟩,hh.g0,fun c off v z=>?_,fun i x hi=>?_,fun i x c hi hc=>?_,fun i j x y c hi hj hc s=>?_,fun d x q=>?_,hh.inv0⟩
 ·have hc:=hh.agree c off v z
  by_cases e:c=b
  ·subst e;unfold World.cell? at hc;rw[hb]at hc;cases ob<;>first|cases hc|exact absurd rfl (r _ _ _)
  ·exact(World.cell?_of_block (w:=w) (w':=w.putObj b ob') (a:=⟨c,off,none⟩) (World.putObj_heap_other e)).trans hc
 ·obtain⟨p,n⟩:=g i x hi;exact Z1M.keep (Ext.refl _ _) (fun _=>rfl) (fun c hc=>⟨World.putObj_heap_other (l i x c p n hc),fun _=>rfl⟩) (hh.obj i x n)
 ·obtain⟨p,n⟩:=g i x hi;obtain⟨m1,m2,m3⟩:=hh.own i x c n hc;exact⟨m1,by simpa using m2,m3⟩
 ·exact hh.inj i j x y c (g i x hi).2 (g j y hj).2 hc s
 ·obtain⟨m1,m2,m3⟩:=hh.marks d x q;exact⟨m1,(World.putObj_heap_other (fun e=>by rw[e,k3]at q;cases q)).trans m2,m3⟩
def ZgZ (E:Env) (w0:World) (G0:Gh) (outer:DD) (V nt:Nat) (s:St) (β:Bi) (G:Gh) (ex:Ex) (s':St) (Q:Exit->Act->World->Prop):Prop :=
 ∀own' a' w' β' G',s.next<=s'.next->SS E w0 G0 outer V nt own' s' a' w' β' G'->Go2 s.next β G β' G' s.objs.get s'.objs.get->Q (ZjR ex) a' w'
def ZaB (rnd ro:Option Nat) (β:Bi):Prop:=match rnd with
 | none=>ro=none
 | some l=>∃b,ro=some b/\β.blk l=some b
theorem ZaB.mono {rnd ro:Option Nat} {β':Bi} {G G':Gh} (d:Ext β G β' G') (h:ZaB rnd ro β):ZaB rnd ro β':=by
 cases rnd with
 | none=>exact h
 | some l=>obtain⟨b,c,a⟩:=h;exact⟨b,c,d.blk _ _ a⟩
theorem Zh6 {n0:Nat} {β β1 β':Bi} {G G1:Gh} {h m h':Nat->Option Zb} (l:∀id,n0<=id->ZE β h id) (e:Go2 n0 β G β1 G1 h m) (f:Z4O n0 β1 β') (n:∀i,i<n0->m i=none->h' i=none):Go2 n0 β G β' G1 h h':=by
 have j:∀id b,β.blk id=some b->id<n0:=fun id b a=>by
  rcases Nat.lt_or_ge id n0 with h|h
  ·exact h
  ·rw[(l id h).blk]at a;cases a
 have d:∀id u v,β.hdr id u=some v->id<n0:=fun id u v a=>by
  rcases Nat.lt_or_ge id n0 with h|h
  ·exact h
  ·rw[(l id h).hdr]at a;cases a
 refine⟨⟨e.ext.g,fun id b a=>?_,fun id u v a=>?_⟩,fun id c k=>?_⟩
 ·rw[f.blk id (j id b a)];exact e.ext.blk id b a
 ·rw[f.hdr id (d id u v a)];exact e.ext.hdr id u v a
 ·obtain⟨q1,q2,q3⟩:=e.keep id c k;exact⟨n id c q1,(f.blk id c).trans q2,fun u=>(f.hdr id c u).trans (q3 u)⟩
theorem Z9z {c:Code} {i:Z3K} {step:St->Option (Ex×St)} {rnd:Option Nat} {s0:St} {β0:Bi} {Gx:Gh} (g:∀id,s0.next<=id->ZE β0 s0.objs.get id)
  (b:∀s ex s',step s=some (ex,s')->∀own a w β G Q,ZaB rnd ro β->SS E w0 G0 outer V nt own s a w β G->ZgZ E w0 G0 outer V nt s β G ex s' Q->c.wpIn (fw ro) n P Q a w) {ex:Ex} {s':St} {Q:Exit->Act->World->Prop}
  (e:ZaB rnd ro β0) (p:ZgZ E w0 G0 outer V nt s0 β0 Gx ex s' Q) :
  ∀(m:Nat) (s:St) (own:List Nat) (a:Act) (w:World) (β:Bi) (G:Gh),iter (Zdr E i s0.next) step m s=some (ex,s')->SS E w0 G0 outer V nt own s a w β G->Go2 s0.next β0 Gx β G s0.objs.get s.objs.get->Code.roundsIn (fw ro) n P c Q m a w
 | 0,s,own,a,w,β,G,h,_,_=>by cases h
 | m+1,s,own,a,w,β,G,h,hm,hg=>by
  simp only[iter]at h;obtain⟨s1,r,h⟩:=Z0 h;obtain⟨⟨ex1,s2⟩,q,h⟩:=Z0 h;obtain⟨β1,o,k,d,l⟩:=ZeK r hm;have j:=Zh6 g hg k d;rw[roundsIn_succ];refine b s1 ex1 s2 q own a w β1 G _ (e.mono j.ext) o fun own' a' w' β' G' hl hm2 hg2=>?_;have f:=j.trans (hg2.less l);cases ex1 with
  | normal=>exact Z9z g b e p m s2 own' a' w' β' G' h hm2 f
  | _ =>
   simp only[jh,Prod.mk.injEq]at h;obtain⟨rfl,rfl⟩:=h;exact p own' a' w' β' G' (by omega) hm2 f
theorem Zex {hints:List Z3K} {bid:Nat} {s0 s:St} (h:(match(hints.find? fun h=>Nat.beq h.bid bid:Option Z3K)with
   | some b=>(Yi E s0.next 0 b.accs (s0.base,s0.objs)).bind fun r=>some (St.mk r.1 r.2 (s0.next+b.accs.length))
   | none=>some s0)=some s) (c:SS E w0 G0 outer V nt own s0 a w β G):∃β',SS E w0 G0 outer V nt own s a w β' G/\Go2 s0.next β G β' G s0.objs.get s.objs.get/\s0.next<=s.next:=by
 split at h
 ·rename_i b _;obtain⟨r,hr,h⟩:=Z0 h;cases h;obtain⟨β',k1,k2,k3,k4,k5,k6,k7⟩:=Z2d a.tmps V b.accs 0 s0.base s0.objs β r hr c.hr c.fr c.dom (fun i hi _=>c.fresh i hi) (fun i hi=>(c.fresh i (by omega)).h)
  refine⟨β',⟨k4,k5,c.sz,k3,fun i hi=>k6 i (by simpa using hi),c.df⟩,⟨k1,fun id d e=>⟨k7 id d e,k2.blk id d,fun u=>k2.hdr id d u⟩⟩,by show s0.next<=s0.next+b.accs.length;omega⟩
 ·cases h;exact⟨β,c,Go2.refl _ _ _ _,Nat.le_refl _⟩
theorem ZcT {s:St} {fid:Nat} {F:FI} (n:E.fn fid=some F) (c:SS E w0 G0 outer F.vmask F.nt own s a w β G) (j:∀b,ro=some b->∃r,w.heap[b]? = some (.loop r)) (fn:FuncId) (ps:Array Tmp) (assign body:Code) (bid:Nat) :
  ∃l mark w1 own1 β2,(Instr.enterLoop fn a.tmps ps assign body ro).run P w=.ok (l,mark) w1/\(Z6y E own1 (mark++a.defers)/\Z8Y own1 outer)/\Ext β G β2 G/\β2.blk s.next=some l ∧
   HR E w0 G0 (Yu own1 outer) w1 β2 G (Zy s.objs.get [(s.next,some (.loop fid s.base ps.toList assign body bid .normal))])/\Z2l β β2 s.objs.get (Zy s.objs.get [(s.next,some (.loop fid s.base ps.toList assign body bid .normal))]) s.next:=by
 have d:=c.fresh s.next (Nat.le_refl _);have f:∀(w':World) (D:DD) (df:Nat),HR E w0 G0 D w' β G s.objs.get->∀β',Ext β G β' G->β'.blk s.next=some w'.heap.size →
   Z1M E w0.heap.size (w'.alloc (.loop { state:=.ready,pending:=none,fn,tmps:=a.tmps,params:=ps,assign,body,defers:=df })) β' G s.next (.loop fid s.base ps.toList assign body bid .normal):=fun w' D df _ β' hx e =>
  ⟨_,a.tmps,df,fn,F,e,by rw[heap_alloc_new];simp[YQ],c.fr.mono hx,n,c.sz,c.dom⟩
 cases ro with
 | none =>
  have g:=c.hr.mark;obtain⟨β2,m,h,i,k⟩:=g.lay d (.loop { state:=.ready,pending:=none,fn,tmps:=a.tmps,params:=ps,assign,body,defers:=w.heap.size }) (.loop fid s.base ps.toList assign body bid .normal) rfl (f _ _ _ g);refine⟨w.heap.size+1,[ZhE w.heap.size],_,w.heap.size::own,β2,run_enterLoop_outer fn a.tmps ps assign body,⟨Z6y.mark _ c.df.1,List.nodup_cons.2 ⟨(Z4s (c.hr.dfree (Nat.le_refl _))).1,c.df.2.1⟩,fun b e=>?_⟩,m,by simpa using h,by rw[Z5U];exact i,k⟩
  rcases jv.1 e with rfl|e
  ·exact(Z4s (c.hr.dfree (Nat.le_refl _))).2
  ·exact c.df.2.2 b e
 | some b =>
  obtain⟨r,hr⟩:=j b rfl;obtain⟨β2,m,h,i,k⟩:=c.hr.lay d (.loop { state:=.ready,pending:=none,fn,tmps:=a.tmps,params:=ps,assign,body,defers:=r.defers }) (.loop fid s.base ps.toList assign body bid .normal) rfl (f _ _ _ c.hr);refine⟨w.heap.size,[],_,own,β2,?_,⟨by simpa using c.df.1,c.df.2⟩,m,h,i,k⟩
  unfold Instr.enterLoop;simp only[jz,run_getLoop hr,run_newObj_alloc,Result.andThen,Sem.run_pure]
theorem Zg6 {E:Env} {w0:World} {G0:Gh} {outer:DD} {own:List Nat} {V nt m:Nat} {s:St} {a:Act} {w:World} {β:Bi} {G:Gh} (h:SS E w0 G0 outer V nt own s a w β G):SS E w0 G0 outer V nt own (s.keep m) a w β G :=
 ⟨fun t d ht=>h.fr t d (Tr.filt_sub ht),fun t d ht=>h.dom t d (Tr.filt_sub ht),h.sz,h.hr,h.fresh,h.df⟩
theorem Z4m (F:FI) (id:Nat) (s:St):(s.keepX F id).objs=s.objs/\(s.keepX F id).next=s.next:=by
 unfold St.keepX;cases F.xm.find? fun p=>Nat.beq p.1 id<;>exact⟨rfl,rfl⟩
theorem ZdZ {E:Env} {w0:World} {G0:Gh} {outer:DD} {own:List Nat} {V nt:Nat} {F:FI} {id:Nat} {s:St} {a:Act} {w:World} {β:Bi} {G:Gh} (h:SS E w0 G0 outer V nt own s a w β G):SS E w0 G0 outer V nt own (s.keepX F id) a w β G:=by
 unfold St.keepX;cases F.xm.find? fun p=>Nat.beq p.1 id with
 | none=>exact h
 | some p=>exact Zg6 h
theorem Z7x (hE:∀t ti,E.ty t=some ti->ZL P t ti) (hmix:P.follows .mixedOrders=true) {call:Nat->List DV->Option DV} (hp:Z33 P E call) {callH callY:Yb} (hH:YT P E callH) (hY:Z1c P E callY)
  {rnd:Option Nat} {fid:Nat} {F:FI} (hF:E.fn fid=some F) (fuel:Nat):∀(c:Code) (bid:Nat) (s:St) (ex:Ex) (s':St),evC E rnd fid F call callH callY fuel bid c s=some (ex,s') →
   ∀(own:List Nat) (a:Act) (w:World) (β:Bi) (G:Gh) (Q:Exit->Act->World->Prop),ZaB rnd ro β->SS E w0 G0 outer F.vmask F.nt own s a w β G->ZgZ E w0 G0 outer F.vmask F.nt s β G ex s' Q->c.wpIn (fw ro) n P Q a w:=by
 intro c
 induction c with
 | skip =>
  intro bid s ex s' h own a w β G Q _ hm k;simp only[evC,jh,Prod.mk.injEq]at h;obtain⟨rfl,rfl⟩:=h;exact wpIn_skip (k own a w β G (Nat.le_refl _) hm (Go2.refl _ _ _ _))
 | label l =>
  intro bid s ex s' h own a w β G Q _ hm k;simp only[evC,jh,Prod.mk.injEq]at h;obtain⟨rfl,rfl⟩:=h;exact wpIn_label (k own a w β G (Nat.le_refl _) hm (Go2.refl _ _ _ _))
 | ret =>
  intro bid s ex s' h own a w β G Q _ hm k;simp only[evC,jh,Prod.mk.injEq]at h;obtain⟨rfl,rfl⟩:=h;exact wpIn_ret (k own a w β G (Nat.le_refl _) (Zg6 hm) (Go2.refl _ _ _ _))
 | exit id =>
  intro bid s ex s' h own a w β G Q _ hm k;simp only[evC,jh,Prod.mk.injEq]at h;obtain⟨rfl,rfl⟩:=h;refine wpIn_exit (k own a w β G ?_ ?_ ?_)
  ·rw[(Z4m F id s).2];exact Nat.le_refl _
  ·exact ZdZ hm
  ·rw[(Z4m F id s).1];exact Go2.refl _ _ _ _
 | scope c ih =>
  intro bid s ex s' h own a w β G Q hr hm k;simp only[evC]at h;refine Z5L (ih bid s ex s' h own a w β G _ hr hm fun own' a' w' β' G' m h2 h3=>?_);have:=k own' a' w' β' G' m h2 h3;cases ex<;>exact this
 | block id c ih =>
  intro bid s ex s' h own a w β G Q hr hm k;simp only[evC]at h;obtain⟨⟨ex1,s1⟩,m,h⟩:=Z0 h;refine wpIn_block (ih id s ex1 s1 m own a w β G _ hr hm fun own' a' w' β' G' k1 k2 k3=>?_);cases ex1 with
  | exit i =>
   simp only[ZjR,Exit.inBlock];simp only[Tr.beq_dec]at h
   by_cases e:i=id
   ·simp only[e,decide_true,jB,jh,Prod.mk.injEq]at h;obtain⟨rfl,rfl⟩:=h;rw[if_pos e];exact k own' a' w' β' G' k1 k2 k3
   ·simp only[e,decide_false,jA,jh,Prod.mk.injEq]at h;obtain⟨rfl,rfl⟩:=h;rw[if_neg e];exact k own' a' w' β' G' k1 k2 k3
  | _ =>
   simp only[jh,Prod.mk.injEq]at h;obtain⟨rfl,rfl⟩:=h;exact k own' a' w' β' G' k1 k2 k3
 | seq x y ihx ihy =>
  intro bid s ex s' h own a w β G Q hr hm k;simp only[evC]at h;obtain⟨⟨ex1,s1⟩,m,h⟩:=Z0 h;refine wpIn_seq (ihx bid s ex1 s1 m own a w β G _ hr hm fun own' a' w' β' G' k1 k2 k3=>?_);cases ex1 with
  | normal =>
   refine ihy bid s1 ex s' h own' a' w' β' G' Q (hr.mono k3.ext) k2 fun own'' a'' w'' β'' G'' m1 m2 m3=>?_;exact k own'' a'' w'' β'' G'' (Nat.le_trans k1 m1) m2 (k3.trans (m3.less k1))
  | _ =>
   simp only[jh,Prod.mk.injEq]at h;obtain⟨rfl,rfl⟩:=h;exact k own' a' w' β' G' k1 k2 k3
 | cond x c d ihc ihd =>
  intro bid s ex s' h own a w β G Q hr hm k;simp only[evC]at h;split at h
  ·rename_i t ht;have hv:=ZH.1 (Zm hm.fr ht);cases t with
   | true=>exact wpIn_cond hv (ihc bid s ex s' h own a w β G Q hr hm k)
   | false=>exact wpIn_cond hv (ihd bid s ex s' h own a w β G Q hr hm k)
  ·cases h
 | loop c ih =>
  intro bid s ex s' h own a w β G Q hr hm k;simp only[evC]at h;split at h
  ·exact ZhL hE h hm fun s1 hs1 hex a' w' β' G' m h2 h3=>by
    subst hs1 hex;refine k own a' w' β' G' ?_ ?_ ?_
    ·rw[(Z4m F bid s1).2];exact m
    ·exact ZdZ h2
    ·rw[(Z4m F bid s1).1];exact h3
  obtain⟨hint,_,h⟩:=Z0 h;exact wpIn_loop_rounds fuel (Z9z (rnd:=rnd) hm.fresh (fun s1 ex1 s2 m own1 a1 w1 β1 G1 Q1 r1 m1 q1=>ih bid s1 ex1 s2 m own1 a1 w1 β1 G1 Q1 r1 m1 q1) hr k fuel s own a w β G h hm (Go2.refl _ _ _ _))
 | region id ops draw =>
  intro bid s ex s' h own a w β G Q hr hm k;simp only[evC]at h;obtain⟨s1,m,h⟩:=Z0 h;simp only[jh,Prod.mk.injEq]at h;obtain⟨rfl,rfl⟩:=h;unfold Z2o at m;obtain⟨mf,h2,m⟩:=Z0 m;cases m;obtain⟨Gp,u,hgp,hnp⟩:=hm.pubAll id F.pubs;generalize pubAll id F.pubs s=sp at u hgp hnp h2;have k:∀own' a' w' β' G',sp.next<=mf.next->SS E w0 G0 outer F.vmask F.nt own' ⟨mf.base,mf.objs,mf.next⟩ a' w' β' G'->Go2 sp.next β Gp β' G' sp.objs.get mf.objs.get->Q .normal a' w':=fun own' a' w' β' G' k1 k2 k3 =>
   k own' a' w' β' G' (by show s.next<=mf.next;omega) k2 (hgp.trans (k3.less (Nat.le_of_eq hnp.symm)))
  cases draw with
  | false =>
   refine wpIn_region_list (Z45 hE (df:=rnd.isNone) (fun k=>by cases rnd with|none=>exact hr|some l=>cases k) hp hH hY ops.toList 0 _ mf a w β Gp h2 (by simp) (fun j _ _=>u.fresh _ (by omega)) (u.mid ops.size) fun a' w' β' G' k1 k2 k3=>?_)
   exact k own a' w' β' G' (Nat.le_trans (Nat.le_add_right _ _) k1) k2.st k3
  | true =>
   refine wpIn_region_any hmix (Zes hE hp hH hY h2 (Nat.le_refl _) (fun j _=>u.fresh _ (by omega)) ((u.drew _).mid ops.size) fun a' w' β' G' k1 k2 k3=>?_)
   exact k own a' w' β' G' (Nat.le_trans (Nat.le_add_right _ _) k1) k2.st k3
 | rangeFunc f ps assign body _ _ =>
  intro bid s0 ex s' h own a w β G Q hr hm k;simp only[evC]at h;obtain⟨hin,h⟩:=Z3 h;obtain⟨s,hhint,h⟩:=Z0 h;obtain⟨β1,p,hg1,hle1⟩:=Zex hhint hm;obtain⟨fv,hfv,h⟩:=Z0 h;split at h
  ·rename_i g first caps
   obtain⟨⟨rv,objs',nx'⟩,hcall,h⟩:=Z0 h;simp only at h;obtain⟨hent,hcs⟩:=hH _ _ _ _ _ _ _ hcall;obtain⟨vf,vc,hv,hr1,hr2⟩:=Zcf.1 (Zm p.fr hfv);have hro:∀b,ro=some b->∃r,w.heap[b]? = some (.loop r):=fun b hb=>by
    cases rnd with
    | none=>rw[show ro=none from hr]at hb;cases hb
    | some lo =>
     obtain⟨b',e1,e2⟩:=hr;rw[e1]at hb;cases hb;simp only[Z6S]at hin;split at hin
     ·rename_i hlo;obtain⟨b2,_,_,_,_,k1,k2,_⟩:=hm.hr.obj lo _ hlo;rw[e2]at k1;cases k1;exact⟨_,k2⟩
     ·cases hin
   refine wpIn_rangeFunc fun fn _=>?_;obtain⟨l,mark,w1,own1,β2,hrun,hdf,a0,hb2,hh2,hk2⟩:=ZcT (P:=P) (ro:=ro) hF p hro fn ps assign body bid;have a4:∀i,(s.objs.set s.next (some (.loop fid s.base ps.toList assign body bid .normal))).get i=Zy s.objs.get [(s.next,some (.loop fid s.base ps.toList assign body bid .normal))] i:=fun i=>by rw[Tr.get_set,Zz]
   have a5:∀id,id≠s.next->YN β1 β2 s.objs.get (s.objs.set s.next (some (.loop fid s.base ps.toList assign body bid .normal))).get id:=fun id z hf=>by
    obtain⟨q1,q2,q3⟩:=hk2 id z hf;exact⟨by rw[a4];exact q1,q2,q3⟩
   have hrep:Ze β2 G (first++[.yld s.next]++caps) (vf.toArray ++ #[Value.func (.yield l) #[] #[]]++vc.toArray).toList:=by
    have:=Z2R (Z2R (Ze.mono a0 _ _ hr1) (Za.2 ⟨_,[],rfl,ZfY.2 ⟨l,hb2,rfl⟩,Zg.2 rfl⟩)) (Ze.mono a0 _ _ hr2);simpa using this
   have hC:=hcs w0 G0 (Yu own1 outer) w1 β2 G _ (hh2.eq a4) (fun id z=>(a5 id (by omega)).fresh (p.fresh id (by omega))) hrep
   refine⟨l,mark,w1,{ target:=.fn (.func g) vc.toArray,args:=vf.toArray ++ #[.func (.yield l) #[] #[]] },w1,g,_,w1,hrun,?_,fun _ _=>trivial,hent _ _,fun k=>by simp[fw,Fence.wide]at k,Z6E (Calls.mono hC fun e w' he=>?_)⟩
   ·have hcst:a.eval (.const (.func (.yield l) #[] #[]))=.func (.yield l) #[] #[]:=rfl;simp[resolve,hv,Deferred.ofValue,hcst]
   ·obtain⟨v,β3,G3,rfl,hle3,o,hh3,hfr3,_⟩:=he;split at h
    ·rename_i fid' bs' ps' as' bo' bid' ex' hob;obtain⟨b3,tm3,df3,fn3,F3,k1,k2,_⟩:=hh3.obj s.next _ hob;have hbl:β3.blk s.next=some l:=o.ext.blk _ _ hb2;rw[hbl]at k1;cases k1;have hdrop:=hh3.drop (ob':=.loop { state:=.exhausted,pending:=YQ ex',fn:=fn3,tmps:=tm3,params:=ps'.toArray,assign:=as',body:=bo',defers:=df3 }) hob hbl k2 (by simp)
     have a2:(ex',({ s with objs:=objs'.set s.next none,next:=nx' }:St))=(ex,s')/\ex'≠.busy:=by
      cases ex'<;>simp only[jh,reduceCtorEq]at h<;>exact⟨h,by simp⟩
     obtain⟨a2,hnb⟩:=a2;simp only[Prod.mk.injEq]at a2;obtain⟨rfl,rfl⟩:=a2;have q:∀i,(objs'.set s.next none).get i=if i=s.next then none else objs'.get i:=fun i=>Tr.get_set _ _ _ _;have a3:∀id,YN β3 β3 objs'.get (objs'.set s.next none).get id:=fun id hf=>⟨by
      rw[q]
      by_cases e:id=s.next
      ·rw[if_pos e]
      ·rw[if_neg e];exact hf,rfl,fun _=>rfl⟩
     have hend:(Instr.endLoop l).run P w'=.ok (YQ ex') (w'.putObj l (.loop { state:=.exhausted,pending:=YQ ex',fn:=fn3,tmps:=tm3,params:=ps'.toArray,assign:=as',body:=bo',defers:=df3 })) :=
      run_endLoop k2 (by cases ex'<;>simp at hnb⊢)
     have hQ:=k own1 { a with defers:=mark++a.defers } (w'.putObj l (.loop { state:=.exhausted,pending:=YQ ex',fn:=fn3,tmps:=tm3,params:=ps'.toArray,assign:=as',body:=bo',defers:=df3 })) β3 G3 (by show s0.next<=nx';omega)
      ⟨p.fr.mono (a0.trans o.ext),p.dom,p.sz,hdrop.eq q,fun id z=>(a3 id).fresh (hfr3 id z),hdf⟩
      (hg1.trans ⟨a0.trans o.ext,fun id z=>((a5 id (by omega)).trans (o.keep id (by omega))).trans (a3 id)⟩)
     refine⟨_,_,hend,?_⟩;cases ex' with
     | normal=>exact hQ
     | exit i=>exact wpIn_exit hQ
     | ret=>exact wpIn_ret hQ
     | busy=>exact absurd rfl hnb
    ·cases h
  ·cases h
 | _ =>
  intro bid s ex s' h own a w β G Q hr hm k;simp[evC]at h
end
end Go.Ab
namespace Go.Ab
open Go.RowKit
structure ZD (P:Program) (f:FuncId) (F:FI):Prop where
 fn:∃fn,P.funcs[f]? = some fn/\fn.body=some F.body/\fn.ntmps=F.nt/\fn.results.toList=F.nres
 ent:YC P f
def Zbt {α γ:Type} (P:Program) (w:World) (f:α->Sem γ):List α->List γ->Prop
 | [],out=>out=[]
 | x::xs,out=>∃b out',out=b::out'/\(f x).run P w=.ok b w/\Zbt P w f xs out'
section
variable {P:Program} {E:Env} {w0:World} {G0:Gh} {outer:DD} {own:List Nat} {D:DD} {V nt:Nat} {a:Act} {w:World} {β:Bi} {G:Gh} {ro:Option Nat} {n:Nat} {h:Nat->Option Zb}
theorem ZgM {α γ δ:Type} (x:Sem α) (f:α->Sem γ) (g:γ->Sem δ):(x.bind f).bind g=x.bind fun a=>(f a).bind g:=by
 induction x<;>simp only[Sem.bind]<;>first|rfl|(congr 1;funext y;apply_assumption)|(congr 1)
theorem ZjF {α:Type} (x:Sem α):x.bind Sem.pure=x:=by
 induction x<;>simp only[Sem.bind]<;>first|rfl|(congr 1;funext y;apply_assumption)|(congr 1)
instance:LawfulMonad Sem:=LawfulMonad.mk' Sem (fun x=>ZjF x) (fun _ _=>rfl) (fun x f g=>ZgM x f g)
theorem ZdO {α γ:Type} (f:α->Sem γ):∀(l:List α) (out:List γ),Zbt P w f l out->(l.mapM f).run P w=.ok out w
 | [],out,h=>by simp only[Zbt]at h;subst h;rfl
 | x::xs,out,h=>by
  obtain⟨b,out',rfl,a,c⟩:=h;rw[List.mapM_cons,jz,a];simp only[Result.andThen];rw[jz,ZdO f xs out' c];rfl
theorem Zim {ti:TI} {da d:DV} {u:Value} (hr:Rep β G da u) (a:Z3a ti h da=some d):∃A,u=.pointer (some A):=by
 unfold Z3a at a;split at a
 ·obtain⟨b,_,rfl⟩:=Z1f.1 hr;exact⟨_,rfl⟩
 ·obtain⟨b,_,_,_,rfl⟩:=Z1T.1 hr;exact⟨_,rfl⟩
 ·obtain⟨_,b,o,rfl,_⟩:=Z3A.1 hr;exact⟨_,rfl⟩
 ·cases a
def Zi0 (tm:Array Value):ResultVar->Sem Value
 | .tmp t=>pure (tm.getD t undef)
 | .cell a t=>do loadVar t (<-asAddr (tm.getD a undef))
theorem Zf2 (fn:Func) (tm:Array Value):results fn tm=(do let vs <- fn.results.mapM (Zi0 tm);pure (if h:vs.size=1 then vs[0]else .tuple vs)):=by
 have:(fun(x:ResultVar)=>(match x with | .tmp t=>pure (tm.getD t undef) | .cell a t=>do loadVar t (<-asAddr (tm.getD a undef)):Sem Value))=Zi0 tm:=by
  funext x;cases x<;>rfl
 rw[<-this];rfl
theorem Z6u (hE:∀t ti,E.ty t=some ti->ZL P t ti) {base:Nat->Option DV} {tm:Array Value} (e:FrM β G base tm) (hh:HR E w0 G0 D w β G h):∀(rs:List ResultVar) (vs:List DV),Z4w E base h rs=some vs →
  ∃out,Zbt P w (Zi0 tm) rs out/\Ze β G vs out
 | [],vs,a=>by simp only[Z4w,jh]at a;subst a;exact⟨[],rfl,Zg.2 rfl⟩
 | .tmp t::rs,vs,a=>by
  simp only[Z4w]at a;obtain⟨d,l,a⟩:=Z0 a;obtain⟨ds,g,a⟩:=Z0 a;cases a;obtain⟨out,i,k⟩:=Z6u hE e hh rs ds g;obtain⟨v,m,f⟩:=e t d l;refine⟨v::out,⟨v,out,rfl,?_,i⟩,Za.2 ⟨v,out,rfl,f,k⟩⟩;simp[Zi0,m]
 | .cell b t::rs,vs,a=>by
  simp only[Z4w]at a;obtain⟨ti,c,a⟩:=Z0 a;obtain⟨da,l,a⟩:=Z0 a;obtain⟨d,n,a⟩:=Z0 a;obtain⟨ds,g,a⟩:=Z0 a;cases a;obtain⟨out,i,k⟩:=Z6u hE e hh rs ds g;obtain⟨u,m,f⟩:=e b da l;obtain⟨A,rfl⟩:=Zim f n;obtain⟨v,o,p⟩:=Z9G hE hh (hE t ti c) (hE t ti c).ko f n;refine⟨v::out,⟨v,out,rfl,?_,i⟩,Za.2 ⟨v,out,rfl,p,k⟩⟩;have j:(loadVar t A).run P w=.ok v w:=by simpa[Instr.loadAt,Instr.sureAddr]using o
  simp[Zi0,m,asAddr,j]
theorem Zaz (hE:∀t ti,E.ty t=some ti->ZL P t ti) {base:Nat->Option DV} {tm:Array Value} (g:FrM β G base tm) (hh:HR E w0 G0 D w β G h) {fn:Func} {rs:List ResultVar} (b:fn.results.toList=rs) {vs:List DV} (f:Z4w E base h rs=some vs) :
  ∃v,(results fn tm).run P w=.ok v w/\Rep β G (Z72 vs) v:=by
 obtain⟨out,c,a⟩:=Z6u (P:=P) hE g hh rs vs f;rw[<-b]at c;have j:=ZdO (P:=P) (w:=w) _ fn.results.toList out c;refine⟨if h:out.toArray.size=1 then out.toArray[0]else .tuple out.toArray,?_,?_⟩
 ·rw[Zf2,Array.mapM_eq_mapM_toList,jz];have l:∀(z:Sem (List Value)),z.run P w=.ok out w->(Functor.map List.toArray z).run P w=.ok out.toArray w:=fun z hz=>by
   rw[<-LawfulMonad.bind_pure_comp,jz,hz];rfl
  rw[l _ j];rfl
 ·have i:=ZJ a
  match vs,out,a,i with
  | [],[],_,_=>exact Ys.2 ⟨[],by simp,Zg.2 rfl⟩
  | [d],[v],a,_ =>
   obtain⟨v',vs',e,k,_⟩:=Za.1 a;cases e;simpa[Z72]using k
  | d::e::ds,u::v::out,a,_ =>
   refine Ys.2 ⟨u::v::out,by simp,a⟩
theorem HR.unmark {d:Nat} (hh:HR E w0 G0 (Yu [d] D) w β G h) (l:D d=none):HR E w0 G0 D (w.putObj d (.deferred none)) β G h:=by
 obtain⟨k1,k2,_⟩:=hh.marks d mkD (by simp[Yu])
 have f:∀i o b,h i=some o->Yf β i o b->b≠d:=fun i o b hi m e=>(Z4s (hh.own i o b hi m).2.2).1 (by simp[e])
 refine⟨hh.below.trans ⟨rfl,rfl,rfl,by simp,fun k p=>World.putObj_heap_other (by omega)⟩,hh.g0,fun c off v n=>?_,fun i x hi=>?_,fun i x c hi hc=>?_,hh.inj,fun e x j=>?_,hh.inv0⟩
 ·have hc:=hh.agree c off v n
  by_cases e:c=d
  ·subst e;unfold World.cell? at hc;rw[k2]at hc;cases hc
  ·exact(World.cell?_of_block (w:=w) (w':=w.putObj d (.deferred none)) (a:=⟨c,off,none⟩) (World.putObj_heap_other e)).trans hc
 ·exact Z1M.keep (Ext.refl _ _) (fun _=>rfl) (fun c hc=>⟨World.putObj_heap_other (f i x c hi hc),fun _=>rfl⟩) (hh.obj i x hi)
 ·obtain⟨m1,m2,m3⟩:=hh.own i x c hi hc;exact⟨m1,by simpa using m2,(Z4s m3).2⟩
 ·have g:e≠d:=fun q=>by rw[q,l]at j;cases j
  obtain⟨m1,m2,m3⟩:=hh.marks e x (by unfold Yu;rw[if_neg (by simpa using g)];exact j)
  exact⟨m1,(World.putObj_heap_other g).trans m2,m3⟩
theorem HR.lessD {D':DD} (hh:HR E w0 G0 D w β G h) (e:∀d x,D' d=some x->D d=some x):HR E w0 G0 D' w β G h :=
 ⟨hh.below,hh.g0,hh.agree,hh.obj,fun i o b hi c=>⟨(hh.own i o b hi c).1,(hh.own i o b hi c).2.1,by
  cases a:D' b with
  | none=>rfl
  | some x=>have:=e b x a;rw[(hh.own i o b hi c).2.2]at this;cases this⟩,hh.inj,fun d x a=>hh.marks d x (e d x a),hh.inv0⟩
theorem ZbP (f:∀g,E.dfr g=true->Zh0 P g) {fn:Func} {tm:Array Value} {R:Ending->World->Prop} (l:∀w,HR E w0 G0 outer w β G h->∃v,(results fn tm).run P w=.ok v w/\R (.returned v) w) {own:List Nat} {ds:List Deferred} (i:Z6y E own ds) :
  ∀(w:World),Z8Y own outer->HR E w0 G0 (Yu own outer) w β G h->LeavesInM Fence.wide n P fn tm R ds .returning w:=by
 induction i with
 | nil=>exact fun w _ hh=>l w (by rw[Z7T]at hh;exact hh)
 | @mark own ds d _ ih =>
  intro w c hh;have a:=List.nodup_cons.1 c.1;refine⟨by simp,.inl ⟨d,w.putObj d (.deferred none),rfl,run_takeDeferred (hh.marks d mkD ZeU).2.1,?_⟩⟩
  rw[Z5U]at hh;exact ih _ ⟨a.2,fun b j=>c.2 b (by simp[j])⟩ (hh.unmark (by unfold Yu;rw[if_neg a.1];exact c.2 d (by simp)))
 | @fn own ds g cap hg _ ih =>
  intro w c hh;obtain⟨k1,k2⟩:=f g hg (n-1) cap w;refine⟨by simp,.inr ⟨by simp[Fence.wide],.func g,cap,g,cap,rfl,k1,fun _ _=>trivial,CallsDIn.mono k2 fun e u' w' k=>?_⟩⟩
  obtain⟨⟨v,rfl⟩,rfl,rfl⟩:=k;exact ih w' c hh
theorem Z4U {V:Nat}:∀(vs:List DV) (k:Nat) (b:Tr DV) (t:Nat) (d:DV),(Z2a V k vs b).get t=some d->(k<=t/\vs[t-k]? = some d/\Nat.testBit V t=true)\/b.get t=some d
 | [],_,_,_,_,h=>.inr h
 | v::vs,k,b,t,d,h=>by
  simp only[Z2a]at h;rcases Z4U vs (k+1) _ t d h with⟨a,c,f⟩|a
  ·exact .inl ⟨by omega,by rw[show t-k=(t-(k+1))+1 by omega];simpa using c,f⟩
  ·cases hv:Nat.testBit V k with
   | false=>rw[hv]at a;exact .inr a
   | true =>
    rw[hv]at a;simp only[jB,Tr.get_set]at a
    by_cases e:t=k
    ·rw[if_pos e]at a;subst e;exact .inl ⟨Nat.le_refl _,by simpa using a,hv⟩
    ·rw[if_neg e]at a;exact .inr a
theorem Z4L {V nt:Nat}:∀(ps:List Nat) (vs:List DV) (b b':Tr DV) (us:List Value) (tm:Array Value),YS V nt ps vs b=some b'->Ze β G vs us->FrM β G b.get tm->tm.size=nt->(∀t d,b.get t=some d->Nat.testBit V t=true) →
  ps.length=us.length/\FrM β G b'.get ((ps.zip us).foldl (fun tmps (t,a)=>tmps.setIfInBounds t a) tm)/\((ps.zip us).foldl (fun tmps (t,a)=>tmps.setIfInBounds t a) tm).size=nt/\∀t d,b'.get t=some d->Nat.testBit V t=true
 | [],[],b,b',us,tm,h,hr,hf,hs,hd=>by
  simp only[YS,jh]at h;subst h;rw[Zg]at hr;subst hr;exact⟨rfl,hf,hs,hd⟩
 | p::ps,v::vs,b,b',us,tm,h,hr,hf,hs,hd=>by
  simp only[YS]at h;obtain⟨c,h⟩:=Z3 h;rw[Tr.blt_dec]at c;have c:p<nt:=by simpa using c
  obtain⟨u,us',rfl,l,k⟩:=Za.1 hr;have f:FrM β G (bif Nat.testBit V p then b.set p (some v)else b).get (tm.setIfInBounds p u)/\∀t d,(bif Nat.testBit V p then b.set p (some v)else b).get t=some d->Nat.testBit V t=true:=by
   cases hv:Nat.testBit V p with
   | true =>
    simp only[jB];refine⟨fun t d ht=>?_,fun t d ht=>?_⟩
    ·rw[Tr.get_set]at ht
     by_cases e:t=p
     ·rw[if_pos e]at ht;cases ht;exact⟨u,by rw[e,Array.getElem?_setIfInBounds_self_of_lt (by omega)],l⟩
     ·rw[if_neg e]at ht;obtain⟨x,i,j⟩:=hf t d ht;exact⟨x,by rw[Array.getElem?_setIfInBounds_ne (fun q=>e q.symm)];exact i,j⟩
    ·rw[Tr.get_set]at ht
     by_cases e:t=p
     ·rw[e];exact hv
     ·rw[if_neg e]at ht;exact hd t d ht
   | false =>
    simp only[jA];refine⟨fun t d ht=>?_,hd⟩;have g:p≠t:=fun e=>by have:=hd t d ht;rw[<-e,hv]at this;cases this
    obtain⟨x,i,j⟩:=hf t d ht;exact⟨x,by rw[Array.getElem?_setIfInBounds_ne g];exact i,j⟩
  obtain⟨k1,k2,k3,k4⟩:=Z4L ps vs _ b' us' (tm.setIfInBounds p u) h k f.1 (by simpa using hs) f.2
  exact⟨by simp[k1],k2,k3,k4⟩
 | [],_::_,_,_,_,_,h,_,_,_,_=>by cases h
 | _::_,[],_,_,_,_,h,_,_,_,_=>by cases h
end
end Go.Ab
namespace Go.Ab
open Go.RowKit
def Z8d (P:Program) (g:Nat) (e:TypeId) (size bytes:Nat):Prop:=YC P g ∧
 (∀(a:Addr) (n c:Nat) (news:List Value) (w:World),news.length=n*size->n<=maxLen->n*bytes<=140737488355328->(∀j u,news[j]? = some u->w.cell? (a.add j)=some u)->(∀u∈news,u.oneCell'=true) →
  Calls P g #[.slice (some a) n c] w fun x w'=>∃v',x=.returned v'/\w'.ownsRow w.heap.size e size v' n news/\Below w.heap.size w w') ∧
 ∀(n c:Nat) (w:World),Calls P g #[.slice none n c] w fun x w'=>x=.returned (.slice none 0 0)/\w'=w
def ZcB (P:Program) (g:Nat) (e:TypeId):Prop:=YC P g ∧
 (∀(b cap:Nat) (zs:List Int) (cur:Array Value) (w:World),w.heap[b]? = some (.cells cur e (0,0))->cur.toList.take zs.length=zs.map (Value.int .i64)->zs.length<=cur.size->zs.length<=1000000 →
  Calls P g #[.slice (some ⟨b,0,none⟩) zs.length cap] w fun x w'=>x=.returned (.tuple #[])/\w.grownBy w' (some b)/\∃cur',w'.heap[b]? = some (.cells cur' e (0,0))/\cur'.size=cur.size ∧
   cur'.toList.take zs.length=(zs.mergeSort fun x y=>decide (x<=y)).map (Value.int .i64)) ∧
 ∀(w:World),Calls P g #[.slice none 0 0] w fun x w'=>x=.returned (.tuple #[])/\w'=w
section
variable {P:Program} {E:Env}
theorem Z5j {β:Bi} {G:Gh} {a:DV} {vs:Array Value} (h:Ze β G [a] vs.toList):∃u,vs = #[u]/\Rep β G a u:=by
 obtain⟨u,us,d,c,b⟩:=Za.1 h;rw[Zg]at b;subst b;exact⟨u,YP d,c⟩
theorem Zhc {g:Nat} {e:TypeId} {ei:TI} (a4:E.ty e=some ei) (hc:Z8d P g e ei.size ei.bytes) {as:List DV} {o:Tr Zb} {nx:Nat} {r:DV} {o':Tr Zb} {nx':Nat} (h:Zis E e as o nx=some (r,o',nx')):YC P g ∧
   ∀(w0:World) (G0:Gh) (D:DD) (w:World) (β:Bi) (G:Gh) (vs:Array Value),HR E w0 G0 D w β G o.get->(∀id,nx<=id->ZE β o.get id)->Ze β G as vs.toList →
    Calls P g vs w (YI E w0 G0 D β G o nx r o' nx'):=by
 obtain⟨z,hcl,a0⟩:=hc;refine⟨z,fun w0 G0 D w β G vs hh hfr hrep=>?_⟩;unfold Zis at h;split at h
 ·rename_i x;obtain⟨es,hes,h⟩:=Z0 h;obtain⟨ei',q,h⟩:=Z0 h;rw[a4]at q;cases q;obtain⟨hq,h⟩:=Z3 h;cases h;simp only[jn,List.all_eq_true]at hq;obtain⟨⟨hq1,hq2⟩,hq3⟩:=hq;have l:∀c∈es,c.length=ei.size:=fun c hcc=>je (hq1 c hcc);have hsz:0<ei.size:=jf hq3;have a1:es.length*(ei.bytes+1)<=100000000000000:=jf hq2;rw[Nat.mul_add,Nat.mul_one]at a1;have f:=Z3Q a4;obtain⟨u,rfl,hr⟩:=Z5j hrep;obtain⟨A,c,rfl,hle,p⟩:=Z3u hh hes hr;have fin:∀(v':Value) (w':World) (news:List Value),w'.ownsRow w.heap.size e ei.size v' es.length news->Below w.heap.size w w'->Ze β G es.flatten news->(∀c∈es,c.length=ei.size/\Zc c=true/\c.all Zw=true) →
    YI E w0 G0 D β G o nx (.rs nx 0) (o.set nx (some (.row e es 0 0))) (nx+1) (.returned v') w':=fun v' w' news d s hrn a2=>by
   obtain⟨k1,k2⟩:=d;have v:w'.ownsRow w0.heap.size e (Yn E e) v' es.length news:=by
    rw[f];refine⟨k1,?_⟩;rcases k2 with k2|⟨gg,cap,cur,m1,m2,m3⟩
    ·exact .inl k2
    ·exact .inr ⟨gg,cap,cur,m1,Nat.le_trans hh.below.size m2,m3⟩
   have a5:∀b,v'.ownBlock=some b->w.heap.size<=b:=fun b a3=>by
    rcases k2 with⟨rfl,_⟩|⟨gg,cap,cur,rfl,m2,_⟩
    ·cases a3
    ·simp only[Value.ownBlock,jh]at a3;omega
   have hsl:∃a n c,v'=.slice a n c:=by
    rcases k2 with⟨rfl,_⟩|⟨gg,cap,cur,rfl,_⟩<;>exact⟨_,_,_,rfl⟩
   obtain⟨β',j1,j2,j3,j4⟩:=Z8V hh (hfr nx (Nat.le_refl _)) (w':=w') ⟨s.os,s.tape,s.output,s.size,fun k hk _=>s.block k hk⟩ v a5 hsl hrn (by rw[f];exact a2) (by rw[f];exact hsz)
   have m:∀i,(o.set nx (some (.row e es 0 0))).get i=Zy o.get [(nx,some (.row e es 0 0))] i:=fun i=>by rw[Tr.get_set,Zz]
   have hk:∀i,i≠nx->YN β β' o.get (o.set nx (some (.row e es 0 0))).get i:=fun i hi hf=>by
    obtain⟨q1,q2,q3⟩:=j4 i hi hf;exact⟨by rw[m];exact q1,q2,q3⟩
   exact⟨v',β',G,rfl,by omega,⟨j1,fun i hi=>hk i (by omega)⟩,j3.eq m,fun i hi=>(hk i (by omega)).fresh (hfr i (by omega)),j2⟩
  cases A with
  | none =>
   have h0:es=[]:=by
    rcases p with h0|⟨b,off,e',vals,hA,_⟩
    ·exact h0
    ·cases hA
   subst h0;refine Calls.mono (a0 _ _ w) fun x w' hx=>?_;obtain⟨rfl,rfl⟩:=hx;exact fin _ _ [] (World.ownsRow_nil _ _ _ _) (Below.refl _ _) (Zg.2 rfl) (by simp)
  | some a =>
   have t:∃news,news.length=es.length*ei.size/\Ze β G es.flatten news/\(∀j u,news[j]? = some u->w.cell? (a.add j)=some u)/\(∀u∈news,u.oneCell'=true)/\∀c∈es,c.length=ei.size/\Zc c=true/\c.all Zw=true:=by
    rcases p with rfl|⟨b,off,e',vals,hA,h1,h2,h3⟩
    ·exact⟨[],by simp,Zg.2 rfl,by simp,by simp,by simp⟩
    ·cases hA;refine⟨vals,by rw[ZJ h2,Z9p l],h2,fun j u hj=>by rw[Yc];exact h3 j u hj,Z4v ?_ h2,fun c hc=>⟨l c hc,(h1 c hc).2⟩⟩
     rw[List.all_eq_true];intro y hy;obtain⟨c,hc,hy⟩:=List.mem_flatten.1 hy;exact List.all_eq_true.1 (h1 c hc).2.2 y hy
   obtain⟨news,n1,n2,n3,n4,n5⟩:=t;refine Calls.mono (hcl a es.length c news w n1 (by unfold maxLen;omega) (by omega) n3 n4) fun x w' hx=>?_
   obtain⟨v',rfl,d,s⟩:=hx;exact fin v' w' news d s n2 n5
 ·cases h
theorem Zde:∀{es:List (List DV)} {l:List Int},Z9x es=some l->es=l.map fun n=>[DV.int .i64 n]
 | [],l,h=>by simp only[Z9x,jh]at h;subst h;rfl
 | c::es,l,h=>by
  unfold Z9x at h;split at h
  ·rename_i a;cases a
  ·rename_i n es' a;cases a;obtain⟨l',b,h⟩:=Z0 h;cases h;rw[Zde b];rfl
  ·cases h
theorem Z7D (n:Int):∀l:List Int,(Zey n l).Perm (n::l)
 | []=>List.Perm.refl _
 | m::l=>by
  unfold Zey;cases decide (n<=m)with
  | true=>exact List.Perm.refl _
  | false=>exact((Z7D n l).cons m).trans (List.Perm.swap n m l)
theorem Z4D:∀l:List Int,(Z3n l).Perm l
 | []=>List.Perm.refl _
 | n::l=>(Z7D n (Z3n l)).trans ((Z4D l).cons n)
theorem Z8r (n:Int):∀l:List Int,l.Pairwise (· <= ·)->(Zey n l).Pairwise (· <= ·)
 | [],_=>by simp[Zey]
 | m::l,h=>by
  obtain⟨b,c⟩:=List.pairwise_cons.1 h;unfold Zey
  by_cases hc:n<=m
  ·rw[decide_eq_true hc];exact List.pairwise_cons.2 ⟨fun x a=>by
    rcases jv.1 a with rfl|a
    ·exact hc
    ·exact Int.le_trans hc (b x a),h⟩
  ·rw[decide_eq_false hc];refine List.pairwise_cons.2 ⟨fun x a=>?_,Z8r n l c⟩;rcases jv.1 ((Z7D n l).mem_iff.1 a)with rfl|a
   ·omega
   ·exact b x a
theorem Z7j:∀l:List Int,(Z3n l).Pairwise (· <= ·)
 | []=>List.Pairwise.nil
 | n::l=>Z8r n _ (Z7j l)
theorem ZdX {l l':List Int} (h:l'.Perm l):(l'.mergeSort fun x y=>decide (x<=y))=Z3n l:=by
 refine List.Perm.eq_of_pairwise (le:=fun a b=>a<=b) (fun a b _ _ e d=>Int.le_antisymm e d) ?_ (Z7j l) (((List.mergeSort_perm l' _).trans h).trans (Z4D l).symm);have:=List.pairwise_mergeSort (le:=fun x y:Int=>decide (x<=y)) (fun a b c e d=>by simp only[jk]at *;omega) (fun a b=>by simp only[Bool.or_eq_true,jk];omega) l'
 exact this.imp fun h=>by simpa using h
theorem Zgt {es fs:List (List DV)} {l:List Int} (h:es=l.map fun n=>[DV.int .i64 n]) (a:fs.Perm es):∃l':List Int,l'.Perm l/\fs=l'.map fun n=>[DV.int .i64 n]:=by
 have hc:∀c∈fs,∃n,c=[DV.int .i64 n]:=fun c hc=>by
  have:=a.mem_iff.1 hc;rw[h]at this;obtain⟨n,_,rfl⟩:=List.mem_map.1 this;exact⟨n,rfl⟩
 have gen:∀fs:List (List DV),(∀c∈fs,∃n,c=[DV.int .i64 n])->∃l':List Int,fs=l'.map fun n=>[DV.int .i64 n]:=fun fs=>by
  induction fs with
  | nil=>intro _;exact⟨[],rfl⟩
  | cons c fs ih =>
   intro h;obtain⟨n,rfl⟩:=h c (by simp)
   obtain⟨l',rfl⟩:=ih fun c hc=>h c (by simp[hc])
   exact⟨n::l',rfl⟩
 obtain⟨l',rfl⟩:=gen fs hc;refine⟨l',?_,rfl⟩;rw[h]at a;have:=a.map (fun c:List DV=>match c with|[.int _ n]=>n|_=>0)
 simpa[Function.comp_def]using this
theorem Zb9 {β:Bi} {G:Gh}:∀{l:List Int} {vals:List Value},Ze β G ((l.map fun n=>[DV.int .i64 n]).flatten) vals->vals=l.map (Value.int .i64)
 | [],vals,h=>by rw[show((([]:List Int).map fun n=>[DV.int .i64 n]).flatten)=[]from rfl,Zg]at h;subst h;rfl
 | n::l,vals,h=>by
  obtain⟨v,vs,rfl,b,a⟩:=Za.1 (show Ze β G (DV.int .i64 n::(l.map fun n=>[DV.int .i64 n]).flatten) vals from h);rw[Zu.1 b,Zb9 a];rfl
theorem ZaT {β:Bi} {G:Gh}:∀(l:List Int),Ze β G ((l.map fun n=>[DV.int .i64 n]).flatten) (l.map (Value.int .i64))
 | []=>Zg.2 rfl
 | n::l=>Za.2 ⟨_,_,rfl,Zu.2 rfl,ZaT l⟩
theorem Zia {g:Nat} {e:TypeId} (hc:ZcB P g e) {as:List DV} {o:Tr Zb} {nx:Nat} {r:DV} {o':Tr Zb} {nx':Nat} (z:ZgR e as o nx=some (r,o',nx')):YC P g ∧
   ∀(w0:World) (G0:Gh) (D:DD) (w:World) (β:Bi) (G:Gh) (vs:Array Value),HR E w0 G0 D w β G o.get->(∀id,nx<=id->ZE β o.get id)->Ze β G as vs.toList →
    Calls P g vs w (YI E w0 G0 D β G o nx r o' nx'):=by
 obtain⟨hent,hcs,t⟩:=hc;refine⟨hent,fun w0 G0 D w β G vs hh hfr hrep=>?_⟩;unfold ZgR at z;split at z
 ·cases z;obtain⟨u,rfl,hr⟩:=Z5j hrep;rw[Z1o]at hr;subst hr;refine Calls.mono (t w) fun x w' hx=>?_;obtain⟨rfl,rfl⟩:=hx;exact⟨.tuple #[],β,G,rfl,Nat.le_refl _,Go2.refl _ _ _ _,hh,hfr,Ys.2 ⟨[],rfl,Zg.2 rfl⟩⟩
 ·rename_i id v;split at z
  ·rename_i e' es u y;obtain⟨hq,hd2⟩:=Z3 z;clear z;simp only[jn]at hq;obtain⟨⟨q1,q2⟩,q3⟩:=hq;obtain rfl:=je q1;obtain rfl:=je q2;obtain⟨l,hl,hd3⟩:=Z0 hd2;clear hd2;cases hd3;obtain⟨fs,hp,hdr,vals,k1,k2,k3,k4,k5,k6,k7⟩:=hh.obj id _ y;obtain⟨l',a1,rfl⟩:=Zgt (Zde hl) hp;have hvals:=Zb9 k3;subst hvals;have hlen:l'.length<=1000000:=by
    have h1:=hp.length_eq;have h2:=jf q3;simp only[List.length_map]at h1;omega
   have j:(Z3n l).length=l'.length:=by rw[(Z4D l).length_eq,a1.length_eq]
   obtain⟨uu,rfl,hr⟩:=Z5j hrep;obtain⟨hr1,_⟩:=Z1i.1 hr;rw[k1]at hr1;cases hr1;have hall:∀c∈(Z3n l).map fun n=>[DV.int .i64 n],c.length=Yn E e'/\Zc c=true/\c.all Zw=true:=fun c hcc=>by
    obtain⟨n,hn,rfl⟩:=List.mem_map.1 hcc;have hn':n∈l':=a1.mem_iff.2 ((Z4D l).mem_iff.1 hn);exact⟨(k4 [.int .i64 n] (List.mem_map.2 ⟨n,hn',rfl⟩)).1,rfl,rfl⟩
   have p:∀(x:Zb) (i:Nat),(o.set id (some x)).get i=Zy o.get [(id,some x)] i:=fun x i=>by rw[Tr.get_set,Zz]
   have fin:∀(w':World) (T:Nat->Prop),Below w0.heap.size w0 w'->(∀b,¬T b->b<w.heap.size->w'.heap[b]? = w.heap[b]?)->w.heap.size<=w'.heap.size->(∀b,T b->Yf β id (.bag e' es u) b) →
     w'.ownsRow w0.heap.size e' (Yn E e') hdr ((Z3n l).map fun n=>[DV.int .i64 n]).length ((Z3n l).map (Value.int .i64))->YI E w0 G0 D β G o nx (.tup []) (o.set id (some (.row e' ((Z3n l).map fun n=>[.int .i64 n]) 0 u))) nx (.returned (.tuple #[])) w':=fun w' T hb hoth hsz hT hown=>by
    have hG0:∀b,T b->∀off,G b off=none:=fun b a off=>by
     obtain⟨n,c,hq⟩:=hT b a;rw[k1]at hq;cases hq;exact k6 b rfl off (by simp[pn])
    have hmv:=hh.move (w':=w') T id (.row e' ((Z3n l).map fun n=>[.int .i64 n]) 0 u) (Ext.refl β G) hb hoth (fun _ _=>rfl) hsz (fun b a=>by
      obtain⟨m1,m2,m3⟩:=hh.own id _ b y (hT b a);exact⟨m1,m3⟩) (fun b i x a hx hown'=>hh.inj i id x _ b hx y hown' (hT b a)) (fun b a off v hv=>by rw[hG0 b a off]at hv;cases hv)
     ⟨hdr,_,k1,hown,ZaT _,hall,⟨k5.1,by simp[pn]⟩,fun b a off ho'=>k6 b a off (by simp[pn]),k7⟩
     (fun b a=>.inr ⟨_,y,a⟩) (fun b a=>by
      obtain⟨m1,m2,m3⟩:=hh.own id _ b y a;omega) (fun _ _=>⟨rfl,fun _=>rfl⟩)
    refine⟨.tuple #[],β,G,rfl,Nat.le_refl _,⟨Ext.refl β G,fun i _ hi=>?_⟩,hmv.eq (p _),fun i hi=>?_,Ys.2 ⟨[],rfl,Zg.2 rfl⟩⟩
    ·have a0:i≠id:=fun q=>by rw[q,y]at hi;cases hi
     exact⟨by rw[p,Zz,if_neg a0];exact hi,rfl,fun _=>rfl⟩
    ·have hf:=hfr i hi;have a0:i≠id:=fun q=>by have:=hf.h;rw[q,y]at this;cases this
     exact⟨hf.blk,hf.hdr,by rw[p,Zz,if_neg a0];exact hf.h⟩
   have f:0<l'.length->Yn E e'=1:=fun d=>by
    cases l' with
    | nil=>cases d
    | cons n l'=>exact((k4 [.int .i64 n] (by simp)).1).symm
   obtain⟨j1,j2⟩:=k2;rcases j2 with⟨rfl,j2⟩|⟨gg,cap,cur,rfl,j3,j4,j5,j6,j7,j8⟩
   ·refine Calls.mono (t w) fun x w' hx=>?_;obtain⟨rfl,rfl⟩:=hx;have d:(Z3n l).length=0:=by simp only[List.length_map]at j2;omega
    refine fin w' (fun _=>False) hh.below (fun _ _ _=>rfl) (Nat.le_refl _) (fun _ hf=>hf.elim) ⟨?_,.inl ⟨rfl,by simpa using d⟩⟩
    simp[d]
   ·simp only[List.length_map]at j5 j8 hr⊢;have m:cur.toList.take l'.length=l'.map (Value.int .i64):=by
     rcases Nat.eq_zero_or_pos l'.length with d|d
     ·have:l'=[]:=List.eq_nil_of_length_eq_zero d;subst this;rfl
     ·rw[f d,Nat.mul_one]at j8;exact j8
    have hcs1:l'.length<=cur.size:=by
     have:=congrArg List.length m;simp only[List.length_take,List.length_map,Array.length_toList]at this;omega
    refine Calls.mono (hcs gg cap l' cur w j4 m hcs1 hlen) fun x w' hx=>?_;obtain⟨rfl,hg,cur',c1,c2,c3⟩:=hx;have s:Yf β id (.bag e' es u) gg:=⟨_,_,k1⟩;obtain⟨m1,m2,m3⟩:=hh.own id _ gg y s;refine fin w' (fun b=>b=gg) (hh.below.grown hg hh.below.size (fun k hk=>by cases hk;exact m1)) (fun b hb hlt=>hg.block b hlt (fun hq=>hb (by cases hq;rfl))) hg.size (fun b hb=>by subst hb;exact s) ⟨?_,.inr ⟨gg,cap,cur',by simp[j],j3,c1,by simpa[j]using j5,j6,by rw[c2];exact j7,?_⟩⟩
    ·simp only[List.length_map,j];rcases Nat.eq_zero_or_pos l'.length with d|d
     ·rw[d];simp
     ·rw[f d,Nat.mul_one]
    ·simp only[List.length_map,j];rw[ZdX a1]at c3;rcases Nat.eq_zero_or_pos l'.length with d|d
     ·rw[d]at j;rw[List.eq_nil_of_length_eq_zero j,d];simp
     ·rw[f d,Nat.mul_one];exact c3
  ·cases z
 ·cases z
end
end Go.Ab
namespace Go.Ab
open Go.RowKit
section
variable {P:Program} {E:Env}
structure Z8e (P:Program) (E:Env):Prop where
 fn:∀f F,E.fn f=some F->ZD P f F
 leaf:∀g L as d,E.leaf g=some L->L as=some d->YC P g/\∀(w:World) (β:Bi) (G:Gh) (vs:Array Value),E.inv w->(∀b o v,G b o=some v->w.cell? ⟨b,o,none⟩=some v)->Ze β G as vs.toList->Zc as=true →
  Calls P g vs w fun e w'=>∃v G',e=.returned v/\Below w.heap.size w w'/\(∀b,b<w.heap.size->G' b=G b)/\(∀b o v,G' b o=some v->w'.cell? ⟨b,o,none⟩=some v)/\Rep β G' d v
 dfr:∀g,E.dfr g=true->Zh0 P g
 cc:∀g t,E.cc g=some t->YC P g/\∀(w:World) (b:Nat) (p v:Value),w.heap[b]? = some (.cells #[p,v] t (0,0))->(p=.pointer none\/p=.pointer (some ⟨b,0,none⟩)) →
  Calls P g #[.pointer (some ⟨b,0,none⟩)] w fun e w'=>e=.returned (.tuple #[])/\Below 0 w w'/\w'.heap.size=w.heap.size/\(∀k,k≠b->w'.heap[k]? = w.heap[k]?)/\w'.heap[b]? = some (.cells #[.pointer (some ⟨b,0,none⟩),v] t (0,0))
 cln:∀g e,E.cln g=some e->∃ei,E.ty e=some ei/\Z8d P g e ei.size ei.bytes
 srt:∀g e,E.srt g=some e->ZcB P g e
def ZjC (E:Env) (n:Nat) (g:Nat) (as:List DV):Option DV:=(evX E n false g as .leaf 0).bind fun x=>frz x.2.1.get x.1
def ZfR (callH:Yb) (g:Nat) (as:List DV):Option DV:=(callH g as .leaf 0).bind fun x=>frz x.2.1.get x.1
theorem ZhS {callH:Yb} (l:YT P E callH):Z33 P E (ZfR callH):=fun g as d j=>by
 unfold ZfR at j;obtain⟨⟨r,objs',nx'⟩,n,k⟩:=Z0 j;obtain⟨b,hcs⟩:=l _ _ _ _ _ _ _ n;refine⟨b,fun w β G vs hiv hag hrep hid=>?_⟩;have hh:HR E w G (fun _=>none) w ⟨fun _=>none,fun _ _=>none⟩ G (Tr.leaf:Tr Zb).get :=
  ⟨Below.refl _ _,fun _ _=>rfl,hag,fun _ _ h=>(by cases h),fun _ _ _ h=>(by cases h),fun _ _ _ _ _ h=>(by cases h),fun _ _ h=>(by cases h),hiv⟩
 refine Calls.mono (hcs w G (fun _=>none) w _ G vs hh (fun _ _=>⟨rfl,fun _=>rfl,rfl⟩) (Ze.free as _ hid hrep)) fun e w' m=>?_;obtain⟨v,β',G',rfl,_,_,i,_,hr⟩:=m;obtain⟨G2,c,a,f⟩:=Z1I i (Zh r);obtain⟨k1,k2⟩:=Z5v c (Z26 _ _) k f hr;exact⟨v,G2,rfl,a.below,a.g0,a.agree,k2,Rep.free d v k2 k1⟩
theorem Z4r {n:Nat} (a:YT P E (evX E n false)):Z33 P E (ZjC E n):=ZhS a
theorem ZgK (hE:∀t ti,E.ty t=some ti->ZL P t ti) (k:Z8e P E) (h:P.follows .mixedOrders=true) {n:Nat} {call:Nat->List DV->Option DV} {callH callY:Yb} (hp:Z33 P E call) (hH:YT P E callH) (hY:Z1c P E callY):YT P E (Za1 E call callH callY n) :=
 fun g as objs nx r objs' nx' a=>by
  unfold Za1 at a;obtain⟨F,hF,a⟩:=Z0 a;obtain⟨a0,a⟩:=Z3 a;obtain⟨⟨ex,s'⟩,hc,a⟩:=Z0 a;obtain⟨⟨fn,z,y,o,u⟩,j⟩:=k.fn g F hF;refine⟨j,fun w0 G0 D w β G vs hh hfr hrep=>?_⟩;have hlen:as.length<=F.nt:=jf a0;have p:=ZJ hrep;have hvs:vs.size=as.length:=by simpa using p
  have e:∃rs,Z4w E s'.base.get s'.objs.get F.nres=some rs/\r=Z72 rs/\objs'=s'.objs/\nx'=s'.next/\(ex=.normal\/ex=.ret):=by
   cases ex with
   | normal=>obtain⟨rs,f,c⟩:=Z0 a;cases c;exact⟨rs,f,rfl,rfl,rfl,.inl rfl⟩
   | ret=>obtain⟨rs,f,c⟩:=Z0 a;cases c;exact⟨rs,f,rfl,rfl,rfl,.inr rfl⟩
   | exit i=>cases a
   | busy=>cases a
  obtain⟨rs,q,rfl,rfl,rfl,x⟩:=e;refine(callsIn_wide (n:=0)).1 (callsIn_of_wp_marks z y trivial ?_);rw[o];have hm:SS E w0 G0 D F.vmask F.nt [] ⟨Z2a F.vmask 0 as .leaf,objs,nx⟩ { tmps:=vs++Array.replicate (F.nt-vs.size) undef,defers:=[] } w β G:=by
   refine⟨fun t d ht=>?_,fun t d ht=>?_,?_,by rw[Z7T];exact hh,hfr,Z6y.nil,List.nodup_nil,by simp⟩
   ·rcases Z4U as 0 .leaf t d ht with⟨_,c,_⟩|f
    ·obtain⟨v,l,s⟩:=Z3X hrep (i:=t) (d:=d) (by simpa using c)
     refine⟨v,?_,s⟩;have h5:vs[t]? = some v:=by simpa using l
     have m:t<vs.size:=(ja.1 h5).1;show(vs++Array.replicate (F.nt-vs.size) undef)[t]? = some v;rw[Array.getElem?_append_left m];exact h5
    ·cases f
   ·rcases Z4U as 0 .leaf t d ht with⟨_,_,l⟩|f
    ·exact l
    ·cases f
   ·show(vs++Array.replicate (F.nt-vs.size) undef).size=F.nt;simp;omega
  have b:∀own' a' w' β' G',nx<=s'.next->SS E w0 G0 D F.vmask F.nt own' s' a' w' β' G'->Go2 nx β G β' G' objs.get s'.objs.get →
    LeavesInM Fence.wide 0 P fn a'.tmps (YI E w0 G0 D β G objs nx (Z72 rs) s'.objs s'.next) a'.defers .returning w':=fun own' a' w' β' G' k1 k2 k3=>by
   refine ZbP k.dfr (fun w2 c=>?_) k2.df.1 w' k2.df.2 k2.hr;obtain⟨v,l,s⟩:=Zaz hE k2.fr c u q;exact⟨v,l,v,β',G',rfl,k1,k3,c,k2.fresh,s⟩
  refine Z7x (ro:=none) (rnd:=none) hE h hp hH hY hF n F.body 0 _ ex s' hc [] _ w β G _ rfl hm fun own' a' w' β' G' k1 k2 k3=>?_;rcases x with rfl|rfl
  ·exact b own' a' w' β' G' k1 k2 k3
  ·exact b own' a' w' β' G' k1 k2 k3
theorem Zgu (f:Z8e P E) {g:Nat} {L:List DV->Option DV} (hL:E.leaf g=some L) {as:List DV} {o:Tr Zb} {nx:Nat} {r:DV} {o':Tr Zb} {nx':Nat}
  (a:(bif Zc as then(L as).bind fun r=>bif Zf r then some (r,o,nx)else none else none)=some (r,o',nx')):YC P g ∧
   ∀(w0:World) (G0:Gh) (D:DD) (w:World) (β:Bi) (G:Gh) (vs:Array Value),HR E w0 G0 D w β G o.get->(∀id,nx<=id->ZE β o.get id)->Ze β G as vs.toList →
    Calls P g vs w (YI E w0 G0 D β G o nx r o' nx'):=by
 obtain⟨h,a⟩:=Z3 a;obtain⟨d,n,a⟩:=Z0 a;obtain⟨_,a⟩:=Z3 a;cases a;obtain⟨b,hc⟩:=f.leaf g L as r hL n;refine⟨b,fun w0 G0 D w β G vs hh hfr hrep=>Calls.mono (hc w β G vs hh.inv hh.agree hrep h) fun e w' m=>?_⟩;obtain⟨v,G',rfl,j,k,c,hr⟩:=m;obtain⟨i,l⟩:=hh.grow j k c;exact⟨v,β,G',rfl,Nat.le_refl _,⟨l,fun id _=>YN.refl β o.get id⟩,i,hfr,hr⟩
theorem Zir (hFn:Z8e P E) {g:Nat} {t:TypeId} (hc:E.cc g=some t) {as:List DV} {o:Tr Zb} {nx:Nat} {r:DV} {o':Tr Zb} {nx':Nat} (d:ccD t as o nx=some (r,o',nx')):YC P g ∧
   ∀(w0:World) (G0:Gh) (D:DD) (w:World) (β:Bi) (G:Gh) (vs:Array Value),HR E w0 G0 D w β G o.get->(∀id,nx<=id->ZE β o.get id)->Ze β G as vs.toList →
    Calls P g vs w (YI E w0 G0 D β G o nx r o' nx'):=by
 obtain⟨s,hcs⟩:=hFn.cc g t hc;refine⟨s,fun w0 G0 D w β G vs hh hfr hrep=>?_⟩;unfold ccD at d;split at d
 ·rename_i id;split at d
  ·rename_i t' c0 c1 n;obtain⟨hq,d⟩:=Z3 d;cases d;simp only[jn]at hq;obtain⟨q1,q2⟩:=hq;obtain rfl:=je q1;obtain⟨b,cs,k1,k2,k3,k4,k5⟩:=hh.obj id _ n;obtain⟨u,us,hvs,hu,a1⟩:=Za.1 hrep;rw[Zg]at a1;subst a1;obtain⟨b',a4,rfl⟩:=Z1f.1 hu;rw[k1]at a4;cases a4;obtain⟨p,ps,y,hp,hps⟩:=Za.1 k3;obtain⟨q,qs,rfl,hq1,z⟩:=Za.1 hps;rw[Zg]at z;subst z;have m:w.heap[b]? = some (.cells #[p,q] t' (0,0)):=by
    rw[k2];congr 2;exact YP y
   have hpp:p=.pointer none\/p=.pointer (some ⟨b,0,none⟩):=by
    split at q2
    ·exact .inl (Z7b.1 hp)
    ·rename_i j;obtain rfl:=je q2;obtain⟨b2,h2,rfl⟩:=Z1f.1 hp;rw[k1]at h2;cases h2;exact .inr rfl
    ·cases q2
   have a2:vs = #[.pointer (some ⟨b,0,none⟩)]:=YP hvs;subst a2;refine Calls.mono (hcs w b p q m hpp) fun e w' he=>?_;obtain⟨rfl,hb,hsz,f,a3⟩:=he;obtain⟨m1,m2,m3⟩:=hh.own id _ b n k1;have hG:∀off,G b off=none:=k5;have hc1:Zw c1=true:=by
    have:=k4;simp only[jt,jn]at this;exact this.2.1
   have hmv:HR E w0 G0 D w' β G (Zy o.get [(id,some (.cells t' [.ptr id 0,c1]))]) :=
    hh.move (fun k=>k=b) id (.cells t' [.ptr id 0,c1]) (Ext.refl β G) (hh.below.trans ⟨hb.os,hb.tape,hb.output,hb.size,fun k a=>f k (by omega)⟩)
     (fun k a _=>f k a) (fun _ _=>rfl) (by omega) (fun k a=>by subst a;exact⟨m1,m3⟩) (fun k i x a hx a0=>by subst a;exact hh.inj i id x _ k hx n a0 k1)
     (fun k a off v hv=>by subst a;rw[hG off]at hv;cases hv)
     ⟨b,#[.pointer (some ⟨b,0,none⟩),q],k1,a3,Za.2 ⟨_,_,rfl,Z1f.2 ⟨b,k1,rfl⟩,Za.2 ⟨_,_,rfl,hq1,Zg.2 rfl⟩⟩,by simp only[jt,hc1,List.all_nil];rfl,hG⟩
     (fun k a=>.inr ⟨_,n,a⟩) (fun k a=>by have:β.blk id=some k:=a;rw[k1]at this;cases this;omega) (fun _ _=>⟨rfl,fun _=>rfl⟩)
   have c:∀i,(o.set id (some (.cells t' [.ptr id 0,c1]))).get i=Zy o.get [(id,some (.cells t' [.ptr id 0,c1]))] i:=fun i=>by
    rw[Tr.get_set,Zz]
   refine⟨.tuple #[],β,G,rfl,Nat.le_refl _,⟨Ext.refl β G,fun i _ hi=>?_⟩,hmv.eq c,fun i hi=>?_,Ys.2 ⟨[],rfl,Zg.2 rfl⟩⟩
   ·have l:i≠id:=fun q=>by rw[q,n]at hi;cases hi
    exact⟨by rw[c,Zz,if_neg l];exact hi,rfl,fun _=>rfl⟩
   ·have hf:=hfr i hi;have l:i≠id:=fun q=>by have:=hf.h;rw[q,n]at this;cases this
    exact⟨hf.blk,hf.hdr,by rw[c,Zz,if_neg l];exact hf.h⟩
  ·cases d
 ·cases d
theorem ZgT (b:Z8e P E) {run:Yb} (hr:YT P E run):YT P E (fun g as o nx=>Z47 E g run g as o nx):=fun g as o nx r o' nx' a=>by
 simp only[Z47]at a;cases hL:E.leaf g with
 | some L=>rw[hL]at a;exact Zgu b hL a
 | none =>
  rw[hL]at a;cases hc:E.cc g with
  | some t=>rw[hc]at a;exact Zir b hc a
  | none =>
   rw[hc]at a;cases hcl:E.cln g with
   | some e =>
    rw[hcl]at a;obtain⟨ei,d,c⟩:=b.cln g e hcl;exact Zhc d c a
   | none =>
    rw[hcl]at a;cases hs:E.srt g with
    | some e=>rw[hs]at a;exact Zia (b.srt g e hs) a
    | none=>rw[hs]at a;exact hr g as o nx r o' nx' a
theorem Zhp (hE:∀t ti,E.ty t=some ti->ZL P t ti) (b:Z8e P E) (a:P.follows .mixedOrders=true) {n:Nat} (c:YT P E (evX E n false)) (d:Z1c P E (evX E n true)):YT P E (evX E (n+1) false) :=
 ZgT b (Zgf (ZgK (n:=n) hE b a (Z4r c) c d))
def ZgL (E:Env) (call:Nat->List DV->Option DV) (callH callY:Yb) (n:Nat):Yb:=fun l args objs next=>(match objs.get l with
  | some (.loop fid base ps assign body bid .normal)=>(E.fn fid).bind fun F=>(YS F.vmask F.nt ps args base).bind fun b =>
    let run:=evC E (some l) fid F call callH callY n bid
    (run assign ⟨b,objs,next⟩).bind fun r=>(match r.1,r.2.objs.get l with
    | .normal,some (.loop fid2 base2 ps2 assign2 body2 bid2 .normal)=>(run body { r.2 with objs:=r.2.objs.set l (some (.loop fid2 base2 ps2 assign2 body2 bid2 .busy)) }).bind fun r=>(match r.1,r.2.objs.get l with
     | .busy,_=>none
     | ex,some (.loop fid3 base3 ps3 assign3 body3 bid3 .busy)=>some (.bool (match ex with | .normal=>true|_=>false),r.2.objs.set l (some (.loop fid3 base3 ps3 assign3 body3 bid3 ex)),r.2.next)
     | _,_=>none)
    | _,_=>none)
  | _=>none)
theorem Zf5 (hE:∀t ti,E.ty t=some ti->ZL P t ti) (q:P.follows .mixedOrders=true) {n:Nat} {call:Nat->List DV->Option DV} {callH callY:Yb} (hp:Z33 P E call) (hH:YT P E callH) (hY:Z1c P E callY):Z1c P E (ZgL E call callH callY n) :=
 fun l as objs nx r objs' nx' c w0 G0 D w β G vs b hb hh hfr hrep=>by
  unfold ZgL at c;split at c
  ·rename_i fid base ps assign body bid hob;obtain⟨F,hF,c⟩:=Z0 c;obtain⟨b1,hset,c⟩:=Z0 c;obtain⟨⟨ex1,s1⟩,hc1,c⟩:=Z0 c;obtain⟨b',tm,df,fn,F',k1,k2,k3,k4,k5,k6⟩:=hh.obj l _ hob;rw[hb]at k1;cases k1;rw[hF]at k4;cases k4;obtain⟨m1,m2,m3,m4⟩:=Z4L ps as base b1 vs.toList tm hset hrep k3 k5 k6;have hsz:vs.size=ps.toArray.size:=by simpa using m1.symm
   have z:(ps.toArray.zip vs).foldl (fun tmps (t,a)=>tmps.setIfInBounds t a) tm=(ps.zip vs.toList).foldl (fun tmps (t,a)=>tmps.setIfInBounds t a) tm:=by
    rw[<-Array.foldl_toList];simp
   refine⟨fn,_,assign,body,run_yield k2 hsz,fun n=>?_⟩;refine roundIn_of_wpIn trivial ?_;simp only;rw[z];have hm:SS E w0 G0 D F.vmask F.nt [] ⟨b1,objs,nx⟩ { tmps:=(ps.zip vs.toList).foldl (fun tmps (t,a)=>tmps.setIfInBounds t a) tm,defers:=[] } w β G :=
    ⟨m2,m4,m3,by rw[Z7T];exact hh,hfr,Z6y.nil,List.nodup_nil,by simp⟩
   refine Z7x (ro:=some b) (rnd:=some l) hE q hp hH hY hF _ assign bid _ ex1 s1 hc1 [] _ w β G _ ⟨b,rfl,hb⟩ hm fun own1 a1 w1 β1 G1 q1 q2 q3=>?_;split at c
   ·rename_i fid2 bs2 ps2 as2 bo2 bid2 o f;replace o:ex1=.normal:=o;replace f:s1.objs.get l=some (.loop fid2 bs2 ps2 as2 bo2 bid2 .normal):=f;subst o;obtain⟨⟨ex2,s2⟩,hc2,c⟩:=Z0 c;have j:β1.blk l=some b:=q3.ext.blk _ _ hb;obtain⟨b'',tm2,df2,fn2,F2,j1,j2,j3⟩:=q2.hr.obj l _ f;rw[j]at j1;cases j1;have v:∀id,YN β1 β1 s1.objs.get (s1.objs.set l (some (.loop fid2 bs2 ps2 as2 bo2 bid2 .busy))).get id:=fun id hf=>⟨by
     rw[Tr.get_set]
     by_cases e:id=l
     ·subst e;rw[hf]at f;cases f
     ·rw[if_neg e];exact hf,rfl,fun _=>rfl⟩
    have hh2:HR E w0 G0 (Yu own1 D) (w1.putObj b (.loop { state:=.busy,pending:=YQ .normal,fn:=fn2,tmps:=tm2,params:=ps2.toArray,assign:=as2,body:=bo2,defers:=df2 })) β1 G1 (s1.objs.set l (some (.loop fid2 bs2 ps2 as2 bo2 bid2 .busy))).get:=by
     refine(Z48 (o':=.loop fid2 bs2 ps2 as2 bo2 bid2 .busy) (ob':=.loop { state:=.busy,pending:=YQ .normal,fn:=fn2,tmps:=tm2,params:=ps2.toArray,assign:=as2,body:=bo2,defers:=df2 }) q2.hr f j j2 (by simp) (fun x y=>?_) ?_).eq fun i=>by rw[Tr.get_set,Zz]
     ·simp only[Yf]at y;rw[j]at y;cases y;rfl
     ·exact⟨b,tm2,df2,fn2,F2,j,by rw[World.putObj_heap_same (ja.1 j2).1];simp[YQ],j3⟩
    refine⟨_,run_beginRound j2 rfl,?_⟩;refine Z7x (ro:=some b) (rnd:=some l) hE q hp hH hY hF _ body bid { s1 with objs:=s1.objs.set l (some (.loop fid2 bs2 ps2 as2 bo2 bid2 .busy)) } ex2 s2 hc2 own1 a1 _ β1 G1 _ ⟨b,rfl,j⟩
     ⟨q2.fr,q2.dom,q2.sz,hh2,fun id m=>(v id).fresh (q2.fresh id m),q2.df⟩ fun own3 a3 w3 β3 G3 p1 p2 p3=>?_
    have a0:ex2≠.busy/\∃fid3 bs3 ps3 as3 bo3 bid3,s2.objs.get l=some (.loop fid3 bs3 ps3 as3 bo3 bid3 .busy)/\r=.bool (YQ ex2).isNone/\objs'=s2.objs.set l (some (.loop fid3 bs3 ps3 as3 bo3 bid3 ex2))/\nx'=s2.next:=by
     split at c
     ·cases c
     ·rename_i hl3 hne;cases c;have u:ex2≠.busy:=fun e=>hne e;refine⟨u,_,_,_,_,_,_,hl3,?_,rfl,rfl⟩;clear hc2 hl3;cases ex2<;>first|rfl|exact absurd rfl u
     ·cases c
    obtain⟨hnb,fid3,bs3,ps3,as3,bo3,bid3,h,rfl,rfl,rfl⟩:=a0;have p:β3.blk l=some b:=p3.ext.blk _ _ j;obtain⟨b4,tm3,df3,fn3,F3,i1,i2,i3⟩:=p2.hr.obj l _ h;rw[p]at i1;cases i1;have k:=run_endRound (P:=P) (YQ ex2) i2;have hh4:HR E w0 G0 (Yu own3 D) (w3.putObj b (.loop { state:=(if(YQ ex2).isNone then .ready else .done),pending:=YQ ex2,fn:=fn3,tmps:=tm3,params:=ps3.toArray,assign:=as3,body:=bo3,defers:=df3 })) β3 G3 (s2.objs.set l (some (.loop fid3 bs3 ps3 as3 bo3 bid3 ex2))).get:=by
     refine(Z48 (o':=.loop fid3 bs3 ps3 as3 bo3 bid3 ex2) (ob':=.loop { state:=(if(YQ ex2).isNone then .ready else .done),pending:=YQ ex2,fn:=fn3,tmps:=tm3,params:=ps3.toArray,assign:=as3,body:=bo3,defers:=df3 }) p2.hr h p i2 (by simp) (fun x y=>?_) ?_).eq fun i=>by rw[Tr.get_set,Zz]
     ·simp only[Yf]at y;rw[p]at y;cases y;rfl
     ·refine⟨b,tm3,df3,fn3,F3,p,?_,i3⟩;rw[World.putObj_heap_same (ja.1 i2).1];cases ex2<;>simp[YQ]at hnb⊢
    have s:∀id,YN β3 β3 s2.objs.get (s2.objs.set l (some (.loop fid3 bs3 ps3 as3 bo3 bid3 ex2))).get id:=fun id hf=>⟨by
     rw[Tr.get_set]
     by_cases e:id=l
     ·subst e;rw[hf]at h;cases h
     ·rw[if_neg e];exact hf,rfl,fun _=>rfl⟩
    have g:YI E w0 G0 D β G objs nx (.bool (YQ ex2).isNone) (s2.objs.set l (some (.loop fid3 bs3 ps3 as3 bo3 bid3 ex2))) s2.next (.returned (.bool (YQ ex2).isNone)) (w3.putObj b (.loop { state:=(if(YQ ex2).isNone then .ready else .done),pending:=YQ ex2,fn:=fn3,tmps:=tm3,params:=ps3.toArray,assign:=as3,body:=bo3,defers:=df3 })):=by
     refine⟨_,β3,G3,rfl,Nat.le_trans q1 p1,q3.trans ⟨p3.ext,fun id m=>((v id).trans (p3.keep id (Nat.lt_of_lt_of_le m q1))).trans (s id)⟩,hh4.lessD (fun d x c=>?_),fun id m=>(s id).fresh (p2.fresh id m),ZH.2 ?_⟩
     ·unfold Yu;rw[if_neg (fun hm=>by rw[p2.df.2.2 d hm]at c;cases c)]
      exact c
     rfl
    cases ex2 with
    | normal=>exact⟨_,_,k,g⟩
    | exit i=>exact⟨_,_,k,g⟩
    | ret=>exact⟨_,_,k,g⟩
    | busy=>exact absurd rfl hnb
   ·cases c
  ·cases c
theorem Zgo (hE:∀t ti,E.ty t=some ti->ZL P t ti) (a:P.follows .mixedOrders=true) {n:Nat} (b:YT P E (evX E n false)) (c:Z1c P E (evX E n true)):Z1c P E (evX E (n+1) true) :=
 Zf5 (n:=n) hE a (Z4r b) b c
def ZbF (E:Env) (call:Nat->List DV->Option DV):Nat->Bool->Yb
 | 0,_=>fun _ _ _ _=>none
 | n+1,false=>fun g as o nx=>Z47 E g (Z4e E (Za1 E call (ZbF E call n false) (ZbF E call n true) n)) g as o nx
 | n+1,true=>ZgL E call (ZbF E call n false) (ZbF E call n true) n
theorem ZaM (hE:∀t ti,E.ty t=some ti->ZL P t ti) (b:Z8e P E) (a:P.follows .mixedOrders=true):∀n,YT P E (evX E n false)/\Z1c P E (evX E n true)
 | 0=>⟨fun _ _ _ _ _ _ _ h=>by simp[evX]at h,fun _ _ _ _ _ _ _ h=>by simp[evX]at h⟩
 | n+1 =>
  have ih:=ZaM hE b a n
  ⟨Zhp hE b a ih.1 ih.2,Zgo hE a ih.1 ih.2⟩
theorem ZjN (hE:∀t ti,E.ty t=some ti->ZL P t ti) (h:Z8e P E) (a:P.follows .mixedOrders=true) {n f:Nat} {as:List DV} {d:DV} (k:evF E n f as=some d)
  {w:World} {β:Bi} {G:Gh} {vs:Array Value} (j:E.inv w) (i:∀b o v,G b o=some v->w.cell? ⟨b,o,none⟩=some v) (c:Ze β G as vs.toList) (g:Zc as=true) :
  Calls P f vs w fun e w'=>∃v G',e=.returned v/\Below w.heap.size w w'/\(∀b,b<w.heap.size->G' b=G b)/\(∀b o v,G' b o=some v->w'.cell? ⟨b,o,none⟩=some v)/\Zf d=true/\Rep β G' d v :=
 ((Z4r (ZaM hE h a n).1) f as d k).2 w β G vs j i c g
mutual
def Z2N:DV->DV->Bool
 | .bool a,.bool b=>a==b
 | .int k a,.int k' b=>k==k'&&a==b
 | .str a,.str b=>a.data.toList==b.data.toList
 | .nils,.nils=>true
 | .nilp,.nilp=>true
 | .sl a,.sl b=>ZcN a b
 | .agg a,.agg b=>Z8j a b
 | _,_=>false
def Z8j:List DV->List DV->Bool
 | [],[]=>true
 | a::as,b::bs=>Z2N a b&&Z8j as bs
 | _,_=>false
def ZcN:List (List DV)->List (List DV)->Bool
 | [],[]=>true
 | a::as,b::bs=>Z8j a b&&ZcN as bs
 | _,_=>false
end
mutual
theorem Ziy:∀(a b:DV),Z2N a b=true->a=b
 | .bool a,b,h=>by cases b<;>simp[Z2N]at h;rw[h]
 | .int k a,b,h=>by cases b<;>simp[Z2N]at h;rw[h.1,h.2]
 | .str a,b,h=>by
  cases b<;>simp[Z2N]at h;rename_i b;cases a;cases b;simp only at h;rw[h]
 | .nils,b,h=>by cases b<;>simp[Z2N]at h;rfl
 | .nilp,b,h=>by cases b<;>simp[Z2N]at h;rfl
 | .sl a,b,h=>by
  cases b<;>simp[Z2N]at h;rw[ZcO _ _ h]
 | .agg a,b,h=>by
  cases b<;>simp[Z2N]at h;rw[Z6H _ _ h]
 | .ptr _ _,b,h=>by simp[Z2N]at h
 | .rptr _ _ _ _ _,b,h=>by simp[Z2N]at h
 | .pub _,b,h=>by simp[Z2N]at h
 | .rs _ _,b,h=>by simp[Z2N]at h
 | .rv _ _ _ _ _,b,h=>by simp[Z2N]at h
 | .slen _,b,h=>by simp[Z2N]at h
 | .tup _,b,h=>by simp[Z2N]at h
 | .fn _ _ _,b,h=>by simp[Z2N]at h
 | .nilfn,b,h=>by simp[Z2N]at h
 | .map _,b,h=>by simp[Z2N]at h
 | .nilmap,b,h=>by simp[Z2N]at h
 | .iface _ _,b,h=>by simp[Z2N]at h
 | .nilif,b,h=>by simp[Z2N]at h
 | .iter _,b,h=>by simp[Z2N]at h
 | .yld _,b,h=>by simp[Z2N]at h
theorem Z6H:∀(a b:List DV),Z8j a b=true->a=b
 | [],b,h=>by cases b<;>simp[Z8j]at h;rfl
 | a::as,b,h=>by
  cases b<;>simp[Z8j]at h;rw[Ziy _ _ h.1,Z6H _ _ h.2]
theorem ZcO:∀(a b:List (List DV)),ZcN a b=true->a=b
 | [],b,h=>by cases b<;>simp[ZcN]at h;rfl
 | a::as,b,h=>by
  cases b<;>simp[ZcN]at h;rw[Z6H _ _ h.1,ZcO _ _ h.2]
end
def ZhC:List (Nat×List DV×DV)->Nat->List DV->Option DV
 | [],_,_=>none
 | (f,xs,d)::l,g,as=>bif Nat.beq f g&&Z8j xs as then some d else ZhC l g as
def Zi7 (E:Env) (l:List (Nat×List DV×DV)) (n:Nat) (g:Nat) (as:List DV):Option DV:=bif l.any fun e=>Nat.beq e.1 g then ZhC l g as else evF E n g as
def ZjK (E:Env) (l:List (Nat×List DV×DV)) (n f:Nat) (as:List DV):Option DV:=ZfR (ZbF E (Zi7 E l n) n false) f as
end
end Go.Ab
namespace Go.Ab
open Go.RowKit
mutual
def Z20 (P:Program):Nat->TypeId->List DV->Bool
 | 0,_,_=>false
 | d+1,t,zs=>(match P.underlying t,zs with
  | some .bool,[.bool _]=>true
  | some (.int k),[.int k' _]=>k==k'
  | some .string,[.str _]=>true
  | some (.struct fs),zs => !P.stoodInHeld t&&Z2c P d fs.toList 0 zs
  | some (.array n e),zs=>(match P.info? e with
   | some i=>Nat.beq zs.length (n*i.size)&&(List.range n).all fun j=>Z20 P d e ((zs.drop (j*i.size)).take i.size)
   | none=>false)
  | _,_=>false)
def Z2c (P:Program):Nat->List Field->Nat->List DV->Bool
 | _,[],off,zs=>Nat.ble zs.length off
 | 0,_::_,_,_=>false
 | d + 1, f :: fs, off, zs => f.name != "_" && Nat.beq f.offset off && (match P.info? f.type with
  | some i=>Nat.ble (off+i.size) zs.length&&Z20 P d f.type ((zs.drop off).take i.size)&&Z2c P d fs (off+i.size) zs
  | none=>false)
end
theorem ZW:∀{zs xs:List DV},Zd zs xs=true->xs.length=zs.length
 | [],[],_=>rfl
 | z::zs,x::xs,h=>by
  cases z<;>cases x<;>simp only[Zd,jg,jn]at h
  ·simp[ZW h]
  ·simp[ZW h.2]
  ·simp[ZW h]
 | [],x::xs,h=>by simp[Zd]at h
 | z::zs,[],h=>by cases z<;>simp[Zd]at h
theorem Yj:∀(k:Nat) {zs xs:List DV},Zd zs xs=true->Zd (zs.take k) (xs.take k)=true/\Zd (zs.drop k) (xs.drop k)=true
 | 0,zs,xs,h=>⟨by simp[Zd],by simpa using h⟩
 | k+1,[],[],_=>⟨by simp[Zd],by simp[Zd]⟩
 | k+1,z::zs,x::xs,h=>by
  cases z<;>cases x<;>simp only[Zd,jg,jn]at h
  ·obtain⟨a,b⟩:=Yj k h;exact⟨by simpa[Zd]using a,by simpa using b⟩
  ·obtain⟨a,b⟩:=Yj k h.2;exact⟨by simpa[Zd]using ⟨by simpa using h.1,a⟩,by simpa using b⟩
  ·obtain⟨a,b⟩:=Yj k h;exact⟨by simpa[Zd]using a,by simpa using b⟩
 | k+1,[],x::xs,h=>by simp[Zd]at h
 | k+1,z::zs,[],h=>by cases z<;>simp[Zd]at h
def Z10 (P:Program) (t:TypeId) (vs:List Value):Value:=match P.underlying t with
 | some (.struct _)=>.agg vs.toArray
 | some (.array _ _)=>.agg vs.toArray
 | _=>vs.headD undef
section
variable {P:Program} {β:Bi} {G:Gh}
theorem Z1m:∀(k:Nat) {xs ys:List DV} {r:Bool},Zl xs ys=some r->∃r1 r2,Zl (xs.take k) (ys.take k)=some r1/\Zl (xs.drop k) (ys.drop k)=some r2/\r=(r1&&r2)
 | 0,xs,ys,r,h=>⟨true,r,by simp[Zl],by simpa using h,by simp⟩
 | k+1,[],[],r,h=>⟨true,true,by simp[Zl],by simp[Zl],by simpa[Zl]using h.symm⟩
 | k+1,x::xs,[],r,h=>by cases x<;>simp[Zl]at h
 | k+1,[],y::ys,r,h=>by cases y<;>simp[Zl]at h
 | k+1,x::xs,y::ys,r,h=>by
  cases x<;>cases y<;>simp only[Zl,reduceCtorEq]at h
  ·rename_i a b;obtain⟨q,d,c⟩:=Z0 h;cases c;obtain⟨r1,r2,k1,k2,rfl⟩:=Z1m k d;exact⟨(a==b&&r1),r2,by simp[Zl,k1],by simpa using k2,by rw[Bool.and_assoc]⟩
  ·rename_i ka a kb b;obtain⟨e,h⟩:=Z3 h;obtain⟨q,d,c⟩:=Z0 h;cases c;obtain⟨r1,r2,k1,k2,rfl⟩:=Z1m k d;exact⟨(a==b&&r1),r2,by simp[Zl,k1,e],by simpa using k2,by rw[Bool.and_assoc]⟩
  ·rename_i a b;obtain⟨q,d,c⟩:=Z0 h;cases c;obtain⟨r1,r2,k1,k2,rfl⟩:=Z1m k d;exact⟨(a==b&&r1),r2,by simp[Zl,k1],by simpa using k2,by rw[Bool.and_assoc]⟩
theorem Z5c {d:Nat} {t:TypeId} {i:TypeInfo} (hi:P.info? t=some i) {zs:List DV} (c:zs.length=i.size) (a:Z20 P d t zs=true) {vs:List Value} {off:Nat} (m:off+i.size<=vs.length) (w:World) :
  (part t vs.toArray off).run P w=.ok (Z10 P t ((vs.drop off).take i.size)) w:=by
 cases d with
 | zero=>simp[Z20]at a
 | succ d =>
  have j:(sizeOf t).run P w=.ok i.size w:=by simp[sizeOf,typeInfo,hi]
  simp only[Z20]at a;have plain:∀dd,P.underlying t=some dd->(match dd with | .struct _ | .array _ _=>true|_=>false)=false->i.size=1->(part t vs.toArray off).run P w=.ok (Z10 P t ((vs.drop off).take i.size)) w:=fun dd g f l=>by
   have b:(isAgg t).run P w=.ok false w:=by
    unfold isAgg;rw[jz,ji g w];cases dd<;>first|rfl|(simp at f)
   have h:off<vs.length:=by omega
   have hv:Z10 P t ((vs.drop off).take i.size)=vs[off]:=by
    unfold Z10;rw[g,l,jb h];cases dd<;>first|rfl|(simp at f)
   unfold part;rw[jz,b,hv];simp[Result.andThen,h]
  cases hu:P.underlying t with
  | none=>rw[hu]at a;cases a
  | some dd =>
   rw[hu]at a;cases dd with
   | bool =>
    split at a<;>first|(rename_i e _;exact plain _ hu rfl (by rw[<-c];rfl))|cases a|simp_all
   | int k =>
    split at a<;>first|(rename_i e _;exact plain _ hu rfl (by rw[<-c];rfl))|cases a|simp_all
   | string =>
    split at a<;>first|(rename_i e _;exact plain _ hu rfl (by rw[<-c];rfl))|cases a|simp_all
   | struct fs =>
    have b:(isAgg t).run P w=.ok true w:=by unfold isAgg;rw[jz,ji hu w];rfl
    unfold part Z10;rw[jz,b,hu];simp[Result.andThen,j]
   | array n e =>
    have b:(isAgg t).run P w=.ok true w:=by unfold isAgg;rw[jz,ji hu w];rfl
    unfold part Z10;rw[jz,b,hu];simp[Result.andThen,j]
   | _=>simp at a
theorem Zfw:∀(fuel:Nat),
  (∀(t:TypeId) (zs:List DV),Z20 P fuel t zs=true->∀D,fuel<=D->∀(xs ys:List DV) (r:Bool) (vx vy:List Value) (w:World),Zl xs ys=some r->Zd zs xs=true->Zd zs ys=true->Ze β G xs vx->Ze β G ys vy →
   (Op.equalIn D t (Z10 P t vx) (Z10 P t vy)).run P w=.ok r w) ∧
  (∀(fs:List Field) (off:Nat) (zs:List DV),Z2c P fuel fs off zs=true->∀D,fuel<=D->∀(xs ys:List DV) (r:Bool) (vx vy:List Value) (w:World),Zl (xs.drop off) (ys.drop off)=some r->Zd zs xs=true->Zd zs ys=true->Ze β G xs vx->Ze β G ys vy →
   (Op.eqFields D vx.toArray vy.toArray fs).run P w=.ok r w)
 | 0=>by
  refine⟨fun t n h=>by simp[Z20]at h,fun fs off zs h D _ xs ys r vx vy w a g hy d b=>?_⟩
  cases fs with
  | cons f fs=>simp[Z2c]at h
  | nil =>
   simp only[Z2c]at h;have:=jf h;rw[jd (by rw[ZW g];exact this),jd (by rw[ZW hy];exact this)]at a
   simp only[Zl,jh]at a;subst a;rfl
 | fuel+1=>by
  obtain⟨ih1,ih2⟩:=Zfw fuel;refine⟨fun t zs h D hD xs ys r vx vy w a g hy d b=>?_,fun fs off zs h D hD xs ys r vx vy w a g hy d b=>?_⟩
  ·obtain⟨D,rfl⟩:∃D',D=D'+1:=⟨D-1,by omega⟩
   simp only[Z20]at h;have one:∀{zs:List DV} {vz:List Value},zs.length=1->Ze β G zs vz->∃z v,zs=[z]/\vz=[v]/\Rep β G z v:=fun {zs vz} hz hr=>by
    obtain⟨z,rfl⟩:=List.length_eq_one_iff.1 hz;obtain⟨v,vs',rfl,q,o⟩:=Za.1 hr;rw[Zg]at o;subst o;exact⟨z,v,rfl,rfl,q⟩
   split at h
   ·rename_i j;obtain⟨x,u,rfl,rfl,q⟩:=one (ZW g) d;obtain⟨y,v,rfl,rfl,o⟩:=one (ZW hy) b;have hv:∀v:Value,Z10 P t [v]=v:=fun v=>by unfold Z10;rw[j];rfl
    rw[hv,hv];cases x<;>simp only[Zd,jg]at g;cases y<;>simp only[Zd,jg]at hy;simp only[Zl,jm,Bool.and_true,jh]at a;rw[ZH]at q o;subst q o a;simp[Op.equalIn,ji j]
   ·rename_i j;obtain⟨x,u,rfl,rfl,q⟩:=one (ZW g) d;obtain⟨y,v,rfl,rfl,o⟩:=one (ZW hy) b;have hv:∀v:Value,Z10 P t [v]=v:=fun v=>by unfold Z10;rw[j];rfl
    rw[hv,hv];cases x<;>simp only[Zd,jg]at g;cases y<;>simp only[Zd,jg]at hy;simp only[Zl,jm,Bool.and_true]at a;obtain⟨hq,a⟩:=Z3 a;have hq:=eq_of_beq hq;simp only[jh]at a;rw[Zu]at q o;subst q o a hq;simp[Op.equalIn,ji j]
   ·rename_i j;obtain⟨x,u,rfl,rfl,q⟩:=one (ZW g) d;obtain⟨y,v,rfl,rfl,o⟩:=one (ZW hy) b;have hv:∀v:Value,Z10 P t [v]=v:=fun v=>by unfold Z10;rw[j];rfl
    rw[hv,hv];cases x<;>simp only[Zd,jg]at g;cases y<;>simp only[Zd,jg]at hy;simp only[Zl,jm,Bool.and_true,jh]at a;rw[Yg]at q o;subst q o a;simp[Op.equalIn,ji j]
   ·rename_i _ fs j;simp only[jn,Bool.not_eq_true']at h;have a3:P.fieldsOf t=fs:=by unfold Program.fieldsOf;rw[j]
    have hv:∀vs,Z10 P t vs=.agg vs.toArray:=fun vs=>by unfold Z10;rw[j]
    rw[hv,hv,run_equalIn_struct w D t _ _ (by rw[a3];exact j) h.1,a3]
    exact ih2 fs.toList 0 _ h.2 D (by omega) xs ys r vx vy w (by simpa using a) g hy d b
   ·rename_i m e j;split at h
    ·rename_i i hi;rw[jn]at h;obtain⟨s,a4⟩:=h;have s:=je s;have hv:∀vs,Z10 P t vs=.agg vs.toArray:=fun vs=>by unfold Z10;rw[j]
     have a2:P.cellsOf e=i.size:=by simp[Program.cellsOf,hi]
     rw[hv,hv,run_equalIn_array (w:=w) D _ _ j hi,a2,List.range_eq_range'];have a7:=ZW g;have a6:=ZW hy;have a9:=ZJ d;have a8:=ZJ b;have items:∀(c k:Nat) (r:Bool) (w:World),k+c=m->Zl (xs.drop (k*i.size)) (ys.drop (k*i.size))=some r->(Op.eqItems D e i.size vx.toArray vy.toArray (List.range' k c)).run P w=.ok r w:=by
      intro c
      induction c with
      | zero =>
       intro k r w hk a;have:k=m:=by omega
       subst this;rw[jd (by omega),jd (by omega)]at a
       simp only[Zl,jh]at a;subst a;rfl
      | succ c ihc =>
       intro k r w hk a;obtain⟨r1,r2,e1,e2,rfl⟩:=Z1m i.size a;have l:=(List.all_eq_true.1 a4) k (List.mem_range.2 (by omega))
       have hkm:k*i.size+i.size<=m*i.size:=by
        have:=Nat.mul_le_mul_right i.size (show k+1<=m by omega)
        rwa [Nat.add_mul,Nat.one_mul]at this
       have g1:=ih1 e _ l D (by omega) _ _ r1 _ _ w e1 (Yj i.size (Yj (k*i.size) g).2).1 (Yj i.size (Yj (k*i.size) hy).2).1 (Yy i.size (Yx (k*i.size) d)) (Yy i.size (Yx (k*i.size) b))
       rw[List.drop_drop,List.drop_drop,show k*i.size+i.size=(k+1)*i.size by rw[Nat.add_mul,Nat.one_mul]]at e2
       have g2:=ihc (k+1) r2 w (by omega) e2
       have p1:=Z5c hi (by simp;omega) l (vs:=vx) (off:=k*i.size) (by omega) w
       have p2:=Z5c hi (by simp;omega) l (vs:=vy) (off:=k*i.size) (by omega) w
       rw[List.range'_succ];simp only[Op.eqItems,jz,p1,p2,Result.andThen,g1];cases r1
       ·simp
       ·simpa using g2
     exact items m 0 r w (by omega) (by simpa using a)
    ·cases h
   ·cases h
  ·cases fs with
   | nil =>
    simp only[Z2c]at h;have:=jf h;rw[jd (by rw[ZW g];exact this),jd (by rw[ZW hy];exact this)]at a
    simp only[Zl,jh]at a;subst a;rfl
   | cons f fs =>
    simp only[Z2c,jn,bne_iff_ne,ne_eq]at h;obtain⟨⟨a0,p⟩,h⟩:=h;have p:f.offset=off:=je p;split at h
    ·rename_i i hi;rw[jn,jn]at h;obtain⟨⟨a5,l⟩,hf2⟩:=h;have a5:=jf a5;have a9:=ZJ d;have a8:=ZJ b;have a7:=ZW g;have a6:=ZW hy;obtain⟨r1,r2,e1,e2,rfl⟩:=Z1m i.size a;have g1:=ih1 f.type _ l D (by omega) _ _ r1 _ _ w e1 (Yj i.size (Yj off g).2).1 (Yj i.size (Yj off hy).2).1 (Yy i.size (Yx off d)) (Yy i.size (Yx off b))
     rw[List.drop_drop,List.drop_drop]at e2;have g2:=ih2 fs (off+i.size) zs hf2 D (by omega) xs ys r2 vx vy w e2 g hy d b
     have a1:((zs.drop off).take i.size).length=i.size:=by simp;omega
     have p1:=Z5c hi a1 l (vs:=vx) (off:=off) (by omega) w
     have p2:=Z5c hi a1 l (vs:=vy) (off:=off) (by omega) w
     simp only[Op.eqFields,if_pos a0,p,jz,p1,p2,Result.andThen,g1];cases r1
     ·simp
     ·simpa using g2
    ·cases h
def ZaY (P:Program):Nat->TypeId->Bool
 | 0,_=>false
 | d+1,t=>match P.underlying t with
  | some .bool|some (.int _)|some .string=>true
  | some (.struct fs)=>fs.toList.all fun f=>ZaY P d f.type
  | _=>false
theorem Zdh (b:Bool):∀(n:Nat) (t:TypeId),ZaY P n t=true->∀(fuel:Nat) (zs:List DV),Z20 P fuel t zs=true->∀(d:Nat) (xs:List DV) (vx:List Value) (w:World),Zd zs xs=true->Ze β G xs vx →
  (Instr.checkKey b (d+n) t (Z10 P t vx)).run P w=.ok () w
 | 0,_,h=>by simp[ZaY]at h
 | n+1,t,h=>fun fuel zs j d xs vx w o hr=>by
  cases fuel with
  | zero=>simp[Z20]at j
  | succ fuel =>
  unfold ZaY at h;simp only[Z20]at j;rw[show d+(n+1)=(d+n)+1 from rfl];have one:∀{zs:List DV},zs.length=1->Zd zs xs=true->∃x v,xs=[x]/\vx=[v]/\Rep β G x v:=fun {zs} hz o=>by
   have u:=ZW o;rw[hz]at u;obtain⟨x,rfl⟩:=List.length_eq_one_iff.1 u;obtain⟨v,vs',rfl,h1,s⟩:=Za.1 hr;rw[Zg]at s;subst s;exact⟨x,v,rfl,rfl,h1⟩
  cases hu:P.underlying t with
  | none=>rw[hu]at h;cases h
  | some dd =>
   rw[hu]at h j;cases dd with
   | bool=>exact Z1z hu trivial _
   | int k=>exact Z1z hu trivial _
   | string=>exact Z1z hu trivial _
   | struct fs =>
    simp only[jn,Bool.not_eq_true',List.all_eq_true]at j h;have hv:Z10 P t vx=.agg vx.toArray:=by unfold Z10;rw[hu]
    rw[hv,Instr.checkKey];simp only[jz,run_underlying hu,Result.andThen_ok];rw[<-Array.forIn_toList];have main:∀(L:List Field) (fuel off:Nat),(∀f∈L,ZaY P n f.type=true)->Z2c P fuel L off zs=true →
      (forIn L PUnit.unit (fun f (_ : PUnit) => (if f.name ≠ "_" then do
       Instr.checkKey b (d+n) f.type (<-part f.type vx.toArray f.offset)
       pure (ForInStep.yield PUnit.unit)else pure (ForInStep.yield PUnit.unit):Sem (ForInStep PUnit)))).run P w=.ok PUnit.unit w:=by
     intro L
     induction L with
     | nil=>intro fuel off _ _;rfl
     | cons f L ih =>
      intro fuel off hL a;cases fuel with
      | zero=>simp[Z2c]at a
      | succ fuel =>
       simp only[Z2c,jn,bne_iff_ne,ne_eq]at a;obtain⟨⟨e,c⟩,a⟩:=a;have c:f.offset=off:=je c;split at a
       ·rename_i i hi;rw[jn,jn]at a;obtain⟨⟨m,l⟩,r⟩:=a;have m:=jf m;have y:=ZJ hr;have hkx:=ZW o;have p:((zs.drop off).take i.size).length=i.size:=by simp;omega
        have p1:=Z5c hi p l (vs:=vx) (off:=off) (by omega) w
        have p2:=Zdh b n f.type (hL f (by simp)) fuel _ l d _ _ w (Yj i.size (Yj off o).2).1 (Yy i.size (Yx off hr))
        simp only[List.forIn_cons,jz,e,ne_eq,not_false_eq_true,if_true,Result.andThen_ok,c,p1,p2,Sem.run_pure];exact ih fuel (off+i.size) (fun g z=>hL g (by simp[z])) r
       ·cases a
    have q:=main fs.toList fuel 0 h j.2;simp only[ne_eq,ite_not]at q⊢;simp at q⊢;rw[q];rfl
   | _=>cases h
end
end Go.Ab
namespace Go.Ab
open Go.RowKit
def Zj1:DV->Value->Bool
 | .bool a,.bool b=>a==b
 | .int k a,.int k' b=>k==k'&&a==b
 | .str a,.string b=>a==b
 | .nilp,.pointer none=>true
 | .nils,.slice none 0 0=>true
 | .nilmap,.map none=>true
 | .nilfn,.nilFunc=>true
 | .nilif,.nilIface=>true
 | _,_=>false
def ZfZ:List DV->List Value->Bool
 | [],[]=>true
 | d::ds,v::vs=>Zj1 d v&&ZfZ ds vs
 | _,_=>false
theorem ZdC {d:DV} {v:Value} (h:Zj1 d v=true):(∀β G,Rep β G d v)/\Zf d=true/\Zw d=true:=by
 unfold Zj1 at h;split at h
 ·have:=eq_of_beq h;subst this;exact⟨fun _ _=>ZH.2 rfl,rfl,rfl⟩
 ·rw[jn]at h;have c:=eq_of_beq h.1;have e:=eq_of_beq h.2;subst c e;exact⟨fun _ _=>Zu.2 rfl,rfl,rfl⟩
 ·rename_i a b;rw[Z94]at h;have:=of_decide_eq_true h;subst this;exact⟨fun _ _=>Yg.2 rfl,rfl,rfl⟩
 ·exact⟨fun _ _=>Z7b.2 rfl,rfl,rfl⟩
 ·exact⟨fun _ _=>Z1o.2 rfl,rfl,rfl⟩
 ·exact⟨fun _ _=>Z6t.2 rfl,rfl,rfl⟩
 ·exact⟨fun _ _=>by unfold Rep;rfl,rfl,rfl⟩
 ·exact⟨fun _ _=>by unfold Rep;rfl,rfl,rfl⟩
 ·cases h
theorem Zba:∀{ds:List DV} {vs:List Value},ZfZ ds vs=true->(∀β G,Ze β G ds vs)/\Zc ds=true/\ds.all Zw=true
 | [],[],_=>⟨fun _ _=>Zg.2 rfl,rfl,rfl⟩
 | d::ds,v::vs,h=>by
  simp only[ZfZ,jn]at h;obtain⟨e,b,g⟩:=ZdC h.1;obtain⟨c,f,a⟩:=Zba h.2;exact⟨fun β G=>Za.2 ⟨v,vs,rfl,e β G,c β G⟩,by simp[Zc,b,f],by simp only[jt,g,a,ju]⟩
 | [],_::_,h=>by cases h
 | _::_,[],h=>by cases h
def Zc8:List (Nat×Nat)->List (Nat×Nat)->Bool
 | [],[]=>true
 | (a,b)::l,(c,d)::m=>Nat.beq a c&&Nat.beq b d&&Zc8 l m
 | _,_=>false
theorem Zb2:∀{l m:List (Nat×Nat)},Zc8 l m=true->l=m
 | [],[],_=>rfl
 | (a,b)::l,(c,d)::m,h=>by
  simp only[Zc8,jn]at h;have e:=je h.1.1;have g:=je h.1.2;have f:=Zb2 h.2;subst e g f;rfl
 | [],_::_,h=>by cases h
 | _::_,[],h=>by cases h
def Zje (P:Program) (t:TypeId) (k:TK):Bool :=
 match k,P.underlying t with
 | .bool,some .bool=>true
 | .int k,some (.int k')=>k==k'
 | .string,some .string=>true
 | .struct fs,some (.struct fields)=>Zc8 (fields.toList.map fun f=>(f.type,f.offset)) fs&&(fields.toList.mapM (fun f=>(P.info? f.type).map fun i=>(f.offset,i.size))).isSome
 | .array n e,some (.array n' e')=>Nat.beq n n'&&Nat.beq e e'
 | .slice e,some (.slice e')=>Nat.beq e e'
 | .map k e,some (.map k' e')=>Nat.beq k k'&&Nat.beq e e'
 | .ptr e,some (.pointer e')=>Nat.beq e e'
 | .func,some (.func _ _ _)=>true
 | .iface,some (.interface _)=>true
 | _,_=>false
def ZfL (P:Program) (t:TypeId) (m:String) (g:Nat):Bool:=match P.info? t with
 | some i=>(match i.methods.find? (·.name==m)with
  | some mt=>mt.path.isEmpty&&(match mt.func,P.underlying t with
   | some (f,pr),some (.pointer _)=>Nat.beq f g&&pr
   | some (f,pr),some _=>Nat.beq f g && !pr
   | _,_=>false)
  | none=>false)
 | none=>false
def ZbX (P:Program) (t:TypeId):List (String×Nat)->Bool
 | []=>true
 | (m,g)::l=>ZfL P t m g&&ZbX P t l
theorem ZhG {P:Program} {t:TypeId} {m:String} {g:Nat} (h:ZfL P t m g=true) (v:Value) (args:Array Value) (w:World):(callMethod (.iface t v) m args).run P w=(callFunc g (#[v]++args)).run P w:=by
 unfold ZfL at h;split at h
 ·rename_i i hi;split at h
  ·rename_i mt o;simp only[jn]at h;obtain⟨n,h⟩:=h;have b:mt.path.toList=[]:=by
    have:mt.path = #[]:=by simpa using n
    rw[this]
   have a:∀fuel,(method (fuel+1) t v m).run P w=.ok (g,v) w:=fun fuel=>by
    unfold method;rw[jz];have j:(typeInfo t).run P w=.ok i w:=by simp[typeInfo,hi]
    rw[j];simp only[Result.andThen_ok,o];rw[b];simp only[follow,pure_bind];split at h
    ·rename_i f pr e c k;simp only[jn]at h;have l:=je h.1;rw[c];simp only;rw[jz];unfold receiverAt;rw[jz,ji k w];simp only[Result.andThen_ok,h.2,Place.get,Sem.run_pure,l]
    ·rename_i f pr dd d c k;simp only[jn,Bool.not_eq_true']at h;have l:=je h.1;rw[c];simp only;rw[jz];unfold receiverAt;rw[jz,ji k w];cases dd<;>first|(simp only[Result.andThen_ok,h.2,Place.get,Sem.run_pure,l];done)|exact absurd rfl (d _)
    ·cases h
   unfold callMethod;simp only;rw[jz,show(program).run P w=.ok P w from rfl];simp only[Result.andThen_ok];rw[jz,show P.types.size+Made.depth=(P.types.size+99)+1 from rfl,a];rfl
  ·cases h
 ·cases h
theorem ZaW {P:Program} {t:TypeId}:∀{l:List (String×Nat)},ZbX P t l=true->∀{m:String} {g:Nat},Z7K m l=some g->ZfL P t m g=true
 | [],_,_,_,h=>by cases h
 | (n,f)::l,hl,m,g,h=>by
  simp only[ZbX,jn]at hl;unfold Z7K at h;cases hq:(n==m)with
  | true =>
   rw[hq]at h;simp only[jB,jh]at h;have:=eq_of_beq hq;subst this h;exact hl.1
  | false=>rw[hq]at h;exact ZaW hl.2 h
def Zig (P:Program) (t:TypeId) (ti:TI):Bool :=
 (match P.info? t with
  | some i=>Nat.beq i.size ti.size&&Nat.beq i.bytes ti.bytes&&(match i.zero with
   | some z=>Nat.beq z.cells.size ti.size&&ZfZ ti.zero z.cells.toList&&(bif ti.isAgg then(match z with | .agg _=>true|_=>false)else(match ti.zero with|[d]=>Zj1 d z|_=>false))
   | none=>false)
  | none=>false) &&
 (!ti.eqOk||(Z20 P 64 t ti.zero&&(match P.underlying t with|some (.struct _)=>true|some (.array _ _)=>true|_=>false) && !P.eqGuardType P.depth t)) &&
 Zje P t ti.k&&(!ti.keyOk||(ZaY P 64 t&&Z20 P 64 t ti.zero&&(match P.underlying t with|some (.struct _)=>true|_=>false)))&&ZbX P t ti.meths
theorem Z7n {P:Program} {t:TypeId} {ti:TI} (h:Zig P t ti=true):ZL P t ti:=by
 unfold Zig at h;simp only[jn]at h;obtain⟨⟨⟨⟨p,q⟩,a⟩,l⟩,c⟩:=h;cases hi:P.info? t with
 | none=>rw[hi]at p;cases p
 | some i =>
  rw[hi]at p;simp only[jn]at p;obtain⟨⟨a1,a2⟩,a3⟩:=p;cases hz:i.zero with
  | none=>rw[hz]at a3;cases a3
  | some z =>
   rw[hz]at a3;simp only[jn]at a3;obtain⟨⟨b1,b2⟩,b3⟩:=a3;obtain⟨c1,c2,c3⟩:=Zba b2;refine⟨⟨i,z,hi,je a1,je a2,hz,je b1,c1⟩,c3,fun u=>?_,c2,fun f d hd i' z' j o β G=>?_,fun f=>?_,fun x i' z' j o=>?_,fun m g s v args w=>ZhG (ZaW c s) v args w,fun hko xs hkx b β G vx w hrx=>?_,?_⟩
   ·rw[u]at q;simp only[Bool.not_true,Bool.false_or,jn,Bool.not_eq_true']at q;obtain⟨⟨d1,d2⟩,d3⟩:=q;refine⟨fun xs ys r hr hx hy β G vx vy w hrx hry=>?_,d3⟩;have hv:∀vs,Z10 P t vs=.agg vs.toArray:=fun vs=>by
     unfold Z10;cases hu:P.underlying t with
     | none=>rw[hu]at d2;cases d2
     | some dd=>rw[hu]at d2;cases dd<;>first|rfl|cases d2
    have:=(Zfw (P:=P) (β:=β) (G:=G) 64).1 t ti.zero d1 10000 (by omega) xs ys r vx vy w hr hx hy hrx hry
    rw[hv,hv]at this;exact this
   ·rw[j]at hi;cases hi;rw[o]at hz;cases hz;rw[f,hd]at b3;exact(ZdC (by simpa using b3)).1 β G
   ·rw[f]at b3;simp only[jA]at b3;split at b3
    ·rename_i e;rw[e];rfl
    ·cases b3
   ·rw[j]at hi;cases hi;rw[o]at hz;cases hz;rw[x]at b3;simp only[jB]at b3;split at b3
    ·exact⟨_,rfl⟩
    ·cases b3
   ·rw[hko]at l;simp only[Bool.not_true,Bool.false_or,jn]at l;obtain⟨⟨e1,e2⟩,e3⟩:=l;have hv:Z10 P t vx=.agg vx.toArray:=by
     unfold Z10;split at e3
     ·rename_i e;rw[e]
     ·cases e3
    have:=Zdh (P:=P) (β:=β) (G:=G) b 64 t e1 64 ti.zero e2 9936 xs vx w hkx hrx;rw[hv]at this;exact this
   ·unfold Zje at a;cases hu:P.underlying t with
    | none=>rw[hu]at a;cases hk:ti.k<;>rw[hk]at a<;>cases a
    | some dd =>
     rw[hu]at a;cases hk:ti.k with
     | bool=>rw[hk]at a;cases dd<;>first|rfl|cases a
     | int k=>rw[hk]at a;cases dd<;>first|(cases eq_of_beq a;rfl)|cases a
     | string=>rw[hk]at a;cases dd<;>first|rfl|cases a
     | struct fs =>
      rw[hk]at a;cases dd with
      | struct fields =>
       simp only[jn]at a;exact⟨fields,rfl,Zb2 a.1,Option.isSome_iff_exists.1 a.2⟩
      | _=>cases a
     | array n e =>
      rw[hk]at a;cases dd with
      | array n' e' =>
       simp only[jn]at a;have l:=je a.1;have c:=je a.2;subst l c;rfl
      | _=>cases a
     | slice e =>
      rw[hk]at a;cases dd with
      | slice e' =>
       have c:=je a;subst c;rfl
      | _=>cases a
     | map k e =>
      rw[hk]at a;cases dd with
      | map n' e' =>
       simp only[jn]at a;have l:=je a.1;have c:=je a.2;subst l c;rfl
      | _=>cases a
     | ptr e =>
      rw[hk]at a;cases dd with
      | pointer e' =>
       have c:=je a;subst c;rfl
      | _=>cases a
     | func=>rw[hk]at a;cases dd<;>first|exact⟨_,_,_,rfl⟩|cases a
     | iface=>rw[hk]at a;cases dd<;>first|exact⟨_,rfl⟩|cases a
     | other=>rw[hk]at a;cases a
def Zeh {α:Type} (p:Nat->α->Bool) (t:Tr α):Bool:=(t.tm (fun k x=>bif p k x then some (none:Option α)else none) 1 0).isSome
theorem Z6z {α:Type} {p:Nat->α->Bool} {t:Tr α} (h:Zeh p t=true) {k:Nat} {x:α} (b:t.get k=some x):p k x=true:=by
 unfold Zeh at h;obtain⟨t',ht⟩:=Option.isSome_iff_exists.1 h;rcases Tr.tm_get1 ht k with⟨a,_⟩|⟨x',y,a,c,_⟩
 ·rw[b]at a;cases a
 ·rw[b]at a;cases a;exact(Z3 c).1
theorem YE {P : Program} {f : FuncId} {fn : Func} {c : Code} (b : P.funcs[f]? = some fn) (e : fn.body = some c) (d : (fn.name == "runtime.NumGoroutine") = false) : YC P f := fun args w => by
 have a : ¬ fn.name = "runtime.NumGoroutine" := by simpa using d
 unfold callFunc;simp[b,e,a]
def Zbs {α:Type} (p:Nat->α->Prop):Tr α->Nat->Nat->Prop
 | .leaf,_,_=>True
 | .node l v r,a,b=>Zbs p l (2*a) (a+b)/\(match v with|some x=>p b x|none=>True)/\Zbs p r (2*a) (2*a+b)
theorem Z91 {α:Type} {p:Nat->α->Prop}:∀{t:Tr α} {a b:Nat},Zbs p t a b->∀{k:Nat} {x:α},t.get k=some x->p (a*k+b) x
 | .leaf,_,_,_,k,x,h=>by cases h
 | .node l v r,a,b,h,k,x,hk=>by
  rw[Tr.get_node]at hk;obtain⟨d,c,e⟩:=h
  by_cases e0:k=0
  ·rw[if_pos e0]at hk;subst e0 hk;simpa using c
  ·rw[if_neg e0]at hk
   by_cases e1:k % 2=1
   ·rw[if_pos e1]at hk;have:=Z91 d hk
    rwa [show 2*a*(k / 2)+(a+b)=a*k+b by
     have:k=2*(k / 2)+1:=by omega
     generalize k / 2=m at this;subst this;rw[Nat.mul_add,<-Nat.mul_assoc,Nat.mul_comm a 2];omega]at this
   ·rw[if_neg e1]at hk;have:=Z91 e hk
    rwa [show 2*a*(k / 2-1)+(2*a+b)=a*k+b by
     have:k=2*(k / 2-1)+2:=by omega
     generalize k / 2-1=m at this;subst this;rw[Nat.mul_add,<-Nat.mul_assoc,Nat.mul_comm a 2];omega]at this
theorem Z3O {α:Type} {p:Nat->α->Prop} {t:Tr α} (h:Zbs p t 1 0) {k:Nat} {x:α} (a:t.get k=some x):p k x:=by
 have:=Z91 h a;simpa using this
end Go.Ab
namespace Go.Ab
open Go.RowKit
abbrev Agr (w:World) (G:Gh):Prop:=∀b o v,G b o=some v->w.cell? ⟨b,o,none⟩=some v
def Z4a (P:Program) (inv:World->Prop) (g:Nat) (L:List DV->Option DV):Prop:=∀as d,L as=some d->YC P g/\∀(w:World) (β:Bi) (G:Gh) (vs:Array Value),inv w->Agr w G->Ze β G as vs.toList->Zc as=true →
  Calls P g vs w fun e w'=>∃v G',e=.returned v/\Below w.heap.size w w'/\(∀b,b<w.heap.size->G' b=G b)/\Agr w' G'/\Rep β G' d v
theorem Zfs {w:World} {b o:Nat} {v:Value} (h:w.cell? ⟨b,o,none⟩=some v):b<w.heap.size:=by
 unfold World.cell? at h;rcases Nat.lt_or_ge b w.heap.size with a|a
 ·exact a
 ·simp[Array.getElem?_eq_none a]at h
theorem Agr.below {w w':World} {G:Gh} (c:Agr w G) (d:Below w.heap.size w w'):Agr w' G:=fun b o v h=>by
 have a:=c b o v h;rw[d.cell (p:=⟨b,o,none⟩) (Zfs a)];exact a
theorem Zel (w:World) (k:Nat) (os:Array Obj):Below w.heap.size w (Go.Sort.grow (w.drewN k) os) :=
 ⟨rfl,rfl,rfl,by simp[Go.Sort.grow,World.drewN],fun j a=>by
  show(w.heap++os)[j]?=_;rw[Array.getElem?_append_left a]⟩
theorem ZcI (w:World) (e:TypeId) (s:ByteArray):Below w.heap.size w (Lib.bytesWorld w e s) :=
 ⟨rfl,rfl,rfl,by rw[Lib.bytesWorld_size];omega,fun j a=>Lib.bytesWorld_at_old w e s j a⟩
theorem ZdG {β:Bi} {G:Gh} {a b:DV} {vs:List Value} (h:Ze β G [a,b] vs):∃u v,vs=[u,v]/\Rep β G a u/\Rep β G b v:=by
 obtain⟨u,us,rfl,e,d⟩:=Za.1 h;obtain⟨v,vs',rfl,f,c⟩:=Za.1 d;rw[Zg]at c;subst c;exact⟨u,v,rfl,e,f⟩
theorem ZdD {β:Bi} {G:Gh} {a:DV} {vs:List Value} (h:Ze β G [a] vs):∃u,vs=[u]/\Rep β G a u:=by
 obtain⟨u,us,rfl,c,b⟩:=Za.1 h;rw[Zg]at b;subst b;exact⟨u,rfl,c⟩
theorem Z7G {w w':World} {β:Bi} {G:Gh} {d:DV} {v:Value} (c:Agr w G) (a:Below w.heap.size w w') (hr:Rep β G d v) :
  ∃v' G',Ending.returned v=.returned v'/\Below w.heap.size w w'/\(∀b,b<w.heap.size->G' b=G b)/\Agr w' G'/\Rep β G' d v' :=
 ⟨v,G,rfl,a,fun _ _=>rfl,c.below a,hr⟩
def Zer:Nat->Nat->List UInt8->List UInt8
 | 0,_,acc=>acc
 | f+1,u,acc=>bif Nat.blt u 10 then UInt8.ofNat (48+u)::acc else Zer f (u / 10) (UInt8.ofNat (48+u % 10)::acc)
theorem ZbC:∀(f u:Nat) (acc:List UInt8),u<10 ^ f->0<f->Zer f u acc=Lib.decDigits u++acc
 | 0,_,_,_,h=>absurd h (Nat.lt_irrefl 0)
 | f+1,u,acc,hu,_=>by
  unfold Zer;rw[Lib.decDigits]
  by_cases h:u<10
  ·rw[show Nat.blt u 10=true from Nat.ble_eq_true_of_le h];simp[h]
  ·have c:Nat.blt u 10=false:=by
    cases hq:Nat.blt u 10 with
    | false=>rfl
    | true=>exact absurd (jf hq) (by omega)
   have b:0<f:=by
    rcases Nat.eq_zero_or_pos f with a|a
    ·subst a;simp at hu;omega
    ·exact a
   rw[c,jA,ZbC f (u / 10) _ (by rw[Nat.pow_succ]at hu;omega) b]
   simp[h]
def Zjg:Int->List UInt8
 | .ofNat m=>Zer 19 m []
 | .negSucc m=>45::Zer 19 (m+1) []
theorem Zhx (n:Int) (b : -9223372036854775808<=n) (a:n<=9223372036854775807):Zjg n=Lib.itoa n:=by
 cases n with
 | ofNat m =>
  have:m<10 ^ 19:=by simp at a;omega
  show Zer 19 m []=_;rw[ZbC 19 m [] this (by omega)]
  unfold Lib.itoa;rw[if_neg (by simp)]
  simp
 | negSucc m =>
  have:m+1<10 ^ 19:=by omega
  show(45::Zer 19 (m+1) [])=_;rw[ZbC 19 (m+1) [] this (by omega)]
  unfold Lib.itoa;rw[if_pos (Int.negSucc_lt_zero m)];simp
def ZjS (n:Int):Bool:=match n with
 | .ofNat m=>Nat.ble m 9223372036854775807
 | .negSucc m=>Nat.ble m 9223372036854775807
theorem ZiH {n:Int} (h:ZjS n=true) : -9223372036854775808<=n/\n<=9223372036854775807:=by
 cases n with
 | ofNat m=>have:=jf h;constructor<;>(simp<;>try omega)
 | negSucc m=>have:=jf h;omega
def ZbR:List DV->Option DV
 | [.int .i64 n]=>bif ZjS n then some (.str ⟨(Zjg n).toArray⟩)else none
 | _=>none
theorem Zgx {P:Program} {inv:World->Prop} {g:Nat} (i:YC P g)
  (hc:∀n:Int,-9223372036854775808<=n->n<=9223372036854775807->∀w,inv w->Calls P g #[.int .i64 n] w fun e w'=>e=.returned (.string ⟨(Lib.itoa n).toArray⟩)/\Below w.heap.size w w'):Z4a P inv g ZbR:=fun as d a=>by
 refine⟨i,fun w β G vs hi ha hr hid=>?_⟩;unfold ZbR at a;split at a
 ·rename_i n;obtain⟨b,a⟩:=Z3 a;cases a;obtain⟨b1,b2⟩:=ZiH b;obtain⟨u,f,c⟩:=ZdD hr;obtain rfl:=Zu.1 c;rw[YP f];refine Calls.mono (hc n b1 b2 w hi) fun e w' h=>?_;obtain⟨rfl,b⟩:=h;exact Z7G ha b (Yg.2 (by rw[Zhx n b1 b2]))
 ·cases a
def ZbQ:List DV->Option DV
 | [.str s]=>bif Nat.ble s.size 9223372036854775806 then(match Lib.atoiAll s.data.toList with | .ok v=>some (.tup [.int .i64 v,.nilif])|_=>none)else none
 | _=>none
theorem Zgw {P:Program} {inv:World->Prop} {g:Nat} (i:YC P g)
  (hc:∀(s:ByteArray),s.size<=9223372036854775806->∀v,Lib.atoiAll s.data.toList=.ok v->∀w,inv w->Calls P g #[.string s] w fun e w'=>e=.returned (.tuple #[.int .i64 v,.nilIface])/\Below w.heap.size w w'):Z4a P inv g ZbQ:=fun as d a=>by
 refine⟨i,fun w β G vs hi ha hr hid=>?_⟩;unfold ZbQ at a;split at a
 ·rename_i s;obtain⟨b,a⟩:=Z3 a;split at a
  ·rename_i v hv;cases a;obtain⟨u,f,c⟩:=ZdD hr;obtain rfl:=Yg.1 c;rw[YP f];refine Calls.mono (hc s (jf b) v hv w hi) fun e w' h=>?_;obtain⟨rfl,b⟩:=h;refine Z7G ha b ?_;unfold Rep;exact⟨[.int .i64 v,.nilIface],rfl,Za.2 ⟨_,_,rfl,Zu.2 rfl,Za.2 ⟨_,_,rfl,Z5H.2 rfl,Zg.2 rfl⟩⟩⟩
  ·cases a
 ·cases a
def Zae:List (List UInt8)->List (List DV)
 | []=>[]
 | x::l=>[.str ⟨x.toArray⟩]::Zae l
def Z8R:List DV->Option DV
 | [.str s,.str p]=>bif Nat.blt s.size 4294967281&&Nat.ble 1 p.size then(let l:=Lib.splitK p.data.toList 0 (Lib.count s.data.toList p.data.toList) s.data.toList
   bif Nat.beq l.length (Lib.count s.data.toList p.data.toList+1)then some (.sl (Zae l))else none)else none
 | _=>none
theorem Zbk:∀l:List (List UInt8),(Zae l).length=l.length
 | []=>rfl
 | _::l=>by simp[Zae,Zbk l]
theorem Zbl {β:Bi} {G:Gh}:∀l:List (List UInt8),Ze β G (Zae l).flatten (l.map fun x=>Value.string ⟨x.toArray⟩)
 | []=>Zg.2 rfl
 | x::l=>by
  show Ze β G (DV.str ⟨x.toArray⟩::(Zae l).flatten) _;exact Za.2 ⟨_,_,rfl,Yg.2 rfl,Zbl l⟩
theorem Z8D:∀(l:List (List UInt8)),∀c∈Zae l,c.length=1/\Zc c=true/\c.all Zw=true
 | [],c,h=>by cases h
 | x::l,c,h=>by
  rcases jv.1 h with rfl|h
  ·exact⟨rfl,rfl,rfl⟩
  ·exact Z8D l c h
theorem ZeC {P:Program} {inv:World->Prop} {g:Nat} {t:TypeId} (he:YC P g)
  (hc:∀(s p:ByteArray),s.size<4294967281->1<=p.size->∀w,inv w->Calls P g #[.string s,.string p] w fun e w'=>e=.returned (.slice (some ⟨w.heap.size,0,none⟩) (Lib.countB s p+1) (Lib.countB s p+1))/\w'=w.alloc (.cells ((Lib.splitB p 0 (Lib.countB s p) s).map Value.string).toArray t)):Z4a P inv g Z8R:=fun as d a=>by
 refine⟨he,fun w β G vs hi ha hr hid=>?_⟩;unfold Z8R at a;split at a
 ·rename_i s p;obtain⟨q,a⟩:=Z3 a;simp only[jn]at q;obtain⟨m,a⟩:=Z3 a;cases a;have m:=je m;obtain⟨u,v,hu,r,n⟩:=ZdG hr;obtain rfl:=Yg.1 r;obtain rfl:=Yg.1 n;rw[YP hu];refine Calls.mono (hc s p (jf q.1) (jf q.2) w hi) fun e w' h=>?_;obtain⟨rfl,rfl⟩:=h;have f:(Lib.splitB p 0 (Lib.countB s p) s).map Value.string=(Lib.splitK p.data.toList 0 (Lib.countB s p) s.data.toList).map fun x=>Value.string ⟨x.toArray⟩:=by
   rw[<-Lib.splitB_data,List.map_map];rfl
  rw[f];generalize hK:Lib.splitK p.data.toList 0 (Lib.countB s p) s.data.toList=K at *;have i:K.length=Lib.countB s p+1:=m;have c:∀j v,(K.map fun x=>Value.string ⟨x.toArray⟩)[j]? = some v->(w.alloc (.cells (K.map fun x=>Value.string ⟨x.toArray⟩).toArray t)).cell? ⟨w.heap.size,j,none⟩=some v:=fun j v z=>by
   unfold World.cell? World.alloc;simp only[Array.getElem?_push_size];simpa using z
  refine⟨_,fun b o=>if b=w.heap.size then(K.map fun x=>Value.string ⟨x.toArray⟩)[o]? else G b o,rfl,Below.alloc (Below.refl _ _) (Nat.le_refl _) _,fun b l=>?_,fun b o v k=>?_,?_⟩
  ·funext o;exact if_neg (Nat.ne_of_lt l)
  ·by_cases hbs:b=w.heap.size
   ·have y:(K.map fun x=>Value.string ⟨x.toArray⟩)[o]? = some v:=(if_pos hbs).symm.trans k;rw[hbs];exact c o v y
   ·have k:G b o=some v:=(if_neg hbs).symm.trans k;exact(ha.below (Below.alloc (Below.refl _ _) (Nat.le_refl _) _)) b o v k
  ·unfold Rep;refine⟨_,_,⟨?_,Nat.le_refl _⟩,.inr ⟨w.heap.size,0,1,rfl,?_⟩⟩
   ·show Value.slice _ _ _=Value.slice _ _ _;rw[Zbk];rw[i]
   ·refine Z4q (G:=_) (Zbl _) (Z8D _) fun j v z=>?_;refine(if_pos rfl).trans ?_;rw[Nat.zero_add];exact z
 ·cases a
def Zjm (P:Program) (g:Nat) (t:TypeId):Prop:=YC P g/\∀(w:World) (b:Nat) (p v:Value),w.heap[b]? = some (.cells #[p,v] t (0,0))->(p=.pointer none\/p=.pointer (some ⟨b,0,none⟩)) →
  Calls P g #[.pointer (some ⟨b,0,none⟩)] w fun e w'=>e=.returned (.tuple #[])/\Below 0 w w'/\w'.heap.size=w.heap.size/\(∀k,k≠b->w'.heap[k]? = w.heap[k]?)/\w'.heap[b]? = some (.cells #[.pointer (some ⟨b,0,none⟩),v] t (0,0))
theorem Ziq {P:Program} {g:Nat} {t:TypeId} (m:YC P g)
  (j:∀(b:Nat) (w:World),w.cell? ⟨b,0,none⟩=some (.pointer (some ⟨b,0,none⟩))->Calls P g #[.pointer (some ⟨b,0,none⟩)] w fun e w'=>e=.returned (.tuple #[])/\w'=w)
  (f:∀(b:Nat) (w:World),w.cell? ⟨b,0,none⟩=some (.pointer none)->w.shape? b=some (t,2)->w.frozen? ⟨b,0,none⟩=false->Calls P g #[.pointer (some ⟨b,0,none⟩)] w fun e w'=>e=.returned (.tuple #[])/\w'=w.setCell ⟨b,0,none⟩ (.pointer (some ⟨b,0,none⟩))):Zjm P g t :=
 ⟨m,fun w b p v a d=>by
  rcases d with rfl|rfl
  ·refine Calls.mono (f b w (by simp[World.cell?,a]) (by simp[World.shape?,a]) (by simp[World.frozen?,a])) fun e w' h=>?_
   obtain⟨rfl,rfl⟩:=h;have c:=Below.setCell (B:=0) (Below.refl 0 w) (p:=⟨b,0,none⟩) (Nat.zero_le _) (.pointer (some ⟨b,0,none⟩));have i:b<w.heap.size:=(ja.1 a).1;refine⟨rfl,c,by simp[World.setCell],fun k l=>Below.heap_setCell w ⟨b,0,none⟩ _ k l,?_⟩
   unfold World.setCell;simp[Array.getElem?_modify,a]
  ·refine Calls.mono (j b w (by simp[World.cell?,a])) fun e w' h=>?_
   obtain⟨rfl,rfl⟩:=h;exact⟨rfl,Below.refl _ _,rfl,fun _ _=>rfl,a⟩⟩
theorem Ze3 {P:Program} {w w':World} {name:String} {k:IntKind} {zs:List Int} (h:Lib.TabIs P w name k zs) (c:Below w.heap.size w w'):Lib.TabIs P w' name k zs:=by
 unfold Lib.TabIs World.var? at *;cases hg:P.globalNamed name with
 | none=>rw[hg]at h;cases h
 | some g =>
  rw[hg]at h;simp only[jm]at h⊢;have a:g<w.heap.size:=by
   rcases Nat.lt_or_ge g w.heap.size with b|b
   ·exact b
   ·rw[Array.getElem?_eq_none b]at h;cases h
  rw[c.block g a];exact h
theorem ZbV {w w':World} {g:Nat} (h:∃m,w.cell? ⟨g,0,none⟩=some (.int .i64 m)) (b:Below w.heap.size w w'):∃m,w'.cell? ⟨g,0,none⟩=some (.int .i64 m):=by
 obtain⟨m,a⟩:=h;exact⟨m,by rw[b.cell (p:=⟨g,0,none⟩) (Zfs a)];exact a⟩
end Go.Ab
