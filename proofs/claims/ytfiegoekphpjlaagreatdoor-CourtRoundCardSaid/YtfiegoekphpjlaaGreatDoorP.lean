/- The plain functions of the program and of the document answer alike. -/
import Derived.Test.YtfiegoekphpjlaaGreatDoorD
import Derived.Lib.AtoiAll
import Derived.Lib.ItoaNum
import Derived.Lib.Split
import Derived.Lib.Bytealg
set_option linter.unusedSectionVars false
set_option linter.unusedVariables false
set_option linter.unusedSimpArgs false
open Go Go.Ab
namespace Nore
theorem w64 {x:Int} (a : -9223372036854775808<=x) (b:x<=9223372036854775807):IntKind.wrap .i64 x=x:=by
 simp only[IntKind.wrap,IntKind.signed,IntKind.bits];simp;omega
theorem jS {α β:Type} (a:α) (f:α->Option β):Option.bind (some a) f=f a:=rfl
theorem kS (n:Nat):Int.toNat (n:Int)=n:=rfl
theorem wS (i:Nat) (h:i<9223372036854775807):IntKind.wrap .i64 ((i:Int)+1)=((i+1:Nat):Int):=by rw[w64]<;>omega
theorem z0S (i:Nat):decide ((0:Int)<=↑i)=true:=by simp
theorem X1h {σ ω γ:Type} (st:σ->Option (σ⊕ω)) (k:ω->Option γ) (s:σ):Option.bind (Z99 st s) k=Option.bind (st s) (Sum.elim (fun s'=>Option.bind (Z99 st s') k) k):=by
 rw[Zlj];cases st s with
 | none=>rfl
 | some r=>cases r<;>rfl
theorem Xw {β σ ω γ:Type} (st:σ->Option (σ⊕ω)) (k:ω->Option γ) (n:Nat) (emb:Nat->β->σ) (P:Nat->β->Prop) (nice:Nat->β->Option γ)
  (d:∀b,P n b->∀R:σ->Option γ,Option.bind (st (emb n b)) (Sum.elim R k)=nice n b)
  (e:∀i b,i<n->P i b->∀R:σ->Option γ,(∀b',P (i+1) b'->R (emb (i+1) b')=nice (i+1) b')->Option.bind (st (emb i b)) (Sum.elim R k)=nice i b) :
  ∀i b,i<=n->P i b->Option.bind (Z99 st (emb i b)) k=nice i b:=by
 intro i b hi c
 induction hj:n-i generalizing i b with
 | zero =>
  have:i=n:=by omega
  subst this;rw[X1h];exact d b c _
 | succ j ih =>
  rw[X1h];exact e i b (by omega) c _ fun b' a=>ih (i+1) b' (by omega) a (by omega)
theorem X68 {a b:Int} (h:¬a=b):(a==b)=false:=beq_eq_false_iff_ne.2 h
theorem X4h {a b:Int} (h:¬a=b):(a != b)=true:=bne_iff_ne.2 h
theorem Xt {α:Type} (l:List α) (i:Nat) (d:α) (h:i<l.length):l.getD i d=l[i]:=by simp[List.getD,h]
theorem X5C {β σ ω:Type} (st:σ->Option (σ⊕ω)) (n:Nat) (emb:Nat->β->σ) (P:Nat->β->Prop) (Q:ω->Prop)
  (e:∀b,P n b->∃w,st (emb n b)=some (.inr w)/\Q w)
  (g:∀i b,i<n->P i b->(∃w,st (emb i b)=some (.inr w)/\Q w)\/∃b',st (emb i b)=some (.inl (emb (i+1) b'))/\P (i+1) b') :
  ∀i b,i<=n->P i b->∃w,Z99 st (emb i b)=some w/\Q w:=by
 intro i b hi d
 induction hj:n-i generalizing i b with
 | zero =>
  have:i=n:=by omega
  subst this;obtain⟨w,c,a⟩:=e b d;exact⟨w,by rw[Zlj,c];rfl,a⟩
 | succ j ih =>
  rcases g i b (by omega) d with⟨w,c,a⟩|⟨b',c,a⟩
  ·exact⟨w,by rw[Zlj,c];rfl,a⟩
  ·obtain⟨w,f,h⟩:=ih (i+1) b' (by omega) a (by omega)
   exact⟨w,by rw[Zlj,c];exact f,h⟩
def X1f (lo hi:Int) (l:List Int):Bool:=l.any fun n=>decide (n<lo)||decide (n>hi)
theorem X4m (lo hi:Int):X1f lo hi []=false:=rfl
theorem X3Q (lo hi n:Int) (l:List Int):X1f lo hi (n::l)=(decide (n<lo)||decide (n>hi)||X1f lo hi l):=rfl
def inN (n lo hi:Int):Bool:=decide (lo<=n)&&decide (n<=hi)
theorem X38 (n lo hi:Int):X2F n lo hi=some (inN n lo hi):=by
 unfold X2F inN
 by_cases h:lo<=n<;>simp[h]
def X3f:Int->List UInt8->Option Int
 | last,[]=>some last
 | last,c::l=>if 97<=(c.toNat:Int)/\(c.toNat:Int)<=122 then X3f c.toNat l else if(c.toNat:Int)≠45\/last=45 then none else X3f c.toNat l
def X2X:Option Int->Bool
 | none=>false
 | some last=>last != 45
def X2Y (s:ByteArray):Bool:=decide (s.size<=14)&&X2X (X3f 45 s.toList)
theorem X5Y (s:ByteArray) (i:Nat) (h:(s.get! i).toNat<128):Utf8.decode s i=((s.get! i).toNat,1):=by
 unfold Utf8.decode;simp only[Nat.add_zero];rw[if_pos h]
theorem X5X (s:ByteArray) (i:Nat) (h:¬(s.get! i).toNat<128):128<=(Utf8.decode s i).1:=by
 unfold Utf8.decode;simp only[Nat.add_zero,Utf8.runeError];rw[if_neg h]
 repeat' split
 all_goals simp_all
 all_goals omega
theorem W9 (s:ByteArray):s.toList.length=s.size:=by rw[ByteArray.toList_eq];rfl
theorem X5H (s:ByteArray) (i:Nat) (h:i<s.toList.length):s.get! i=s.toList[i]:=by
 have a:i<s.size:=by rw[<-W9];exact h
 simp only[ByteArray.toList_eq];show(s.data[i]!)=_;have b:i<s.data.size:=a;rw[getElem!_pos s.data i b];rfl
theorem X53 (s:ByteArray):X3j s=some (X2Y s):=by
 have key:=Xw (Wk s s) (fun o0=>Sum.elim (fun y1:Bool×Nat=>some y1.fst) (fun y2:Int×Nat=>bif decide ((↑(ByteArray.size s):Int)<=14)then some (y2.fst != 45)else some false) o0) s.toList.length (fun i (b:Int)=>(b,i)) (fun _ _=>True) (fun i b=>some (decide (s.size<=14)&&X2X (X3f b (s.toList.drop i))))
  (by
   intro b _ R;have hh:(decide ((↑s.size:Int)<=14))=decide (s.size<=14):=by rw[decide_eq_decide];omega
   have j:s.toList.drop s.size=[]:=jd (by rw[W9];exact Nat.le_refl _)
   simp only[j,X3f,X2X,Wk,Wt,W9,hh,Nat.lt_irrefl,decide_false,jA,jS,jy];cases decide (s.size<=14)<;>simp)
  (by
   intro i b hi _ R k;have f:i<s.size:=by rw[<-W9];exact hi
   have g:=X5H s i hi;simp only[Wk,Wt];rw[jb hi];simp only[X3f]
   by_cases h:(s.get! i).toNat<128
   ·rw[X5Y s i h];have e:=k ((s.get! i).toNat:Int) trivial;rw[g]at *;generalize s.toList[i]=c at *;simp only[f,decide_true,jB]
    by_cases h1:97<=(c.toNat:Int)
    ·have q1:decide ((c.toNat:Int)>=97)=true:=decide_eq_true h1
     by_cases h2:(c.toNat:Int)<=122
     ·have q2:decide ((c.toNat:Int)<=122)=true:=decide_eq_true h2;simp only[decide_true,decide_false,q1,q2,jB,jS,jw,h1,h2,and_self,if_true];exact e
     ·have q2:decide ((c.toNat:Int)<=122)=false:=decide_eq_false h2;have a:¬((c.toNat:Int)=45):=by omega
      have q3:((c.toNat:Int) != 45)=true:=bne_iff_ne.2 a;simp only[decide_true,decide_false,q1,q2,q3,jB,jA,jS,jw,jy,h2,and_false,if_false,ne_eq,a,not_false_iff,true_or,if_true,X2X,Bool.and_false]
    ·have q1:decide ((c.toNat:Int)>=97)=false:=decide_eq_false h1
     by_cases a:(c.toNat:Int)=45
     ·have q3:((c.toNat:Int) != 45)=false:=by rw[a];rfl
      by_cases h4:b=45
      ·have q4:(b==45)=true:=by rw[h4];rfl
       rw[q1,q3,q4,if_neg (fun hc=>h1 hc.1),if_pos (Or.inr h4)];simp[X2X]
      ·have q4:(b==45)=false:=beq_eq_false_iff_ne.2 h4;simp only[decide_true,decide_false,q1,q3,q4,jB,jA,jS,jw,jy,h1,false_and,if_false,h4,ne_eq,a,not_true,or_self,if_true];rw[a]at e;exact e
     ·have q3:((c.toNat:Int) != 45)=true:=bne_iff_ne.2 a;simp only[decide_true,decide_false,q1,q3,jB,jA,jS,jw,jy,h1,false_and,if_false,ne_eq,a,not_false_iff,true_or,if_true,X2X,Bool.and_false]
   ·have h':=X5X s i h;rw[g]at h;generalize s.toList[i]=c at *;simp only[f,decide_true,jB];generalize (Utf8.decode s i)=d at *;have e1:((d.1:Nat):Int)>=97:=by omega
    have e2:¬((d.1:Nat):Int)<=122:=by omega
    have e3:¬((d.1:Nat):Int)=45:=by omega
    have e4:¬((c.toNat:Int)<=122):=by omega
    have e5:¬((c.toNat:Int)=45):=by omega
    have q1:decide (((d.1:Nat):Int)>=97)=true:=decide_eq_true e1;have q2:decide (((d.1:Nat):Int)<=122)=false:=decide_eq_false e2;have q3:(((d.1:Nat):Int) != 45)=true:=bne_iff_ne.2 e3;simp only[decide_true,decide_false,q1,q2,q3,jB,jA,jS,jw,jy,e4,and_false,if_false,ne_eq,e5,not_false_iff,true_or,if_true,X2X,Bool.and_false])
 exact(key 0 45 (by omega) trivial).trans (by simp[X2Y])
theorem X55 (s:ByteArray):X30 s=some (X2Y s):=by
 unfold X30;rw[X38];simp only[jS]
 by_cases hsz:1<=s.size/\s.size<=14
 ·have e1:inN (↑s.size) 1 14=true:=by simp[inN];omega
  rw[e1];simp only[Bool.not_true,jA];have o:=W9 s;have key:=Xw (Wr s) (fun o0=>Sum.elim (fun y76:Bool=>some y76) (fun _:Unit=>some true) o0) s.toList.length (fun i (_:Int)=>(i:Int)) (fun i b=>b=if i=0 then 45 else((s.toList.getD (i-1) 0).toNat:Int)) (fun i b=>some (if i<s.toList.length then X2X (X3f b (s.toList.drop i))else true))
   (by
    intro b _ R;simp[Wr,WC,W9])
   (by
    intro i b hi j R n;have m:i<s.size:=by rw[<-W9];exact hi
    simp only[Wr,WC];rw[jb hi];have a:=n ((s.toList[i]).toNat:Int) (by simp[List.getD,hi])
    have l:=wS i (by omega)
    have f:IntKind.wrap .i64 ((i:Int)-1)=((i:Int)-1):=by rw[w64]<;>omega
    have e:IntKind.wrap .i64 ((s.size:Int)-1)=((s.size:Int)-1):=by rw[w64]<;>omega
    simp only[X3f,kS,Xt _ _ _ hi,l,f,e];have d1:decide ((i:Int)<↑s.size)=true:=by simp[m]
    have d2:=z0S i;simp only[d1,d2,ju,jB,hi,if_true];generalize hc:s.toList[i]=c at *
    by_cases h1:97<=(c.toNat:Int)/\(c.toNat:Int)<=122
    ·have q1:decide ((c.toNat:Int)>=97)=true:=decide_eq_true h1.1;have q2:decide ((c.toNat:Int)<=122)=true:=decide_eq_true h1.2;simp only[decide_true,decide_false,q1,q2,jB,jS,jw,h1,and_self,if_true];have d:¬((c.toNat:Int)=45):=by omega
     rw[a]
     by_cases hi2:i+1<s.toList.length
     ·simp[hi2]
     ·have:s.toList.drop (i+1)=[]:=jd (by omega)
      simp[hi2,this,X3f,X2X,d]
    ·have g:(bif decide ((c.toNat:Int)>=97)then bif decide ((c.toNat:Int)<=122)then true else false else false)=false:=by
      by_cases a1:(c.toNat:Int)>=97
      ·by_cases a2:(c.toNat:Int)<=122
       ·exact absurd ⟨a1,a2⟩ h1
       ·simp[a1,a2]
      ·simp[a1]
     have g2:∀(Z:Type) (x y:Z),(bif decide ((c.toNat:Int)>=97)then bif decide ((c.toNat:Int)<=122)then x else y else y)=y:=by
      intro Z x y
      by_cases a1:(c.toNat:Int)>=97
      ·by_cases a2:(c.toNat:Int)<=122
       ·exact absurd ⟨a1,a2⟩ h1
       ·simp[a1,a2]
      ·simp[a1]
     rw[g2,if_neg h1]
     by_cases h2:(c.toNat:Int)=45
     ·simp only[h2,bne_self_eq_false,jA]
      by_cases h3:i=0
      ·subst h3;simp[j,X2X]
      ·by_cases h4:i+1=s.size
       ·have:s.toList.drop (i+1)=[]:=jd (by omega)
        have e5:(i:Int)=(s.size:Int)-1:=by omega
        have e6:((s.size:Int)-1==0)=false:=by simp;omega
        simp only[e5,e6,this,X3f]
        by_cases h5:b=45<;>simp[h5,X2X]
       ·have e5:((i:Int)==(s.size:Int)-1)=false:=by simp;omega
        have e6:((i:Int)==0)=false:=by simp;omega
        have e7:(0:Int)<=(i:Int)-1:=by omega
        have e8:(i:Int)-1<(s.size:Int):=by omega
        have e9:((i:Int)-1).toNat=i-1:=by omega
        simp only[e5,e6,e7,e8,e9,jA,decide_true,ju,jB];simp only[h3,if_false]at j;rw[<-j]
        by_cases h5:b=45
        ·simp[h5,X2X]
        ·have q5:(b==45)=false:=beq_eq_false_iff_ne.2 h5;rw[h2]at a;rw[q5];simp only[jA,jS,jw,ne_eq,not_true,false_or,h5,if_false];rw[a];simp[show i+1<s.toList.length by omega]
     ·have:((c.toNat:Int) != 45)=true:=by simp[h2]
      simp[this,h2,X2X])
  have:=key 0 45 (by omega) (by simp)
  refine this.trans ?_;simp[X2Y,show 0<s.toList.length by omega,hsz.2]
 ·have e1:inN (↑s.size) 1 14=false:=by
   simp[inN];omega
  rw[e1];simp only[Bool.not_false,jB,X2Y]
  by_cases h:s.size<=14
  ·have k:s.toList=[]:=by
    apply List.eq_nil_of_length_eq_zero;rw[W9];omega
   simp[k,X3f,X2X]
  ·simp[h]
theorem X3P (n lo hi:Int):inN n lo hi = !X1f lo hi [n]:=by
 simp only[inN,X3Q,X4m,Bool.or_false,Bool.not_or];congr 1<;>rw[<-decide_not,decide_eq_decide]<;>omega
def X3S (lo hi:Int):Int->List Y1->Int
 | e,[]=>e
 | e,s::l=>if X1f lo hi [s.Lo,s.Hi]then 7 else X3S lo hi (if s.Lo>s.Hi then 2 else e) l
theorem X4N (l:List Y1) (lo hi:Int) (h:l.length<1000000):X2f l lo hi=some (X3S lo hi 0 l):=by
 unfold X2f;exact Xw (XZ lo l hi) _ l.length (fun i (b:Int)=>(b,(i:Int))) (fun _ _=>True) (fun i b=>some (X3S lo hi b (l.drop i)))
   (by
    intro b _ R;simp[XZ,W7,X3S])
   (by
    intro i b c _ R d;simp only[XZ,W7];rw[jb c];have e:=wS i (by omega)
    simp only[kS,Xt _ _ _ c,X3S,e];rw[X38,X38,X3P,X3P];have g:decide ((i:Int)<↑l.length)=true:=by simp[c]
    have f:=z0S i;simp only[g,f,ju,jB,jS];have a:X1f lo hi [l[i].Lo,l[i].Hi]=(X1f lo hi [l[i].Lo]||X1f lo hi [l[i].Hi]):=by simp[X1f]
    rw[a];cases h3:X1f lo hi [l[i].Lo]
    ·cases h4:X1f lo hi [l[i].Hi]
     ·by_cases h5:l[i].Lo>l[i].Hi
      ·have:=d 2 trivial;simp only[h5];simp;simpa using this
      ·have:=d b trivial;simp only[h5];simp;simpa using this
     ·simp
    ·simp) 0 0 (by omega) trivial
theorem Z9E (a b:ByteArray):(a==b)=(a.data==b.data):=by cases a;cases b;rfl
instance:LawfulBEq ByteArray where
 rfl:=by intro a;rw[Z9E];simp
 eq_of_beq:=by
  intro a b h;rw[Z9E]at h;have:=eq_of_beq h;cases a;cases b;simp only at this;rw[this]
instance:DecidableEq ByteArray:=fun a b=>if h:(a==b)=true then isTrue (eq_of_beq h)else isFalse (fun e=>h (by rw[e];simp))
def X3l (s:ByteArray) (names:List ByteArray):Int:=if X2Y s then(if s∈names then 5 else 0)else 6
theorem X51 {a b:ByteArray} (h:a.toList=b.toList):a=b:=by
 cases a;cases b;simp only[ByteArray.toList_eq]at h;congr 1;exact Array.ext' h
theorem X4Y (s:ByteArray) (names:List ByteArray) (j:names.length<1000000):X2E s names=some (X3l s names):=by
 unfold X2E X3l;rw[X55];simp only[jS];cases X2Y s
 ·simp
 ·simp only[Bool.not_true,jA,if_true];unfold X36;have key:=Xw (XJ s names) (fun o78=>Option.bind (Sum.elim (fun y79:Int=>some y79) (fun _:Unit=>some (-1)) o78) fun r82=>bif decide (r82>=0)then some (5:Int)else some 0) names.length (fun i (_:Unit)=>(i:Int)) (fun _ _=>True) (fun i _=>some (if s∈names.drop i then 5 else 0))
   (by
    intro b _ R;simp[XJ,Wf])
   (by
    intro i b hi _ R f;have c:=f () trivial;simp only[XJ,Wf];rw[jb hi];have d:=wS i (by omega)
    simp only[kS,Xt _ _ _ hi,d];have g:decide ((i:Int)<↑names.length)=true:=by simp[hi]
    have e:=z0S i;simp only[g,e,ju,jB]
    by_cases h:names[i]=s
    ·simp[h]
    ·have h':(names[i].toList==s.toList)=false:=by
      simp only[beq_eq_false_iff_ne];intro hh;exact h (X51 hh)
     have a:¬s=names[i]:=fun hh=>h hh.symm;simp only[h',jA,jS,jw,jv,a,false_or];exact c)
  have:=key 0 () (by omega) trivial
  simp only[List.drop_zero]at this;rw[<-this];show Option.bind (Option.bind _ _) _=Option.bind _ _;unfold X1W;simp only[Int.natCast_zero];cases Z99 (XJ s names) 0<;>rfl
theorem Wb (lo up:Int) (l:List Int) (g:l.length<1000000):XA lo up l=some (X1f lo up l):=by
 rw[X3d];unfold WM;have key:=Xw (XO (↑l.length) l up lo) (fun o3=>Sum.elim (fun y4:Int=>some (decide (y4>=0))) (fun _=>some (decide ((-1:Int)>=0))) o3) l.length (fun i (_:Unit)=>(i:Int)) (fun _ _=>True) (fun i _=>some (X1f lo up (l.drop i)))
  (by
   intro b _ R;simp[XO,XS,X4m])
  (by
   intro i b hi _ R e;have a:=e () trivial;simp only[XO,XS];rw[jb hi];simp only[kS,Xt _ _ _ hi,X3Q];have c:=wS i (by omega)
   rw[c];have f:decide ((i:Int)<↑l.length)=true:=by simp[hi]
   have d:=z0S i;simp only[f,d,ju,jB]
   by_cases h3:l[i]<lo
   ·simp[h3]
   ·by_cases h4:l[i]>up
    ·simp[h3,h4]
    ·simp[h3,h4];exact a)
 exact(key 0 () (by omega) trivial).trans (by simp)
theorem X2S (n lo hi:Int):X2G n lo hi=some (inN n lo hi):=by
 rw[X4J];unfold X2n inN
 by_cases h:lo<=n<;>simp[h]
def X3b (r:CoRecord) (dev st:Int) (s:Y1):Int :=
 if X1f 0 ((r.Devices.length:Int)-1) [dev]then 4 else
 if X1f 0 (IntKind.wrap .i64 ((r.Devices.getD dev.toNat (Zh.mk ByteArray.empty 0 0)).States-1)) [st]then 7 else
 if X1f 0 9999 [s.Lo,s.Hi]then 7 else if s.Lo>s.Hi then 2 else 0
theorem X1A {lo hi n:Int} (h:X1f lo hi [n]=false):lo<=n/\n<=hi:=by
 simp only[X3Q,X4m,Bool.or_false,Bool.or_eq_false_iff,decide_eq_false_iff_not]at h;omega
theorem X4S (r:CoRecord) (x:Zt) (hr:r.Devices.length<=1000000):X3k r x=some (X3b r x.Device x.State x.At):=by
 rw[X40];unfold X1s;have w1:IntKind.wrap .i64 ((r.Devices.length:Int)-1)=(r.Devices.length:Int)-1:=by rw[w64]<;>omega
 rw[w1,Wb _ _ _ (by simp)]
 simp only[jS];unfold X3b;cases h1:X1f 0 ((r.Devices.length:Int)-1) [x.Device]with
 | true=>rfl
 | false =>
  have h:=X1A h1;have c1:decide (0<=x.Device)=true:=by simp[h.1]
  have c2:decide (x.Device<(r.Devices.length:Int))=true:=by simp;omega
  simp only[jA,c1,c2,ju,jB];rw[Wb _ _ _ (by simp)]
  simp only[jS];cases h2:X1f 0 (IntKind.wrap .i64 ((r.Devices.getD x.Device.toNat (Zh.mk ByteArray.empty 0 0)).States-1)) [x.State]with
  | true=>rfl
  | false =>
   simp only[jA];rw[Wb _ _ _ (by simp)]
   simp only[jS];cases h3:X1f 0 9999 [x.At.Lo,x.At.Hi]with
   | true=>rfl
   | false=>by_cases h4:x.At.Lo>x.At.Hi<;>simp[h4]
theorem X50 (r:CoRecord) (dev st:Int) (s:Y1) (hr:r.Devices.length<=1000000):X3p r dev st s=some (X3b r dev st s):=by
 rw[X4b];unfold X1y;have w1:IntKind.wrap .i64 ((r.Devices.length:Int)-1)=(r.Devices.length:Int)-1:=by rw[w64]<;>omega
 rw[w1,X2S,X3P];simp only[jS];unfold X3b;cases h1:X1f 0 ((r.Devices.length:Int)-1) [dev]with
 | true=>rfl
 | false =>
  have h:=X1A h1;have c1:decide (0<=dev)=true:=by simp[h.1]
  have c2:decide (dev<(r.Devices.length:Int))=true:=by simp;omega
  simp only[Bool.not_false,Bool.not_true,jA,c1,c2,ju,jB];rw[X2S,X3P];simp only[jS];cases h2:X1f 0 (IntKind.wrap .i64 ((r.Devices.getD dev.toNat (Zh.mk ByteArray.empty 0 0)).States-1)) [st]with
  | true=>rfl
  | false =>
   simp only[Bool.not_false,Bool.not_true,jA];unfold X37;rw[X4N _ _ _ (by simp)]
   simp only[jS,X3S];cases h3:X1f 0 9999 [s.Lo,s.Hi]with
   | true=>rfl
   | false=>by_cases h4:s.Lo>s.Hi<;>simp[h4]
def X1I {α:Type} (f:Nat->α->Int):Nat->List α->Int×Int
 | _,[]=>(0,0)
 | i,x::xs=>if f i x≠0 then((i:Int),f i x)else X1I f (i+1) xs
theorem X2C {α:Type} (f:Nat->α->Int) (i:Nat) (x:α) (xs:List α):X1I f i (x::xs)=if f i x≠0 then((i:Int),f i x)else X1I f (i+1) xs:=rfl
def Xm:Int->Nat->List Zl->Int×Int
 | _,_,[]=>(0,0)
 | least,i,x::xs=>if(if x.At.Lo>least then x.At.Lo else least)>x.At.Hi then((i:Int),9)else Xm (if x.At.Lo>least then x.At.Lo else least) (i+1) xs
theorem X3G (least:Int) (i:Nat) (x:Zl) (xs:List Zl):Xm least i (x::xs)=if(if x.At.Lo>least then x.At.Lo else least)>x.At.Hi then((i:Int),9)else Xm (if x.At.Lo>least then x.At.Lo else least) (i+1) xs:=rfl
def X4U (names:List ByteArray) (d:Zh):Int :=
 if X3l d.Name names≠0 then X3l d.Name names else if X1f 2 4 [d.States]||X1f 0 (IntKind.wrap .i64 (d.States-1)) [d.First]then 7 else 0
def X2o (r:CoRecord):Int×Int:=X1I (fun i d=>X4U ((r.Devices.take i).map (·.Name)) d) 0 r.Devices
def X1G (r:CoRecord):Int×Int:=X1I (fun _ x=>X3b r x.Device x.State x.At) 0 r.Entries
def We (r:CoRecord):Int×Int×Int :=
 if X1f 1 4 [(r.Devices.length:Int)]||decide ((r.Entries.length:Int)>10)then(1,0,3)else
 if(X2o r).2≠0 then(2,(X2o r).1,(X2o r).2)else
 if(X1G r).2≠0 then(3,(X1G r).1,(X1G r).2)else
 if(Xm 0 0 r.Entries).2≠0 then(3,(Xm 0 0 r.Entries).1,(Xm 0 0 r.Entries).2)else(0,0,0)
theorem X4u (r:CoRecord) (d:r.Devices.length<=1000000) (f:r.Entries.length<=1000000):Xu (r.Entries,r)=some ((X1G r).1,(X1G r).2,r):=by
 rw[X12];unfold Xj XG;refine Eq.trans (Xw _ _ r.Entries.length (fun i (_:Unit)=>(i:Int)) (fun _ _=>True) (fun i _=>some ((X1I (fun _ x=>X3b r x.Device x.State x.At) i (r.Entries.drop i)).1,(X1I (fun _ x=>X3b r x.Device x.State x.At) i (r.Entries.drop i)).2,r)) ?_ ?_ 0 () (Nat.zero_le _) trivial) rfl
 ·intro b _ R;have e1:decide ((r.Entries.length:Int)<(r.Entries.length:Int))=false:=by simp
  simp only[Xh,Xc,e1,jA,List.drop_length];rfl
 ·intro i b hi _ R c;have a:=c () trivial;have e1:decide ((i:Int)<(r.Entries.length:Int))=true:=by simp[hi]
  have w1:=wS i (by omega)
  rw[jb hi,X2C];simp only[Xh,Xc,e1,z0S,kS,ju,jB,Xt _ _ _ hi,X4S r _ d,jS,w1];generalize X3b r r.Entries[i].Device r.Entries[i].State r.Entries[i].At=e
  by_cases he:e=0
  ·have c1:(e != 0)=false:=by simp[he]
   simp only[c1,jA,if_neg (fun h:e≠0=>h he)];exact a
  ·have c1:(e != 0)=true:=X4h he;simp only[c1,jB,if_pos he];rfl
theorem X4i (l:List Zl) (g:l.length<=1000000):∃q,Xv (l,0)=some ((Xm 0 0 l).1,(Xm 0 0 l).2,q):=by
 rw[X14];unfold Xk XH;simp only
 let k:((Int×Int×Int×Zl×Zl)⊕Int)->Option (Int×Int×Int):=fun o41=>Sum.elim (fun y42=>some (y42.snd.fst,y42.fst,y42.snd.snd.fst)) (fun y43=>some (0,0,y43)) o41
 obtain⟨w,e,d⟩:=X5C (X4 l (l.length:Int)) l.length (fun i (b:Int)=>((i:Int),b)) (fun i b=>Xm b i (l.drop i)=Xm 0 0 l) (fun w=>∃q,k w=some ((Xm 0 0 l).1,(Xm 0 0 l).2,q))
  (fun b a=>by
   have e1:decide ((l.length:Int)<(l.length:Int))=false:=by simp
   simp only[X4,Xd,e1,jA];refine⟨_,rfl,b,?_⟩;rw[List.drop_length]at a;rw[<-a];rfl)
  (fun i b hi a=>by
   have e1:decide ((i:Int)<(l.length:Int))=true:=by simp[hi]
   have w1:=wS i (by omega)
   rw[jb hi,X3G]at a;have f:(bif decide (l[i].At.Lo>b)then l[i].At.Lo else b)=(if l[i].At.Lo>b then l[i].At.Lo else b):=by by_cases h:l[i].At.Lo>b<;>simp[h]
   simp only[X4,Xd,e1,z0S,kS,ju,jB,Xt _ _ _ hi,w1,f]
   by_cases hc:(if l[i].At.Lo>b then l[i].At.Lo else b)>l[i].At.Hi
   ·left;rw[if_pos hc]at a;simp only[hc,decide_true,jB];refine⟨_,rfl,(if l[i].At.Lo>b then l[i].At.Lo else b),?_⟩;rw[<-a];rfl
   ·right;rw[if_neg hc]at a;simp only[hc,decide_false,jA];exact⟨_,rfl,a⟩) 0 0 (Nat.zero_le _) rfl
 have c:Z99 (X4 l (l.length:Int)) (0,0)=some w:=e;rw[c];exact d
theorem X4R (l:List Zh) (j:l.length<=1000000) (d:Zh) :
  (∃(i:Nat) (y:Zh),Xb (l.length:Int) l d 0=some (.inl ((i:Int),y))/\d.Name∈l.map (·.Name))\/(Xb (l.length:Int) l d 0=some (.inr ())/\¬d.Name∈l.map (·.Name)):=by
 obtain⟨w,f,e⟩:=X5C (X7 (l.length:Int) l d) l.length (fun i (_:Unit)=>(i:Int)) (fun i _=>∀x∈l.take i,x.Name≠d.Name)
  (fun w=>(∃(i:Nat) (y:Zh),w=.inl ((i:Int),y)/\d.Name∈l.map (·.Name))\/(w=.inr ()/\¬d.Name∈l.map (·.Name)))
  (fun _ c=>by
   have e1:decide ((l.length:Int)<(l.length:Int))=false:=by simp
   simp only[X7,X9,e1,jA];refine⟨_,rfl,.inr ⟨rfl,fun h=>?_⟩⟩;obtain⟨x,a,g⟩:=List.mem_map.1 h;rw[List.take_length]at c;exact c x a g)
  (fun i _ hi c=>by
   have e1:decide ((i:Int)<(l.length:Int))=true:=by simp[hi]
   have w1:=wS i (by omega)
   simp only[X7,X9,e1,z0S,kS,ju,jB,Xt _ _ _ hi,w1]
   by_cases hn:l[i].Name=d.Name
   ·left;have c1:(l[i].Name.toList==d.Name.toList)=true:=by rw[hn];simp
    simp only[c1,jB];exact⟨_,rfl,.inl ⟨i,_,rfl,List.mem_map.2 ⟨l[i],jl hi,hn⟩⟩⟩
   ·right;have c1:(l[i].Name.toList==d.Name.toList)=false:=beq_eq_false_iff_ne.2 fun h=>hn (X51 h);simp only[c1,jA];refine⟨(),by first|rfl|trivial,fun x a=>?_⟩
    rw[List.take_succ_eq_append_getElem hi]at a;rcases List.mem_append.1 a with q|q
    ·exact c x q
    ·rw[List.mem_singleton.1 q];exact hn) 0 () (Nat.zero_le _) (fun x a=>by simp at a)
 have b:Xb (l.length:Int) l d 0=some w:=f;rcases e with⟨i,y,rfl,h⟩|⟨rfl,h⟩
 ·exact .inl ⟨i,y,b,h⟩
 ·exact .inr ⟨b,h⟩
theorem X4t (r:CoRecord) (k:r.Devices.length<=1000000):Xs (r.Devices,r)=some ((X2o r).1,(X2o r).2,r):=by
 rw[WV];unfold Xi XB;refine Eq.trans (Xw _ _ r.Devices.length (fun i (_:Unit)=>(i:Int)) (fun _ _=>True) (fun i _=>some ((X1I (fun i d=>X4U ((r.Devices.take i).map (·.Name)) d) i (r.Devices.drop i)).1,(X1I (fun i d=>X4U ((r.Devices.take i).map (·.Name)) d) i (r.Devices.drop i)).2,r)) ?_ ?_ 0 () (Nat.zero_le _) trivial) rfl
 ·intro b _ R;have e1:decide ((r.Devices.length:Int)<(r.Devices.length:Int))=false:=by simp
  simp only[Xg,X8,e1,jA,List.drop_length];rfl
 ·intro i b hi _ R h;have g:=h () trivial;have e1:decide ((i:Int)<(r.Devices.length:Int))=true:=by simp[hi]
  have e2:decide ((i:Int)<=(r.Devices.length:Int))=true:=by simp;omega
  have w1:=wS i (by omega)
  rw[jb hi,X2C];simp only[Xg,X8,e1,e2,z0S,kS,ju,jB,Xt _ _ _ hi,X53,jS,w1,List.drop_zero];generalize r.Devices[i]=d;have c:X4U ((r.Devices.take i).map (·.Name)) d=if X2Y d.Name then(if d.Name∈(r.Devices.take i).map (·.Name)then 5 else if X1f 2 4 [d.States]||X1f 0 (IntKind.wrap .i64 (d.States-1)) [d.First]then 7 else 0)else 6:=by
   unfold X4U X3l;generalize (r.Devices.take i).map (·.Name)=names;cases q1:X2Y d.Name with
   | false=>rfl
   | true =>
    by_cases q2:d.Name∈names
    ·simp only[q2,if_true];rfl
    ·simp only[q2,if_true,if_false];rfl
  rw[c];cases hn:X2Y d.Name with
  | false=>rfl
  | true =>
   simp only[Bool.not_true,jA,if_true];have a:(r.Devices.take i).length<=1000000:=by rw[List.length_take];omega
   rcases X4R (r.Devices.take i) a d with⟨j,y,f,e⟩|⟨f,e⟩
   ·have c1:decide ((j:Int)>=0)=true:=by simp
    simp only[f,jS,jw,c1,jB,if_pos e];rfl
   ·simp only[f,jS,jy,if_neg e];rw[Wb _ _ _ (by simp),Wb _ _ _ (by simp)]
    simp only[jS];cases q1:X1f 2 4 [d.States]with
    | true=>rfl
    | false =>
     cases q2:X1f 0 (IntKind.wrap .i64 (d.States-1)) [d.First]with
     | true=>rfl
     | false=>exact g
theorem X2L (r:CoRecord):WL r=some (We r):=by
 rw[X3v];unfold X1c;rw[Wb _ _ _ (by simp)]
 simp only[jS];unfold We;cases q1:X1f 1 4 [(r.Devices.length:Int)]with
 | true=>rfl
 | false =>
  have d:=X1A q1;have b:r.Devices.length<=1000000:=by omega
  by_cases q2:(r.Entries.length:Int)>10
  ·simp only[jA,q2,decide_true,jB,Bool.false_or,if_true]
  ·have a:r.Entries.length<=1000000:=by omega
   simp only[jA,q2,decide_false,Bool.false_or,X4t r b,jS];simp only[jg,if_false]
   by_cases q3:(X2o r).2=0
   ·have c3:((X2o r).2 != 0)=false:=by simp[q3]
    simp only[c3,jA,X4u r b a,jS,if_neg (fun h:(X2o r).2≠0=>h q3)]
    by_cases q4:(X1G r).2=0
    ·have c4:((X1G r).2 != 0)=false:=by simp[q4]
     obtain⟨q,c⟩:=X4i r.Entries a;simp only[c4,jA,c,jS,if_neg (fun h:(X1G r).2≠0=>h q4)]
     by_cases q5:(Xm 0 0 r.Entries).2=0
     ·have c5:((Xm 0 0 r.Entries).2 != 0)=false:=by simp[q5]
      simp only[c5,jA,if_neg (fun h:(Xm 0 0 r.Entries).2≠0=>h q5)]
     ·have c5:((Xm 0 0 r.Entries).2 != 0)=true:=X4h q5;simp only[c5,jB,if_pos q5]
    ·have c4:((X1G r).2 != 0)=true:=X4h q4;simp only[c4,jB,if_pos q4]
   ·have c3:((X2o r).2 != 0)=true:=X4h q3;simp only[c3,jB,if_pos q3]
theorem X1N (r:CoRecord):Wj r=some (We r):=by
 rw[X3H];unfold X1g;rw[X2S,X3P];simp only[jS];unfold We;cases q1:X1f 1 4 [(r.Devices.length:Int)]with
 | true=>rfl
 | false =>
  have n:=X1A q1;have q:r.Devices.length<=4:=by omega
  by_cases q2:(r.Entries.length:Int)>10
  ·simp only[Bool.not_false,Bool.not_true,jA,q2,decide_true,jB,Bool.false_or,if_true]
  ·have p:r.Entries.length<=10:=by omega
   simp only[Bool.not_false,Bool.not_true,jA,q2,decide_false,Bool.false_or,jg,if_false];unfold X1X;refine Eq.trans (Xw _ _ r.Devices.length (fun i (b:List ByteArray)=>((i:Int),b)) (fun i b=>b=(r.Devices.take i).map (·.Name))
    (fun i _=>if(X1I (fun i d=>X4U ((r.Devices.take i).map (·.Name)) d) i (r.Devices.drop i)).2≠0 then some (2,(X1I (fun i d=>X4U ((r.Devices.take i).map (·.Name)) d) i (r.Devices.drop i)).1,(X1I (fun i d=>X4U ((r.Devices.take i).map (·.Name)) d) i (r.Devices.drop i)).2)else
     some (if(X1G r).2≠0 then(3,(X1G r).1,(X1G r).2)else if(Xm 0 0 r.Entries).2≠0 then(3,(Xm 0 0 r.Entries).1,(Xm 0 0 r.Entries).2)else(0,0,0))) ?_ ?_ 0 [] (Nat.zero_le _) rfl) ?_
   ·intro b _ R;have e1:decide ((r.Devices.length:Int)<(r.Devices.length:Int))=false:=by simp
    simp only[WQ,Wg,e1,jA,List.drop_length];show Option.bind (X19 r 0) _=some (if(X1G r).2≠0 then(3,(X1G r).1,(X1G r).2)else if(Xm 0 0 r.Entries).2≠0 then(3,(Xm 0 0 r.Entries).1,(Xm 0 0 r.Entries).2)else(0,0,0));unfold X19;refine Eq.trans (Xw _ _ r.Entries.length (fun i (_:Unit)=>(i:Int)) (fun _ _=>True)
     (fun i _=>some (if(X1I (fun _ (x:Zl)=>X3b r x.Device x.State x.At) i (r.Entries.drop i)).2≠0 then(3,(X1I (fun _ (x:Zl)=>X3b r x.Device x.State x.At) i (r.Entries.drop i)).1,(X1I (fun _ (x:Zl)=>X3b r x.Device x.State x.At) i (r.Entries.drop i)).2)else if(Xm 0 0 r.Entries).2≠0 then(3,(Xm 0 0 r.Entries).1,(Xm 0 0 r.Entries).2)else(0,0,0))) ?_ ?_ 0 () (Nat.zero_le _) trivial) rfl
    ·intro b _ R;have e1:decide ((r.Entries.length:Int)<(r.Entries.length:Int))=false:=by simp
     simp only[WR,Wh,e1,jA,List.drop_length];show Option.bind (X1a r (0,0)) _=some (if(Xm 0 0 r.Entries).2≠0 then(3,(Xm 0 0 r.Entries).1,(Xm 0 0 r.Entries).2)else(0,0,0));unfold X1a;refine Eq.trans (Xw _ _ r.Entries.length (fun i (b:Int)=>((i:Int),b)) (fun _ _=>True)
      (fun i b=>some (if(Xm b i (r.Entries.drop i)).2≠0 then(3,(Xm b i (r.Entries.drop i)).1,(Xm b i (r.Entries.drop i)).2)else(0,0,0))) ?_ ?_ 0 0 (Nat.zero_le _) trivial) rfl
     ·intro b _ R;simp only[WS,Wi,e1,jA,List.drop_length];rfl
     ·intro i b hi _ R c;have e1:decide ((i:Int)<(r.Entries.length:Int))=true:=by simp[hi]
      have w1:=wS i (by omega)
      have o:(bif decide (r.Entries[i].At.Lo>b)then r.Entries[i].At.Lo else b)=(if r.Entries[i].At.Lo>b then r.Entries[i].At.Lo else b):=by by_cases h:r.Entries[i].At.Lo>b<;>simp[h]
      rw[jb hi,X3G];simp only[WS,Wi,e1,z0S,kS,ju,jB,Xt _ _ _ hi,w1,o]
      by_cases hc:(if r.Entries[i].At.Lo>b then r.Entries[i].At.Lo else b)>r.Entries[i].At.Hi
      ·rw[if_pos hc];simp only[hc,decide_true,jB];rfl
      ·rw[if_neg hc];simp only[hc,decide_false,jA];exact c _ trivial
    ·intro i b hi _ R c;have m:=c () trivial;have e1:decide ((i:Int)<(r.Entries.length:Int))=true:=by simp[hi]
     have w1:=wS i (by omega)
     rw[jb hi,X2C];simp only[WR,Wh,e1,z0S,kS,ju,jB,Xt _ _ _ hi,X50 r _ _ _ (by omega:r.Devices.length<=1000000),jS,w1]
     generalize X3b r r.Entries[i].Device r.Entries[i].State r.Entries[i].At=e
     by_cases he:e=0
     ·have c1:(e != 0)=false:=by simp[he]
      simp only[c1,jA,if_neg (fun h:e≠0=>h he)];exact m
     ·have c1:(e != 0)=true:=X4h he;simp only[c1,jB,if_pos he];rfl
   ·intro i b hi j R c;have e1:decide ((i:Int)<(r.Devices.length:Int))=true:=by simp[hi]
    have w1:=wS i (by omega)
    have f:b.length=i:=by rw[j,List.length_map,List.length_take];omega
    have b1:Nat.ble ((i+1)*(16+1)) 200000000000000=true:=by rw[Nat.ble_eq];omega
    have g:=X4Y r.Devices[i].Name b (by omega)
    have a:=c ((r.Devices.take (i+1)).map (·.Name)) rfl;rw[jb hi,X2C];simp only[WQ,Wg,e1,z0S,kS,ju,jB,Xt _ _ _ hi,g,jS,w1,f,List.length_singleton,b1];have k:b++[r.Devices[i].Name]=(r.Devices.take (i+1)).map (·.Name):=by rw[j,List.take_succ_eq_append_getElem hi,List.map_append];rfl
    rw[<-j];have l:X4U b r.Devices[i]=if X3l r.Devices[i].Name b≠0 then X3l r.Devices[i].Name b else if X1f 2 4 [r.Devices[i].States]||X1f 0 (IntKind.wrap .i64 (r.Devices[i].States-1)) [r.Devices[i].First]then 7 else 0:=rfl;rw[l];generalize X3l r.Devices[i].Name b=e
    by_cases he:e=0
    ·have c1:(e==0)=true:=by simp[he]
     have c2:(e != 0)=false:=by simp[he]
     simp only[c1,c2,jB,jA,if_neg (fun h:e≠0=>h he),X2S,X3P,jS,Bool.not_not];cases q5:X1f 2 4 [r.Devices[i].States]with
     | true=>rfl
     | false =>
      simp only[jA,Bool.false_or];cases q6:X1f 0 (IntKind.wrap .i64 (r.Devices[i].States-1)) [r.Devices[i].First]with
      | true=>rfl
      | false =>
       simp only[jA];rw[k];exact a
    ·have c1:(e==0)=false:=X68 he;have c2:(e != 0)=true:=X4h he;simp only[c1,c2,jB,jA,if_pos he];rfl
   ·simp only[List.drop_zero];show(if(X2o r).2≠0 then some (2,(X2o r).1,(X2o r).2)else some (if(X1G r).2≠0 then(3,(X1G r).1,(X1G r).2)else if(Xm 0 0 r.Entries).2≠0 then(3,(Xm 0 0 r.Entries).1,(Xm 0 0 r.Entries).2)else(0,0,0)))=some (if(X2o r).2≠0 then(2,(X2o r).1,(X2o r).2)else if(X1G r).2≠0 then(3,(X1G r).1,(X1G r).2)else if(Xm 0 0 r.Entries).2≠0 then(3,(Xm 0 0 r.Entries).1,(Xm 0 0 r.Entries).2)else(0,0,0))
    by_cases q3:(X2o r).2=0
    ·simp only[ne_eq,q3,not_true_eq_false,if_false]
    ·simp only[ne_eq,q3,not_false_eq_true,if_true]
structure X6J (r:CoRecord):Prop where
 devs:1<=r.Devices.length/\r.Devices.length<=4
 many:r.Entries.length<=10
 dev:∀d∈r.Devices,(2<=d.States/\d.States<=4)/\0<=d.First/\d.First<d.States
 ent:∀x∈r.Entries,X3b r x.Device x.State x.At=0
 order:Xm 0 0 r.Entries=(0,0)
theorem X3O {α:Type} (f:Nat->α->Int):∀(l:List α) (i:Nat),(X1I f i l).2=0->∀(j:Nat) (h:j<l.length),f (i+j) l[j]=0
 | x::xs,i,h,j,hj=>by
  rw[X2C]at h
  by_cases he:f i x=0
  ·rw[if_neg (fun q=>q he)]at h;cases j with
   | zero=>exact he
   | succ j =>
    have:=X3O f xs (i+1) h j (by simpa using hj)
    rw[show i+(j+1)=i+1+j by omega]
    exact this
  ·rw[if_pos he]at h;exact absurd h he
theorem X5c:∀(l:List Zl) (a:Int) (i:Nat),(Xm a i l).2=0->Xm a i l=(0,0)
 | [],_,_,_=>rfl
 | x::xs,a,i,h=>by
  rw[X3G]at h⊢
  by_cases hc:(if x.At.Lo>a then x.At.Lo else a)>x.At.Hi
  ·rw[if_pos hc]at h;exact absurd h (by simp)
  ·rw[if_neg hc]at h⊢;exact X5c xs _ _ h
theorem X6b {r:CoRecord} (h:(We r).2.2=0):X6J r:=by
 unfold We at h;cases q1:X1f 1 4 [(r.Devices.length:Int)]with
 | true=>rw[q1]at h;exact absurd h (by simp)
 | false =>
  have b:=X1A q1
  by_cases q2:(r.Entries.length:Int)>10
  ·simp only[q1,q2,decide_true,Bool.or_true,if_true]at h;exact absurd h (by simp)
  ·simp only[q1,q2,decide_false,Bool.or_self,jg,if_false]at h
   by_cases q3:(X2o r).2=0
   ·rw[if_neg (fun k=>k q3)]at h
    by_cases q4:(X1G r).2=0
    ·rw[if_neg (fun k=>k q4)]at h
     by_cases q5:(Xm 0 0 r.Entries).2=0
     ·refine⟨by omega,by omega,fun d b=>?_,fun x c=>?_,X5c _ _ _ q5⟩
      ·obtain⟨j,a,rfl⟩:=List.getElem_of_mem b;have:=X3O _ _ 0 q3 j a;simp only[X4U]at this;split at this
       ·rename_i k;exact absurd this k
       ·split at this
        ·exact absurd this (by simp)
        ·rename_i k;simp only[Bool.or_eq_true,not_or,Bool.not_eq_true]at k;have k1:=X1A k.1;have k2:=X1A k.2;rw[w64 (by omega) (by omega)]at k2
         omega
      ·obtain⟨j,a,rfl⟩:=List.getElem_of_mem c;exact X3O _ _ 0 q4 j a
     ·rw[if_pos q5]at h;exact absurd h q5
    ·rw[if_pos q4]at h;exact absurd h q4
   ·rw[if_pos q3]at h;exact absurd h q3
end Nore
open Go
namespace Nore
def Zhn (c:UInt8):List UInt8->List (List UInt8)
 | []=>[[]]
 | b::l=>if b=c then []::Zhn c l else match Zhn c l with
  | []=>[[b]]
  | w::ws=>(b::w)::ws
theorem X5n (c:UInt8) (l:List UInt8):Zhn c l≠[]:=by
 cases l with
 | nil=>simp[Zhn]
 | cons b l =>
  unfold Zhn;split
  ·simp
  ·split<;>simp
theorem X2T {c:UInt8}:∀{l:List UInt8},c∉l->Zhn c l=[l]
 | [],_=>rfl
 | b::l,h=>by
  simp only[jv,not_or]at h;unfold Zhn;rw[if_neg (fun e=>h.1 e.symm),X2T h.2]
theorem WO {c:UInt8}:∀{a b:List UInt8},c∉a->Zhn c (a++c::b)=a::Zhn c b
 | [],b,_=>by simp[Zhn]
 | x::a,b,h=>by
  simp only[jv,not_or]at h;rw[List.cons_append,show Zhn c (x::(a++c::b))=if x=c then []::Zhn c (a++c::b)else match Zhn c (a++c::b)with|[]=>[[x]]|w::ws=>(x::w)::ws from rfl,if_neg (fun e=>h.1 e.symm),WO h.2]
theorem X3B (c:UInt8):∀l:List UInt8,c∉l\/∃a b,l=a++c::b/\c∉a
 | []=>.inl (by simp)
 | x::l=>by
  by_cases hx:x=c
  ·exact .inr ⟨[],l,by rw[hx];rfl,by simp⟩
  ·rcases X3B c l with h|⟨a,b,f,d⟩
   ·exact .inl (by simp only[jv,not_or];exact⟨fun e=>hx e.symm,h⟩)
   ·exact .inr ⟨x::a,b,by rw[f];rfl,by simp only[jv,not_or];exact⟨fun e=>hx e.symm,d⟩⟩
theorem X5T (c:UInt8) (l:List UInt8):c∉l\/∃a b,l=a++c::b/\c∉b:=by
 rcases X3B c l.reverse with h|⟨a,b,e,d⟩
 ·exact .inl (by simpa using h)
 ·refine .inr ⟨b.reverse,a.reverse,?_,by simpa using d⟩
  have:=congrArg List.reverse e;simpa using this
theorem X2W {c:UInt8}:∀{l:List UInt8},c∉l->Lib.indexByte l c = -1
 | [],_=>rfl
 | x::l,h=>by
  simp only[jv,not_or]at h;unfold Lib.indexByte;have a:(x==c)=false:=by simpa using fun e=>h.1 e.symm
  rw[a,X2W h.2];rfl
theorem X3m {c:UInt8}:∀{a b:List UInt8},c∉a->Lib.indexByte (a++c::b) c=a.length
 | [],b,_=>by simp[Lib.indexByte]
 | x::a,b,h=>by
  simp only[jv,not_or]at h;rw[List.cons_append];unfold Lib.indexByte;have d:(x==c)=false:=by simpa using fun e=>h.1 e.symm
  rw[d,X3m h.2];have:((a.length:Int) == -1)=false:=by rw[beq_eq_false_iff_ne];omega
  rw[this];simp
theorem X4X {c:UInt8}:∀{l:List UInt8},c∉l->Lib.index l [c] = -1
 | [],_=>rfl
 | x::l,h=>by
  simp only[jv,not_or]at h;unfold Lib.index;have a:[c].isPrefixOf (x::l)=false:=by simpa[List.isPrefixOf]using h.1
  rw[a,X4X h.2];rfl
theorem X4W {c:UInt8}:∀{a b:List UInt8},c∉a->Lib.index (a++c::b) [c]=a.length
 | [],b,_=>by simp[Lib.index,List.isPrefixOf]
 | x::a,b,h=>by
  simp only[jv,not_or]at h;rw[List.cons_append];unfold Lib.index;have d:[c].isPrefixOf (x::(a++c::b))=false:=by simpa[List.isPrefixOf]using h.1
  rw[d,X4W h.2];have:((a.length:Int) == -1)=false:=by rw[beq_eq_false_iff_ne];omega
  rw[this];simp
theorem X5h (c:UInt8):∀(n:Nat) (l:List UInt8) (f:Nat),l.length<=n->l.length<f->Lib.splitK [c] 0 (Lib.countFrom [c] f l) l=Zhn c l/\(Zhn c l).length=Lib.countFrom [c] f l+1
 | n,l,0,_,h=>by omega
 | n,l,f+1,hn,hf=>by
  rcases X3B c l with h|⟨a,b,g,d⟩
  ·unfold Lib.countFrom;rw[X4X h,X2T h];simp[Lib.splitK]
  ·subst g;unfold Lib.countFrom;rw[X4W d,WO d];have hi:((a.length:Int) == -1)=false:=by rw[beq_eq_false_iff_ne];omega
   rw[hi];simp only[jg,if_false,kS];have e:(a++c::b).drop (a.length+[c].length)=b:=by
    rw[List.drop_append];simp
   rw[e];cases n with
   | zero=>simp at hn
   | succ n =>
    have i:(a++c::b).length=a.length+b.length+1:=by simp;omega
    obtain⟨i1,i2⟩:=X5h c n b f (by omega) (by omega)
    rw[Nat.add_comm 1];unfold Lib.splitK;rw[X4W d,hi];simp only[jg,if_false,kS,e,i1,Nat.add_zero];refine⟨?_,by simp[i2]⟩
    rw[List.take_append];simp
theorem X6v (c:UInt8) (l:List UInt8):Lib.splitK [c] 0 (Lib.count l [c]) l=Zhn c l/\(Zhn c l).length=Lib.count l [c]+1 :=
 X5h c l.length l (l.length+1) (Nat.le_refl _) (Nat.lt_succ_self _)
theorem X2B (c:UInt8):∀(l:List UInt8),∀w∈Zhn c l,w.length<=l.length
 | [],w,h=>by simp[Zhn]at h;simp[h]
 | b::l,w,h=>by
  unfold Zhn at h;split at h
  ·rcases jv.1 h with e|e
   ·simp[e]
   ·have:=X2B c l w e;simp;omega
  ·split at h
   ·rename_i a;exact absurd a (X5n c l)
   ·rename_i v vs a;rcases jv.1 h with e|e
    ·have:=X2B c l v (by rw[a];simp)
     rw[e];simp;omega
    ·have:=X2B c l w (by rw[a];exact List.mem_cons_of_mem _ e)
     simp;omega
theorem X4w (c:UInt8):∀(l:List UInt8),(Zhn c l).length<=l.length+1
 | []=>by simp[Zhn]
 | b::l=>by
  have h:=X4w c l;unfold Zhn;split
  ·simp;omega
  ·split
   ·simp
   ·rename_i a;rw[a]at h;simp at h⊢;omega
def X24 (b:UInt8):Bool:=decide (48<=b.toNat)&&decide (b.toNat<=57)
def X3V (n:Nat) (l:List UInt8):Nat:=l.foldl (fun n b=>10*n+(b.toNat-48)) n
theorem X5E (n:Nat):X3V n []=n:=by unfold X3V;rw[List.foldl_nil]
theorem X3U (n:Nat) (b:UInt8) (l:List UInt8):X3V n (b::l)=X3V (10*n+(b.toNat-48)) l:=by unfold X3V;rw[List.foldl_cons]
theorem X6w (l:List UInt8) (n:Nat) (b:UInt8):X3V n (l++[b])=10*X3V n l+(b.toNat-48):=by
 unfold X3V;rw[List.foldl_append,List.foldl_cons,List.foldl_nil]
theorem X5W:∀(l:List UInt8) (n:Nat),n<=X3V n l
 | [],n=>Nat.le_refl _
 | x::l,n=>by
  rw[X3U];exact Nat.le_trans (by omega) (X5W l _)
abbrev dg (n:Nat):List UInt8:=Lib.decDigits n
theorem X3z {n:Nat} (h:n<10):dg n=[UInt8.ofNat (48+n)]:=Lib.decDigits_one h
theorem X5F {n:Nat} (h:¬n<10):dg n=dg (n / 10)++[UInt8.ofNat (48+n % 10)]:=by
 show Lib.decDigits n=_;rw[Lib.decDigits,dif_neg h]
theorem X4P {d:Nat} (h:d<10):(UInt8.ofNat (48+d)).toNat=48+d:=by
 rw[UInt8.toNat_ofNat'];omega
theorem X4j:∀(n:Nat),(dg n).all X24=true/\dg n≠[]/\X3V 0 (dg n)=n/\((dg n).length=1\/(dg n).head? ≠ some 48)/\(0<n->(dg n).head? ≠ some 48):=fun n=>by
 induction n using Nat.strongRecOn with
 | _ n ih =>
  by_cases h:n<10
  ·rw[X3z h];have a:=X4P h;refine⟨by simp[X24];omega,by simp,by rw[X3U,X5E,a];omega,.inl rfl,fun i=>?_⟩
   simp only[List.head?_cons,ne_eq,jh];intro e;rw[e]at a;simp at a;omega
  ·obtain⟨f,c,g,_,b⟩:=ih (n / 10) (by omega)
   have a:=X4P (d:=n % 10) (by omega)
   rw[X5F h];have hh:(dg (n / 10)++[UInt8.ofNat (48+n % 10)]).head?=(dg (n / 10)).head? := by
    cases hq:dg (n / 10)with
    | nil=>exact absurd hq c
    | cons x xs=>rfl
   refine⟨by simp only[List.all_append,f,Bool.true_and];simp[X24];omega,by simp,by rw[X6w,g,a];omega,.inr (by rw[hh];exact b (by omega)),fun _=>by rw[hh];exact b (by omega)⟩
theorem X4x:∀(k n:Nat),n<10 ^ (k+1)->(dg n).length<=k+1
 | 0,n,h=>by rw[X3z (by simpa using h)];simp
 | k+1,n,h=>by
  by_cases hs:n<10
  ·rw[X3z hs];simp
  ·rw[X5F hs];have:=X4x k (n / 10) (by rw[Nat.pow_succ]at h;omega)
   simp;omega
theorem X5d:∀(l:List UInt8) (n:Nat),l.all X24=true->X3V n l<1000000000000000000->Lib.parseUint10 n l=.ok (X3V n l)
 | [],n,_,_=>rfl
 | c::l,n,h,hv=>by
  simp only[jt,jn]at h;have hc:48<=c.toNat/\c.toNat<=57:=by simpa[X24]using h.1
  rw[X3U]at hv⊢;have a:=X5W l (10*n+(c.toNat-48));unfold Lib.parseUint10;rw[if_pos hc,if_neg (by omega),if_neg (by omega)]
  rw[show n*10+(c.toNat-48)=10*n+(c.toNat-48) by omega]
  exact X5d l _ h.2 hv
theorem X5P {n:Nat} (h:n<1000000000000000000):Lib.atoiAll (dg n)=.ok (n:Int):=by
 obtain⟨a,d,b,_,_⟩:=X4j n;cases hq:dg n with
 | nil=>exact absurd hq d
 | cons c r =>
  have hc:48<=c.toNat/\c.toNat<=57:=by
   rw[hq]at a;simp only[jt,jn]at a;simpa[X24]using a.1
  unfold Lib.atoiAll;simp only;rw[if_neg (by omega)]
  unfold Lib.parseMag;rw[if_neg (by simp),<-hq,X5d _ 0 a (by rw[b];exact h),b]
  simp only;rw[if_neg (by omega),if_neg (by omega),if_neg (by omega)]
def Wc:Int->List UInt8->Int
 | b,[]=>b
 | b,c::l=>Wc ((b*257+(c.toNat:Int)) % 65521) l
theorem W8:∀(l:List UInt8) (b:Int),0<=b->b<65521->0<=Wc b l/\Wc b l<65521
 | [],b,h1,h2=>⟨h1,h2⟩
 | c::l,b,h1,h2=>by
  simp only[Wc];exact W8 l _ (Int.emod_nonneg _ (by decide)) (Int.emod_lt_of_pos _ (by decide))
end Nore
open Go Go.Ab
namespace Nore
abbrev mkB (l:List UInt8):ByteArray:=⟨l.toArray⟩
theorem X2 (l:List UInt8):(mkB l).toList=l:=by rw[ByteArray.toList_eq]
theorem X5A (l:List UInt8):(mkB l).data.toList=l:=rfl
theorem X4z (s:ByteArray):mkB s.toList=s:=by rw[ByteArray.toList_eq]
theorem X1 (l:List UInt8):(mkB l).size=l.length:=rfl
theorem X2y (a b:List UInt8):mkB a++mkB b=mkB (a++b):=by
 apply ByteArray.ext;simp[mkB]
theorem X2d (l:List UInt8) (i j:Nat):(mkB l).extract i j=mkB ((l.take j).drop i):=by
 apply ByteArray.ext;simp[mkB,ByteArray.data_extract,List.drop_take]
theorem X5p (a b:List UInt8):((mkB a).toList==(mkB b).toList)=decide (a=b):=by
 rw[X2,X2]
 by_cases h:a=b
 ·subst h;simp
 ·simp[h]
theorem X59 (l:List UInt8):Exists.choose Zbh (mkB l)=l.map fun b=>(b.toNat:Int):=Zhk (mkB l)
theorem X4G (l:List UInt8):Exists.choose Z9I (l.map fun b=>(b.toNat:Int))=true:=by
 refine(Z9H _).trans ?_;rw[List.all_eq_true];intro n a;obtain⟨b,_,rfl⟩:=List.mem_map.1 a;have:=b.toNat_lt;simp;omega
theorem X4Q (l:List UInt8):Exists.choose Zbj (l.map fun b=>(b.toNat:Int))=mkB l:=by
 refine(Zbi _).trans ?_;rw[List.map_map];have:((fun n:Int=>UInt8.ofNat n.toNat)∘fun b:UInt8=>(b.toNat:Int))=id:=by funext b;simp
 rw[this,List.map_id]
theorem X6o (n:Nat) (h:n<1000000000):W4 (n:Int)=some (mkB (dg n)):=by
 rw[X3s];unfold X1F ZaS;have a:Zk5 (n:Int)=true:=by simp[Zk5];omega
 rw[a,jB,ZiO _ (by omega) (by omega)]
 unfold Lib.itoa;rw[if_neg (by omega)];rfl
theorem X54 (l:List UInt8) (c:Nat) (hc:c<256):Wd (mkB l) (c:Int)=some (Lib.indexByte l c.toUInt8):=by
 rw[X2J];unfold XU;rw[WJ];rfl
theorem X44 (l:List UInt8) (c:UInt8) (e:l.length<1000000):Xl (mkB l) (mkB [c])=some (decide (l.getLast? = some c)):=by
 rw[WH];unfold Xf;rw[X1,X1];cases hq:l with
 | nil=>simp
 | cons x xs =>
  have a:l≠[]:=by rw[hq];simp
  rw[<-hq];have f:1<=l.length:=by rw[hq];simp
  have w:IntKind.wrap .i64 ((l.length:Int)-(([c].length:Nat):Int))=((l.length-1:Nat):Int):=by
   rw[w64]<;>simp<;>omega
  rw[w];have c1:decide ((l.length:Int)>=(([c].length:Nat):Int))=true:=by simp;omega
  have c2:decide ((0:Int)<=((l.length-1:Nat):Int))=true:=by simp
  have c3:decide (((l.length-1:Nat):Int)<=(l.length:Int))=true:=by simp
  rw[c1,c2,c3];simp only[ju,jB,kS];rw[X2d,X5p];congr 1;have d:l=l.dropLast++[l.getLast a]:=(List.dropLast_concat_getLast a).symm;have:(l.take l.length).drop (l.length-1)=[l.getLast a]:=by
   rw[List.take_length];have b:l.length-1=l.dropLast.length:=by simp
   rw[b]
   conv=>lhs;arg 2;rw[d]
   rw[List.drop_left]
  rw[this,List.getLast?_eq_some_getLast a];simp
theorem X5D (l:List UInt8) (c:UInt8) (a:l.length<1000000):XD (mkB l) (mkB [c])=some (mkB (if l.getLast? = some c then l.dropLast else l)):=by
 rw[X2p];unfold XM;rw[WA];unfold Xa;rw[X44 l c a];simp only[jS]
 by_cases h:l.getLast? = some c
 ·have b:1<=l.length:=by
   cases l with
   | nil=>simp at h
   | cons x xs=>simp
  have w:IntKind.wrap .i64 (((mkB l).size:Int)-((mkB [c]).size:Int))=((l.length-1:Nat):Int):=by
   rw[X1,X1,w64]<;>simp<;>omega
  rw[w];have c2:decide ((0:Int)<=((l.length-1:Nat):Int))=true:=by simp
  have c3:decide (((l.length-1:Nat):Int)<=((mkB l).size:Int))=true:=by rw[X1];simp
  simp only[h,decide_true,jB,c2,c3,ju,jS,if_true,kS,X2d,List.drop_zero,List.dropLast_eq_take]
 ·simp only[h,decide_false,jA,jS,if_false]
theorem X5w (l:List UInt8) (c:UInt8) (a:l.length<1000000):XK (mkB l) (mkB [c])=some (if l.getLast? = some c then(mkB l.dropLast,true)else(mkB l,false)):=by
 rw[X2H];unfold XT;rw[WF];unfold Xe;rw[X44 l c a];simp only[jS]
 by_cases h:l.getLast? = some c
 ·have b:1<=l.length:=by
   cases l with
   | nil=>simp at h
   | cons x xs=>simp
  have w:IntKind.wrap .i64 (((mkB l).size:Int)-((mkB [c]).size:Int))=((l.length-1:Nat):Int):=by
   rw[X1,X1,w64]<;>simp<;>omega
  rw[w];have c2:decide ((0:Int)<=((l.length-1:Nat):Int))=true:=by simp
  have c3:decide (((l.length-1:Nat):Int)<=((mkB l).size:Int))=true:=by rw[X1];simp
  simp only[h,decide_true,Bool.not_true,jA,jB,c2,c3,ju,jS,if_true,kS,X2d,List.drop_zero,List.dropLast_eq_take]
 ·simp only[h,decide_false,Bool.not_false,jB,jS,if_false]
theorem X5i (l:List UInt8) (c:UInt8) (d:l.length<1000000):X1L (mkB l) (mkB [c])=some ((Zhn c l).map mkB):=by
 rw[X3h];unfold X1p Z8C;obtain⟨b,a⟩:=X6v c l;have e1:(mkB l).data.toList=l:=rfl;have e2:(mkB [c]).data.toList=[c]:=rfl;rw[e1,e2,b,a,X1,X1];have c1:Nat.blt l.length 4294967281=true:=by
  show Nat.ble _ _=true;exact Nat.ble_eq_true_of_le (by omega)
 have c2:Nat.ble 1 [c].length=true:=rfl;rw[c1,c2,Nat.beq_refl];rfl
theorem X5b (c:Int) (x:UInt8) (hc:(x.toNat:Int)=c) (l:List UInt8) (o:l.length<1000000):∀(n:Nat),n<=l.length →
  ∀(k:Int⊕Unit->Option Int),(∀y,k (.inl y)=some y)->(∀y,k (.inr y)=some (-1)) →
  (x∉l.take n->Option.bind (X0 c (mkB l) ((n:Int)-1)) k=some (-1)) ∧
  (∀a b,l.take n=a++x::b->x∉b->Option.bind (X0 c (mkB l) ((n:Int)-1)) k=some (a.length:Int))
 | 0,_,k,hi,hr=>by
  constructor
  ·intro _;unfold X0;rw[X1h];simp[X5,X3,hr]
  ·intro a b h _;simp at h
 | n+1,hn,k,hi,hr=>by
  obtain⟨i1,i2⟩:=X5b c x hc l o n (by omega) k hi hr
  have j:n<l.length:=by omega
  have g:Option.bind (X0 c (mkB l) (((n+1:Nat):Int)-1)) k =
    if l[n]=x then some (n:Int)else Option.bind (X0 c (mkB l) ((n:Int)-1)) k:=by
   unfold X0;rw[X1h];simp only[X5,X3];rw[show(((n+1:Nat):Int)-1)=(n:Int) by omega]
   have c1:decide ((n:Int)>=0)=true:=by simp
   have c2:decide ((0:Int)<=(n:Int))=true:=by simp
   have c3:decide ((n:Int)<((mkB l).size:Int))=true:=by rw[X1];simp;omega
   rw[c1,c3,X2];simp only[ju,jB,kS,Xt _ _ _ j];have w:IntKind.wrap .i64 ((n:Int)-1)=(n:Int)-1:=by rw[w64]<;>omega
   rw[w]
   by_cases hx:l[n]=x
   ·have:((l[n].toNat:Int)==c)=true:=by rw[hx,hc];simp
    rw[this,if_pos hx];simp[hi]
   ·have:((l[n].toNat:Int)==c)=false:=by
     rw[beq_eq_false_iff_ne];intro e;exact hx (UInt8.toNat_inj.1 (by omega))
    rw[this,if_neg hx];simp
  have d:l.take (n+1)=l.take n++[l[n]]:=List.take_succ_eq_append_getElem j;constructor
  ·intro h;rw[d]at h;simp only[List.mem_append,List.mem_singleton,not_or]at h;rw[g,if_neg (fun e=>h.2 e.symm)];exact i1 h.1
  ·intro a b h m;rw[g]
   by_cases hx:l[n]=x
   ·rw[if_pos hx];rw[d,hx]at h;cases hq:b.getLast? with
    | none =>
     have:b=[]:=List.getLast?_eq_none_iff.1 hq;subst this;have:=congrArg List.length h;simp at this;congr 1;omega
    | some y =>
     have f:b≠[]:=fun e=>by rw[e]at hq;cases hq
     have i:b=b.dropLast++[b.getLast f]:=(List.dropLast_concat_getLast f).symm;rw[i,<-List.cons_append,<-jj]at h;have:=(List.append_inj' h rfl).2;simp at this;exact absurd (this▸List.getLast_mem f) m
   ·rw[if_neg hx];rw[d]at h;cases hq:b.getLast? with
    | none =>
     have:b=[]:=List.getLast?_eq_none_iff.1 hq;subst this;have:=(List.append_inj' h rfl).2;simp at this;exact absurd this hx
    | some y =>
     have f:b≠[]:=fun e=>by rw[e]at hq;cases hq
     have i:b=b.dropLast++[b.getLast f]:=(List.dropLast_concat_getLast f).symm;rw[i,<-List.cons_append,<-jj]at h;have:=(List.append_inj' h rfl).1;exact i2 a b.dropLast this (fun e=>m (by rw[List.dropLast_eq_take]at e;exact List.mem_of_mem_take e))
theorem X4l (l:List UInt8) (e:l.length<1000000):(32∉l->Xq (mkB l) 32=some (-1))/\(∀a b,l=a++32::b->32∉b->Xq (mkB l) 32=some (a.length:Int)):=by
 rw[X1J];unfold Xy;rw[W0];unfold X6;have w:IntKind.wrap .i64 (((mkB l).size:Int)-1)=(l.length:Int)-1:=by rw[X1,w64]<;>omega
 rw[w];obtain⟨d,c⟩:=X5b 32 32 rfl l e l.length (Nat.le_refl _) (fun o250=>Sum.elim (fun y251=>some y251) (fun y252=>some (-1)) o250) (fun _=>rfl) (fun _=>rfl);rw[List.take_length]at d c;exact⟨fun h=>by rw[d h];rfl,fun a b h f=>by rw[c a b h f];rfl⟩
end Nore
open Go Go.Ab
namespace Nore
theorem X5a (n:Nat) (h:n<10):Exists.choose Z9I [IntKind.wrap IntKind.u8 (IntKind.wrap IntKind.i64 (48+(n:Int)))]=true/\Exists.choose Zbj [IntKind.wrap IntKind.u8 (IntKind.wrap IntKind.i64 (48+(n:Int)))]=mkB (dg n):=by
 have w:IntKind.wrap IntKind.u8 (IntKind.wrap IntKind.i64 (48+(n:Int)))=(((UInt8.ofNat (48+n)).toNat:Nat):Int):=by
  rw[w64 (by omega) (by omega),X4P h]
  simp only[IntKind.wrap,IntKind.signed,IntKind.bits];simp;omega
 rw[w,X3z h];exact⟨X4G [UInt8.ofNat (48+n)],X4Q [UInt8.ofNat (48+n)]⟩
theorem X3A:∀(k m:Nat) (r:ByteArray),m<1000000000->ZgG WY k ((m:Int),())=some r->r=mkB (dg m)
 | 0,_,_,_,h=>by cases h
 | k+1,m,r,hm,h=>by
  replace h:WX (ZgG WY k) (m:Int)=some r:=h;unfold WX at h;have c1:decide ((m:Int)<0)=false:=by simp
  rw[c1,jA]at h
  by_cases hs:m<10
  ·have c2:decide ((m:Int)<10)=true:=by simp;omega
   obtain⟨b1,b2⟩:=X5a m hs;rw[c2,jB,b1,jB,b2]at h;cases h;rfl
  ·have c2:decide ((m:Int)<10)=false:=by simp;omega
   rw[c2,jA]at h;have w:IntKind.wrap IntKind.i64 (Int.tdiv (m:Int) 10)=((m / 10:Nat):Int):=by
    rw[Int.tdiv_eq_ediv_of_nonneg (by omega),w64]<;>omega
   have w2:Int.tmod (m:Int) 10=((m % 10:Nat):Int):=by
    rw[Int.tmod_eq_emod_of_nonneg (by omega)];omega
   rw[w,w2]at h;obtain⟨r1,b,h⟩:=Z0 h;obtain⟨r2,a,h⟩:=Z0 h;obtain⟨_,h⟩:=Z1 h;cases h;rw[X3A k (m / 10) r1 (by omega) b,X3A k (m % 10) r2 (by omega) a,X2y,X5F hs,X3z (n:=m % 10) (by omega)]
theorem X4V:∀(k m:Nat),m<10 ^ (k+1)->m<1000000000->∃r,ZgG WY (k+1) ((m:Int),())=some r
 | k,m,hk,hm=>by
  show ∃r,WX (ZgG WY k) (m:Int)=some r;unfold WX;have c1:decide ((m:Int)<0)=false:=by simp
  rw[c1,jA]
  by_cases hs:m<10
  ·have c2:decide ((m:Int)<10)=true:=by simp;omega
   obtain⟨b1,b2⟩:=X5a m hs;rw[c2,jB,b1,jB];exact⟨_,rfl⟩
  ·cases k with
   | zero=>exact absurd (by simpa using hk) hs
   | succ k =>
    have c2:decide ((m:Int)<10)=false:=by simp;omega
    rw[c2,jA];have w:IntKind.wrap IntKind.i64 (Int.tdiv (m:Int) 10)=((m / 10:Nat):Int):=by
     rw[Int.tdiv_eq_ediv_of_nonneg (by omega),w64]<;>omega
    have w2:Int.tmod (m:Int) 10=((m % 10:Nat):Int):=by
     rw[Int.tmod_eq_emod_of_nonneg (by omega)];omega
    have p1:10 ^ 1<=10 ^ (k+1):=Nat.pow_le_pow_right (by omega) (by omega)
    obtain⟨r1,b⟩:=X4V k (m / 10) (by rw[Nat.pow_succ]at hk;omega) (by omega)
    obtain⟨r2,a⟩:=X4V k (m % 10) (by omega) (by omega)
    rw[w,w2,b,a];simp only[jS];have e1:=X3A _ _ _ (by omega) b
    have e2:=X3A _ _ _ (by omega) a
    have l1:=X4x 8 (m / 10) (by omega)
    have l2:=X4x 8 (m % 10) (by omega)
    have:Nat.ble (ByteArray.size r1+ByteArray.size r2) 1099511627776=true:=Nat.ble_eq_true_of_le (by rw[e1,e2,X1,X1];omega)
    rw[this];exact⟨_,rfl⟩
theorem X5G (m:Nat) (h:m<1000000000):W3 (m:Int)=some (mkB (dg m)):=by
 unfold W3;refine ZlL (fun n r hr=>X3A n m r h hr) ?_;obtain⟨r,hr⟩:=X4V 8 m (by omega) h
 exact⟨_,r,hr⟩
def X4M (l:List UInt8):Int:=if l.length=0\/9<l.length\/(1<l.length/\l.head? = some 48)\/l.all X24=false then -1 else(X3V 0 l:Int)
theorem Zhq {α:Type} {l:List α} {i:Nat} (h:i<l.length):l.drop i=l[i]::l.drop (i+1):=jb h
theorem X6l (l:List UInt8) (g:l.length<=9) (k:Int⊕Int->Option Int) (c:∀y,k (.inl y)=some y) (e:∀y,k (.inr y)=some y) :
  Option.bind (W6 (mkB l) (0,0)) k=some (if l.all X24=false then -1 else(X3V 0 l:Int)):=by
 unfold W6;have key:=Xw (WT (mkB l)) k l.length (fun i (a:Nat)=>((a:Int),(i:Int))) (fun i a=>i<=9/\a<10 ^ i)
  (fun i a=>some (if(l.drop i).all X24=false then -1 else(X3V a (l.drop i):Int)))
  (by
   intro a _ R;have c1:decide ((l.length:Int)<((mkB l).size:Int))=false:=by rw[X1];simp
   simp only[WT,X1k,c1,jA,jS,jy,e];simp[X5E])
  (by
   intro i a hi b R f;have c1:decide ((i:Int)<((mkB l).size:Int))=true:=by rw[X1];simp;omega
   have c2:decide ((0:Int)<=(i:Int))=true:=by simp
   simp only[WT,X1k,c1,c2,ju,jB,X2,kS,Xt _ _ _ hi];rw[Zhq hi];simp only[jt]
   by_cases q1:(l[i].toNat:Int)<48
   ·have:X24 l[i]=false:=by simp[X24];omega
    simp[q1,c,this]
   ·by_cases q2:(l[i].toNat:Int)>57
    ·have:X24 l[i]=false:=by simp[X24];omega
     simp[q1,q2,c,this]
    ·have d:X24 l[i]=true:=by simp[X24];omega
     have h:a<1000000000:=Nat.lt_of_lt_of_le b.2 (by have:10 ^ i<=10 ^ 9:=Nat.pow_le_pow_right (by omega) b.1;omega)
     have w1:IntKind.wrap .u8 ((l[i].toNat:Int)-48)=((l[i].toNat-48:Nat):Int):=by
      simp only[IntKind.wrap,IntKind.signed,IntKind.bits];simp;omega
     have w2:IntKind.wrap .i64 (IntKind.wrap .i64 (10*(a:Int))+IntKind.wrap .i64 (((l[i].toNat-48:Nat):Int)))=((10*a+(l[i].toNat-48):Nat):Int):=by
      rw[w64 (x:=10*(a:Int)) (by omega) (by omega),w64 (x:=((l[i].toNat-48:Nat):Int)) (by omega) (by omega),w64]<;>omega
     have w3:=wS i (by omega)
     simp only[q1,q2,decide_false,jA,w1,w2,w3,jS,jw,d,Bool.true_and];rw[f (10*a+(l[i].toNat-48)) ⟨by omega,by rw[Nat.pow_succ];omega⟩,X3U])
 have:=key 0 0 (by omega) ⟨by omega,by simp⟩
 simpa using this
theorem X5z (l:List UInt8) (g:l.length<1000000):Xp (mkB l)=some (X4M l):=by
 rw[X4D];unfold X1n;rw[X38,X1];simp only[jS];unfold X4M
 by_cases f:l.length=0\/9<l.length
 ·have:inN (l.length:Int) 1 9=false:=by simp[inN];omega
  rw[this];simp only[Bool.not_false,jB];rw[if_pos (by rcases f with h|h;exact .inl h;exact .inr (.inl h))]
 ·have i:1<=l.length/\l.length<=9:=by omega
  have:inN (l.length:Int) 1 9=true:=by simp[inN];omega
  rw[this];simp only[Bool.not_true,jA];have c0:decide ((0:Nat)<=0)=true:=by simp
  have c1:decide ((0:Int)<(l.length:Int))=true:=by simp;omega
  have lp:∀k:Int⊕Int->Option Int,(∀y,k (.inl y)=some y)->(∀y,k (.inr y)=some y)->Option.bind (W6 (mkB l) (0,0)) k=some (if l.all X24=false then -1 else(X3V 0 l:Int)):=fun k a b=>X6l l (by omega) k a b
  rw[lp _ (fun _=>rfl) (fun _=>rfl)];have c:0<l.length:=by omega
  have d:(mkB l).toList.getD (Int.toNat 0) 0=l[0]:=by rw[X2];exact Xt _ _ _ c
  have hh:l.head? = some l[0]:=by rw[List.head?_eq_getElem?,List.getElem?_eq_getElem c]
  rw[d,hh,c0,c1];simp only[ju,jB]
  by_cases h3:1<l.length
  ·have c2:decide ((l.length:Int)>1)=true:=by simp;omega
   rw[c2,jB]
   by_cases h4:l[0]=48
   ·have:((l[0].toNat:Int)==48)=true:=by rw[h4];rfl
    rw[this,jB,if_pos (.inr (.inr (.inl ⟨h3,by rw[h4]⟩)))]
   ·have:((l[0].toNat:Int)==48)=false:=by
     rw[beq_eq_false_iff_ne];intro e;exact h4 (UInt8.toNat_inj.1 (by have:(48:UInt8).toNat=48:=rfl;omega))
    rw[this,jA];congr 1
    by_cases h5:l.all X24=false
    ·rw[if_pos h5,if_pos (.inr (.inr (.inr h5)))]
    ·rw[if_neg h5,if_neg];rintro(h|h|h|h)
     ·omega
     ·omega
     ·exact h4 (by simpa using h.2)
     ·exact h5 h
  ·have c2:decide ((l.length:Int)>1)=false:=by simp;omega
   rw[c2,jA];congr 1
   by_cases h5:l.all X24=false
   ·rw[if_pos h5,if_pos (.inr (.inr (.inr h5)))]
   ·rw[if_neg h5,if_neg];rintro(h|h|h|h)
    ·omega
    ·omega
    ·omega
    ·exact h5 h
theorem X6H {n:Nat} (h:n<1000000000):X4M (dg n)=(n:Int):=by
 obtain⟨c,b,d,a,_⟩:=X4j n;have:=X4x 8 n (by omega)
 unfold X4M;rw[if_neg,d];rintro(q|q|q|q)
 ·exact b (List.eq_nil_of_length_eq_zero q)
 ·omega
 ·rcases a with a|a
  ·omega
  ·exact a q.2
 ·rw[c]at q;cases q
theorem X6k (l:List UInt8) (c:UInt8) (m:l.length<1000000) (k:Int×List ByteArray->Option (List ByteArray))
  (j:∀(f:Nat) (o:List ByteArray),f<=l.length->o.length<=l.length->k ((f:Int),o)=some (o++[mkB (l.drop f)])) :
  Option.bind (X2v (c.toNat:Int) (mkB l) (0,0,[])) k=some ((Zhn c l).map mkB):=by
 unfold X2v;have key:=Xw (X1M (c.toNat:Int) (mkB l)) k l.length (fun i (v:Nat×List ByteArray)=>((i:Int),(v.1:Int),v.2)) (fun i v=>v.1<=i/\c∉(l.take i).drop v.1/\v.2.length<=i)
  (fun i v=>some (v.2++(Zhn c (l.drop v.1)).map mkB))
  (by
   intro v a R;have c1:decide ((l.length:Int)<((mkB l).size:Int))=false:=by rw[X1];simp
   simp only[X1M,X2e,c1,jA,jS,jy];rw[j _ _ a.1 a.2.2,X2T (by have:=a.2.1;rwa [List.take_length]at this)]
   rfl)
  (by
   intro i v hi a R h;obtain⟨f,o⟩:=v;simp only at a⊢;have c1:decide ((i:Int)<((mkB l).size:Int))=true:=by rw[X1];simp;omega
   have c2:decide ((0:Int)<=(i:Int))=true:=by simp
   have w3:=wS i (by omega)
   simp only[X1M,X2e,c1,c2,ju,jB,X2,kS,Xt _ _ _ hi,w3];have d:l.take (i+1)=l.take i++[l[i]]:=List.take_succ_eq_append_getElem hi;have b:(l.take i).length=i:=by rw[List.length_take];omega
   by_cases hc:l[i]=c
   ·have q:((l[i].toNat:Int)==(c.toNat:Int))=true:=by rw[hc];simp
    have c3:decide ((i:Int)<=((mkB l).size:Int))=true:=by rw[X1];simp;omega
    have c4:decide ((0:Int)<=(f:Int))=true:=by simp
    have c5:decide ((f:Int)<=(i:Int))=true:=by simp;exact a.1
    have c6:Nat.ble ((o.length+[(mkB l).extract f i].length)*(16+1)) 200000000000000=true:=Nat.ble_eq_true_of_le (by simp;omega)
    simp only[q,c3,c4,c5,c6,ju,jB,jS,jw];rw[h (i+1,o++[(mkB l).extract f i]) ⟨Nat.le_refl _,by simp[jd],by simp;omega⟩,X2d]
    have g:l.drop f=(l.take i).drop f++c::l.drop (i+1):=by
     conv=>lhs;rw[<-List.take_append_drop i l]
     rw[List.drop_append_of_le_length (by rw[b];exact a.1),Zhq hi,hc]
    rw[g,WO a.2.1];simp
   ·have q:((l[i].toNat:Int)==(c.toNat:Int))=false:=by
     rw[beq_eq_false_iff_ne];intro e;exact hc (UInt8.toNat_inj.1 (by omega))
    simp only[q,jA,jS,jw];rw[h (f,o) ⟨by simp only;omega,?_,by simp only;omega⟩]
    simp only;rw[d,List.drop_append_of_le_length (by rw[b];exact a.1)]
    simp only[List.mem_append,List.mem_singleton,not_or];exact⟨a.2.1,fun e=>hc e.symm⟩)
 have:=key 0 (0,[]) (by omega) ⟨by simp,by simp,by simp⟩
 simpa using this
theorem X5Q (l:List UInt8) (c:UInt8) (n:Int) (d:n=(c.toNat:Int)) (b:l.length<1000000):X3R (mkB l) n=some ((Zhn c l).map mkB):=by
 subst d;rw[X5q];unfold X2z;refine X6k l c b _ fun f o a e=>?_;have c1:decide ((0:Int)<=(f:Int))=true:=by simp
 have c2:decide ((f:Int)<=((mkB l).size:Int))=true:=by rw[X1];simp;exact a
 simp only[c1,c2,ju,jB,kS];have c6:Nat.ble ((o.length+[(mkB l).extract f (mkB l).size].length)*(16+1)) 200000000000000=true:=Nat.ble_eq_true_of_le (by simp;omega)
 rw[c6,jB,X2d,X1,List.take_length]
theorem X6u {b:Int} {c:UInt8} (a:0<=b) (d:b<65521):Int.tmod (IntKind.wrap .i64 (IntKind.wrap .i64 (b*257)+IntKind.wrap .i64 (c.toNat:Int))) 65521=(b*257+(c.toNat:Int)) % 65521:=by
 have:=c.toNat_lt;rw[w64 (x:=b*257) (by omega) (by omega),w64 (x:=(c.toNat:Int)) (by omega) (by omega),w64 (by omega) (by omega),Int.tmod_eq_emod_of_nonneg (by omega)]
theorem X4v (l:List UInt8) (b:Int) (g:l.length<1000000) (f:0<=b) (d:b<65521):X1T b (mkB l)=some (Wc b l):=by
 rw[X3Y];unfold X1r X29;rw[X1];have key:=Xw (Wn (l.length:Int) (mkB l)) (fun o=>some o) l.length (fun i (a:Int)=>(a,(i:Int))) (fun i a=>0<=a/\a<65521)
  (fun i a=>some (Wc a (l.drop i)))
  (by
   intro a _ R;simp[Wn,Ww,Wc])
  (by
   intro i a hi c R e;have c1:decide ((i:Int)<((mkB l).size:Int))=true:=by rw[X1];simp;omega
   have c2:decide ((0:Int)<=(i:Int))=true:=by simp
   have c3:decide ((i:Int)<(l.length:Int))=true:=by simp;omega
   have w3:=wS i (by omega)
   simp only[Wn,Ww,c1,c2,c3,ju,jB,X2,kS,Xt _ _ _ hi,w3,X6u c.1 c.2,jS,jw];rw[e _ ⟨Int.emod_nonneg _ (by decide),Int.emod_lt_of_pos _ (by decide)⟩,Zhq hi];rfl)
 have:=key 0 b (by omega) ⟨f,d⟩
 simpa using this
theorem X61 (l:List UInt8) (b:Int) (g:l.length<1000000) (f:0<=b) (e:b<65521):X4f b (mkB l)=some (Wc b l):=by
 rw[X56];unfold X2i X39;have key:=Xw (X1B (mkB l)) (fun o=>some o) l.length (fun i (a:Int)=>((i:Int),a)) (fun i a=>0<=a/\a<65521)
  (fun i a=>some (Wc a (l.drop i)))
  (by
   intro a _ R;have c1:decide ((l.length:Int)<((mkB l).size:Int))=false:=by rw[X1];simp
   simp only[X1B,X1Z,c1,jA,jS,jy];simp[Wc])
  (by
   intro i a hi c R d;have c1:decide ((i:Int)<((mkB l).size:Int))=true:=by rw[X1];simp;omega
   have c2:decide ((0:Int)<=(i:Int))=true:=by simp
   have w3:=wS i (by omega)
   simp only[X1B,X1Z,c1,c2,ju,jB,X2,kS,Xt _ _ _ hi,w3,X6u c.1 c.2,jS,jw];rw[d _ ⟨Int.emod_nonneg _ (by decide),Int.emod_lt_of_pos _ (by decide)⟩,Zhq hi];rfl)
 have:=key 0 b (by omega) ⟨f,e⟩
 simpa using this
end Nore
open Go Go.Ab
namespace Nore
def X2Z (ns:List Int):List UInt8:=ns.flatMap fun n=>32::dg n.toNat
theorem X4d (n:Int) (ns:List Int):X2Z (n::ns)=32::(dg n.toNat++X2Z ns):=rfl
theorem X4C:X2Z []=[]:=rfl
def X11 (n:Int):Prop:=0<=n/\n<100000
theorem X11.len {n:Int} (h:X11 n):(dg n.toNat).length<=5:=X4x 4 n.toNat (by have:=h.2;omega)
theorem X11.itoa {n:Int} (h:X11 n):W4 n=some (mkB (dg n.toNat)):=by
 have:=X6o n.toNat (by have:=h.2;omega)
 rwa [Int.toNat_of_nonneg h.1]at this
theorem X11.digits {n:Int} (h:X11 n):W3 n=some (mkB (dg n.toNat)):=by
 have:=X5G n.toNat (by have:=h.2;omega)
 rwa [Int.toNat_of_nonneg h.1]at this
theorem X4B:∀(ns:List Int),(∀n∈ns,X11 n)->(X2Z ns).length<=6*ns.length
 | [],_=>by simp[X4C]
 | n::ns,h=>by
  have b:=(h n (by simp)).len
  have c:=X4B ns fun m a=>h m (by simp[a])
  rw[X4d];simp;omega
structure X4r (d:Zh):Prop where
 name:X2Y d.Name=true
 st:X11 d.States
 fi:X11 d.First
structure X52 (x:Zl):Prop where
 dev:X11 x.Device
 st:X11 x.State
 lo:X11 x.At.Lo
 hi:X11 x.At.Hi
structure X67 (r:CoRecord):Prop where
 some:1<=r.Devices.length
 few:r.Devices.length<=4
 many:r.Entries.length<=10
 devs:∀d∈r.Devices,X4r d
 ents:∀x∈r.Entries,X52 x
def WZ (d:Zh):List UInt8:=[100,101,118,105,99,101]++32::(d.Name.toList++X2Z [d.States,d.First])
def X1b (x:Zl):List UInt8:=[101,110,116,114,121]++X2Z [x.Device,x.State,x.At.Lo,x.At.Hi]
def X3a (r:CoRecord):List (List UInt8):=r.Devices.map WZ++r.Entries.map X1b
def W2:Int->List (List UInt8)->List UInt8
 | _,[]=>[]
 | s,w::ws=>w++32::(dg (Wc s w).toNat++10::W2 (Wc s w) ws)
def X23:Int->List (List UInt8)->Int
 | s,[]=>s
 | s,w::ws=>X23 (Wc s w) ws
theorem X5j:∀(a b:List (List UInt8)) (s:Int),W2 s (a++b)=W2 s a++W2 (X23 s a) b
 | [],b,s=>rfl
 | w::a,b,s=>by simp[W2,X23,X5j a b]
theorem X4q:∀(a:List (List UInt8)) (s:Int),0<=s->s<65521->0<=X23 s a/\X23 s a<65521
 | [],s,h1,h2=>⟨h1,h2⟩
 | w::a,s,h1,h2=>by
  have:=W8 w s h1 h2;exact X4q a _ this.1 this.2
def X10 (r:CoRecord):List UInt8:=W2 0 (X3a r)
theorem X4A {d:Zh} (h:X4r d):d.Name.toList.length<=14:=by
 have:=h.name;unfold X2Y at this;simp only[jn,jk]at this;rw[W9];exact this.1
theorem X4o {d:Zh} (h:X4r d):(WZ d).length<=40:=by
 have b:=X4A h;have a:=X4B [d.States,d.First] (by simp;exact⟨h.st,h.fi⟩)
 unfold WZ;simp at a⊢;omega
theorem X4p {x:Zl} (h:X52 x):(X1b x).length<=40:=by
 have a:=X4B [x.Device,x.State,x.At.Lo,x.At.Hi] (by simp;exact⟨h.dev,h.st,h.lo,h.hi⟩)
 unfold X1b;simp at a⊢;omega
theorem X3T:∀(ws:List (List UInt8)) (s:Int),0<=s->s<65521->(∀w∈ws,w.length<=40)->(W2 s ws).length<=50*ws.length
 | [],_,_,_,_=>by simp[W2]
 | w::ws,s,h1,h2,h=>by
  have c:=h w (by simp)
  have a:=W8 w s h1 h2;have:=X3T ws _ a.1 a.2 fun v hv=>h v (by simp[hv])
  have b:(dg (Wc s w).toNat).length<=5:=X4x 4 _ (by omega)
  simp[W2];omega
theorem X69 {a b:Nat} (h:a<b):Nat.blt a b=true:=by
 show Nat.ble _ _=true;exact Nat.ble_eq_true_of_le h
theorem XP {a b:Nat} (h:a<=b):Nat.ble a b=true:=Nat.ble_eq_true_of_le h
theorem X5v (ns:List Int) (c:∀n∈ns,X11 n) (g:ns.length<=4) (w:List UInt8) (f:w.length<=1000) {β:Type} (k:ByteArray->Option β) :
  Option.bind (WN (ns.length:Int) ns (mkB w,0)) k=k (mkB (w++X2Z ns)):=by
 unfold WN;have key:=Xw (Wp (ns.length:Int) ns) k ns.length (fun i (w:List UInt8)=>(mkB w,(i:Int))) (fun i w=>w.length<=1000+6*i)
  (fun i w=>k (mkB (w++X2Z (ns.drop i))))
  (by
   intro w _ R;simp[Wp,Wy,X4C])
  (by
   intro i w hi h R d;have a:=c _ (jl hi);have c2:decide ((0:Int)<=(i:Int))=true:=by simp
   have c3:decide ((i:Int)<(ns.length:Int))=true:=by simp;omega
   have w3:=wS i (by omega)
   have b:=a.len;simp only[Wp,Wy,c2,c3,ju,jB,kS,X69 hi,Xt _ _ _ hi,a.itoa,jS];have e:(⟨#[32]⟩:ByteArray)=mkB [32]:=rfl;rw[e,X2y,X2y,X1,X1,X1,X1,XP (by simp;omega),XP (by simp;omega)]
   simp only[jB,w3,jS,jw];rw[d _ (by simp;omega),Zhq hi,X4d]
   simp)
 have:=key 0 w (by omega) (by omega)
 simpa using this
theorem X6j:X2a=WN:=rfl
abbrev toI (l:List UInt8):List Int:=l.map fun b=>(b.toNat:Int)
theorem X5V (a b:List UInt8):toI a++toI b=toI (a++b):=by simp[toI]
theorem X6h (ds:List Zh) (h:∀d∈ds,X4r d) (o:ds.length<=4) {β:Type} (k:Int×List Int->Option β) :
  Option.bind (X1l (ds.length:Int) ds (0,0,[])) k=k (X23 0 (ds.map WZ),toI (W2 0 (ds.map WZ))):=by
 unfold X1l;have key:=Xw (Wo (ds.length:Int) ds) k ds.length (fun i (v:Int×List UInt8)=>((i:Int),v.1,toI v.2)) (fun i v=>(0<=v.1/\v.1<65521)/\v.2.length<=50*i)
  (fun i v=>k (X23 v.1 ((ds.drop i).map WZ),toI (v.2++W2 v.1 ((ds.drop i).map WZ))))
  (by
   intro v _ R;simp[Wo,Wx,X23,W2])
  (by
   intro i v hi e R m;obtain⟨s,b⟩:=v;simp only at e⊢;have g:=h _ (jl hi);have c2:decide ((0:Int)<=(i:Int))=true:=by simp
   have c3:decide ((i:Int)<(ds.length:Int))=true:=by simp;omega
   have w3:=wS i (by omega)
   have n:=X4A g;simp only[Wo,Wx,c2,c3,ju,jB,kS,Xt _ _ _ hi];have e1:(⟨#[100,101,118,105,99,101,32]⟩:ByteArray)=mkB [100,101,118,105,99,101,32]:=rfl;have e2:(ds[i]).Name=mkB (ds[i]).Name.toList:=(X4z _).symm;have e3:(⟨#[32]⟩:ByteArray)=mkB [32]:=rfl;have e4:(⟨#[10]⟩:ByteArray)=mkB [10]:=rfl;rw[e1,e3,e4];rw[show mkB [100,101,118,105,99,101,32]++(ds[i]).Name=mkB ([100,101,118,105,99,101,32]++(ds[i]).Name.toList) by rw[<-X2y,X4z]]
   rw[XP (by rw[X1,<-W9];simp;omega),jB]
   rw[X5v [(ds[i]).States,(ds[i]).First] (by simp;exact⟨g.st,g.fi⟩) (by simp) _ (by simp;omega)]
   have f:[100,101,118,105,99,101,32]++(ds[i]).Name.toList++X2Z [(ds[i]).States,(ds[i]).First]=WZ ds[i]:=by simp[WZ]
   rw[f];have j:=X4o g;have c:=W8 (WZ ds[i]) s e.1.1 e.1.2;have a:X11 (Wc s (WZ ds[i])):=⟨c.1,by omega⟩
   have l:=a.len;rw[X4v _ _ (by omega) e.1.1 e.1.2]
   simp only[jS,a.itoa];simp only[X2y,X1];rw[XP (by simp;omega),XP (by simp;omega),XP (by simp;omega)]
   simp only[jB,X59,List.length_map];rw[XP (by simp;omega)]
   simp only[jB,jS,jw,w3,X5V];rw[m (Wc s (WZ ds[i]),b++(WZ ds[i]++[32]++dg (Wc s (WZ ds[i])).toNat++[10])) ⟨c,by simp;omega⟩,Zhq hi]
   simp only[jr,X23,W2,jj,List.cons_append,List.nil_append])
 have:=key 0 (0,[]) (by omega) ⟨by simp,by simp⟩
 simpa using this
theorem X6i (es:List Zl) (h:∀x∈es,X52 x) (o:es.length<=10) (s0:Int) (b0:List UInt8) (g:0<=s0/\s0<65521) (j:b0.length<=1000) {β:Type} (k:Int×List Int->Option β) :
  Option.bind (X1m (es.length:Int) es (0,s0,toI b0)) k=k (X23 s0 (es.map X1b),toI (b0++W2 s0 (es.map X1b))):=by
 unfold X1m;have key:=Xw (Wq (es.length:Int) es) k es.length (fun i (v:Int×List UInt8)=>((i:Int),v.1,toI v.2)) (fun i v=>(0<=v.1/\v.1<65521)/\v.2.length<=1000+50*i)
  (fun i v=>k (X23 v.1 ((es.drop i).map X1b),toI (v.2++W2 v.1 ((es.drop i).map X1b))))
  (by
   intro v _ R;simp[Wq,Wz,X23,W2])
  (by
   intro i v hi e R n;obtain⟨s,b⟩:=v;simp only at e⊢;have c:=h _ (jl hi);have c2:decide ((0:Int)<=(i:Int))=true:=by simp
   have c3:decide ((i:Int)<(es.length:Int))=true:=by simp;omega
   have w3:=wS i (by omega)
   simp only[Wq,Wz,c2,c3,ju,jB,kS,Xt _ _ _ hi,X6j];have e1:(⟨#[101,110,116,114,121]⟩:ByteArray)=mkB [101,110,116,114,121]:=rfl;have e3:(⟨#[32]⟩:ByteArray)=mkB [32]:=rfl;have e4:(⟨#[10]⟩:ByteArray)=mkB [10]:=rfl;rw[e1,e3,e4];rw[X5v [(es[i]).Device,(es[i]).State,(es[i]).At.Lo,(es[i]).At.Hi] (by simp;exact⟨c.dev,c.st,c.lo,c.hi⟩) (by simp) _ (by simp)]
   have f:[101,110,116,114,121]++X2Z [(es[i]).Device,(es[i]).State,(es[i]).At.Lo,(es[i]).At.Hi]=X1b es[i]:=rfl;rw[f];have l:=X4p c;have d:=W8 (X1b es[i]) s e.1.1 e.1.2;have a:X11 (Wc s (X1b es[i])):=⟨d.1,by omega⟩
   have m:=a.len;rw[X4v _ _ (by omega) e.1.1 e.1.2]
   simp only[jS,a.itoa];simp only[X2y,X1];rw[XP (by simp;omega),XP (by simp;omega),XP (by simp;omega)]
   simp only[jB,X59,List.length_map];rw[XP (by simp;omega)]
   simp only[jB,jS,jw,w3,X5V];rw[n (Wc s (X1b es[i]),b++(X1b es[i]++[32]++dg (Wc s (X1b es[i])).toNat++[10])) ⟨d,by simp;omega⟩,Zhq hi]
   simp only[jr,X23,W2,jj,List.cons_append,List.nil_append])
 have:=key 0 (s0,b0) (by omega) ⟨g,by simp;omega⟩
 simpa using this
theorem X2V {r:CoRecord} (h:X67 r):X18 r=some (mkB (X10 r)):=by
 rw[X42];unfold X1t;rw[X6h r.Devices h.devs h.few];have e:=X4q (r.Devices.map WZ) 0 (by decide) (by decide)
 have i:=X3T (r.Devices.map WZ) 0 (by decide) (by decide) (by
  intro w c;obtain⟨d,b,rfl⟩:=List.mem_map.1 c;exact X4o (h.devs d b))
 have f:=X3T (r.Entries.map X1b) (X23 0 (r.Devices.map WZ)) e.1 e.2 (by
  intro w c;obtain⟨d,b,rfl⟩:=List.mem_map.1 c;exact X4p (h.ents d b))
 rw[List.length_map]at i f;have l:=h.few;have k:=h.many;simp only;rw[X6i r.Entries h.ents h.many _ _ e (by omega)]
 have ht:W2 0 (r.Devices.map WZ)++W2 (X23 0 (r.Devices.map WZ)) (r.Entries.map X1b)=X10 r:=by
  unfold X10 X3a;rw[X5j]
 rw[ht];have j:(X10 r).length<=1000:=by rw[<-ht];simp;omega
 have a:X10 r≠[]:=by
  unfold X10 X3a;cases hq:r.Devices with
  | nil=>have:=h.some;rw[hq]at this;simp at this
  | cons d ds=>simp[W2,WZ]
 have g:0<(X10 r).length:=by
  cases hq:X10 r with
  | nil=>exact absurd hq a
  | cons x xs=>simp
 have c1:List.isEmpty (toI (X10 r))=false:=by simp[a]
 simp only[c1,jA,List.length_map,X69 g,XP (show(X10 r).length<=200000000000000 by omega),X4G,X4Q]
 simp
theorem X6q (r:CoRecord) (c:∀d∈r.Devices,X4r d) (g:r.Devices.length<=4) {β:Type} (k:List ByteArray->Option β) :
  Option.bind (X2j r (0,[])) k=k ((r.Devices.map WZ).map mkB):=by
 unfold X2j;have key:=Xw (X1C r) k r.Devices.length (fun i (v:List (List UInt8))=>((i:Int),v.map mkB)) (fun i v=>v.length<=i)
  (fun i v=>k ((v++(r.Devices.drop i).map WZ).map mkB))
  (by
   intro v _ R;simp[X1C,X20])
  (by
   intro i v hi h R e;have a:=c _ (jl hi);have c2:decide ((0:Int)<=(i:Int))=true:=by simp
   have c3:decide ((i:Int)<(r.Devices.length:Int))=true:=by simp;omega
   have w3:=wS i (by omega)
   have f:=X4A a;have l1:=a.st.len;have l2:=a.fi.len;simp only[X1C,X20,c2,c3,ju,jB,kS,Xt _ _ _ hi];have e1:(⟨#[100,101,118,105,99,101,32]⟩:ByteArray)=mkB [100,101,118,105,99,101,32]:=rfl;have e3:(⟨#[32]⟩:ByteArray)=mkB [32]:=rfl;rw[e1,e3];rw[show mkB [100,101,118,105,99,101,32]++(r.Devices[i]).Name=mkB ([100,101,118,105,99,101,32]++(r.Devices[i]).Name.toList) by rw[<-X2y,X4z]]
   rw[XP (by rw[X1,<-W9];simp;omega),jB]
   simp only[a.st.digits,a.fi.digits,jS,X2y,X1];rw[XP (by simp;omega),XP (by simp;omega),XP (by simp;omega),XP (by simp;omega),XP (by simp;omega)]
   simp only[jB,jS,jw,w3];have b:[100,101,118,105,99,101,32]++(r.Devices[i]).Name.toList++[32]++dg (r.Devices[i]).States.toNat++[32]++dg (r.Devices[i]).First.toNat=WZ r.Devices[i]:=by simp[WZ,X2Z]
   rw[b];have:=e (v++[WZ r.Devices[i]]) (by simp;omega)
   rw[List.map_append]at this;rw[show [mkB (WZ r.Devices[i])]=[WZ r.Devices[i]].map mkB from rfl,this,Zhq hi];simp only[jr,jj,List.cons_append,List.nil_append])
 have:=key 0 [] (by omega) (by simp)
 simpa using this
theorem X6r (r:CoRecord) (c:∀x∈r.Entries,X52 x) (f:r.Entries.length<=10) (v0:List (List UInt8)) (d:v0.length<=10) {β:Type} (k:List ByteArray->Option β) :
  Option.bind (X2k r (0,v0.map mkB)) k=k ((v0++r.Entries.map X1b).map mkB):=by
 unfold X2k;have key:=Xw (X1D r) k r.Entries.length (fun i (v:List (List UInt8))=>((i:Int),v.map mkB)) (fun i v=>v.length<=10+i)
  (fun i v=>k ((v++(r.Entries.drop i).map X1b).map mkB))
  (by
   intro v _ R;simp[X1D,X21])
  (by
   intro i v hi g R e;have a:=c _ (jl hi);have c2:decide ((0:Int)<=(i:Int))=true:=by simp
   have c3:decide ((i:Int)<(r.Entries.length:Int))=true:=by simp;omega
   have w3:=wS i (by omega)
   have l1:=a.dev.len;have l2:=a.st.len;have l3:=a.lo.len;have l4:=a.hi.len;simp only[X1D,X21,c2,c3,ju,jB,kS,Xt _ _ _ hi];have e1:(⟨#[101,110,116,114,121,32]⟩:ByteArray)=mkB [101,110,116,114,121,32]:=rfl;have e3:(⟨#[32]⟩:ByteArray)=mkB [32]:=rfl;rw[e1,e3];simp only[a.dev.digits,a.st.digits,a.lo.digits,a.hi.digits,jS,X2y,X1];rw[XP (by simp;omega),XP (by simp;omega),XP (by simp;omega),XP (by simp;omega),XP (by simp;omega),XP (by simp;omega),XP (by simp;omega),XP (by simp;omega)]
   simp only[jB,jS,jw,w3];have b:[101,110,116,114,121,32]++dg (r.Entries[i]).Device.toNat++[32]++dg (r.Entries[i]).State.toNat++[32]++dg (r.Entries[i]).At.Lo.toNat++[32]++dg (r.Entries[i]).At.Hi.toNat=X1b r.Entries[i]:=by simp[X1b,X2Z]
   rw[b];have:=e (v++[X1b r.Entries[i]]) (by simp;omega)
   rw[List.map_append]at this;rw[show [mkB (X1b r.Entries[i])]=[X1b r.Entries[i]].map mkB from rfl,this,Zhq hi];simp only[jr,jj,List.cons_append,List.nil_append])
 have:=key 0 v0 (by omega) (by omega)
 simpa using this
theorem X6s (ws:List (List UInt8)) (f:∀w∈ws,w.length<=40) (l:ws.length<=20) {β:Type} (k:ByteArray->Option β) :
  Option.bind (X2l (ws.map mkB) (0,⟨#[]⟩,0)) k=k (mkB (W2 0 ws)):=by
 unfold X2l;have key:=Xw (X1E (ws.map mkB)) k ws.length (fun i (v:Int×List UInt8)=>(v.1,mkB v.2,(i:Int))) (fun i v=>(0<=v.1/\v.1<65521)/\v.2.length<=50*i)
  (fun i v=>k (mkB (v.2++W2 v.1 (ws.drop i))))
  (by
   intro v _ R;simp[X1E,X22,W2])
  (by
   intro i v hi e R j;obtain⟨s,b⟩:=v;simp only at e⊢;have g:=f _ (jl hi);have c2:decide ((0:Int)<=(i:Int))=true:=by simp
   have c3:decide ((i:Int)<((ws.map mkB).length:Int))=true:=by simp;omega
   have w3:=wS i (by omega)
   have d:i<(ws.map mkB).length:=by simpa using hi
   have c:=W8 ws[i] s e.1.1 e.1.2;have a:X11 (Wc s ws[i]):=⟨c.1,by omega⟩
   have h:=a.len;have e3:(⟨#[32]⟩:ByteArray)=mkB [32]:=rfl;have e4:(⟨#[10]⟩:ByteArray)=mkB [10]:=rfl;simp only[X1E,X22,c2,c3,ju,jB,kS,X69 d,Xt _ _ _ d,List.getElem_map];rw[X61 _ _ (by omega) e.1.1 e.1.2]
   simp only[jS,a.digits];rw[e3,e4];simp only[X2y,X1];rw[XP (by first|omega|(simp;omega)),XP (by first|omega|(simp;omega)),XP (by first|omega|(simp;omega)),XP (by first|omega|(simp;omega))]
   simp only[jB,jS,jw,w3];rw[j (Wc s ws[i],b++ws[i]++[32]++dg (Wc s ws[i]).toNat++[10]) ⟨c,by simp;omega⟩,Zhq hi]
   simp only[W2,jj,List.cons_append,List.nil_append])
 have:=key 0 (0,[]) (by omega) ⟨by simp,by simp⟩
 simpa using this
theorem X31 {r:CoRecord} (h:X67 r):X1x r=some (mkB (X10 r)):=by
 rw[X57];unfold X2m;have e:=h.few;have c:=h.many;rw[X6q r h.devs h.few,X6r r h.ents h.many _ (by simp;omega)]
 have a:∀w∈X3a r,w.length<=40:=by
  intro w a;rcases List.mem_append.1 a with a|a
  ·obtain⟨d,b,rfl⟩:=List.mem_map.1 a;exact X4o (h.devs d b)
  ·obtain⟨d,b,rfl⟩:=List.mem_map.1 a;exact X4p (h.ents d b)
 rw[show r.Devices.map WZ++r.Entries.map X1b=X3a r from rfl,X6s _ a (by unfold X3a;simp;omega)]
 rfl
end Nore
set_option maxHeartbeats 1000000
open Go Go.Ab
namespace Nore
theorem X4k (l:List UInt8):Wd (mkB l) 10=some (Lib.indexByte l 10):=X54 l 10 (by decide)
noncomputable def okW (w:List UInt8):Bool:=Exists.choose Zbg (mkB w)
noncomputable def vW (w:List UInt8):Int:=Exists.choose Zdm (mkB w)
theorem X6I {n:Nat} (h:n<1000000000):okW (dg n)=true:=by
 refine(Zbf (mkB (dg n))).trans ?_;unfold Zdj;rw[X5A,X5P (by omega)]
theorem X6K {n:Nat} (h:n<1000000000):vW (dg n)=(n:Int):=by
 refine(Zdl (mkB (dg n))).trans ?_;unfold Zdk;rw[X5A,X5P (by omega)]
theorem X5u (ws:List (List UInt8)) (c:∀w∈ws,w.length<=10000) (f:ws.length<=10000) {β:Type} (E:Option β) (k:(Int×List Int)⊕List Int->Option β) (d:∀l,k (.inl (6,l))=E) :
  Option.bind (Xr ((ws.map mkB).length:Int) (ws.map mkB) (0,[])) k=bif ws.all okW then k (.inr (ws.map vW))else E:=by
 unfold Xr;rw[List.length_map];have key:=Xw (Wm (ws.length:Int) (ws.map mkB)) k ws.length (fun i (o:List Int)=>((i:Int),o)) (fun i o=>o.length<=i)
  (fun i o=>bif(ws.drop i).all okW then k (.inr (o++(ws.drop i).map vW))else E)
  (by
   intro o _ R;simp[Wm,Wv])
  (by
   intro i o hi h R e;have b:i<(ws.map mkB).length:=by simpa using hi
   have g:=c _ (jl hi);have c2:decide ((0:Int)<=(i:Int))=true:=by simp
   have c3:decide ((i:Int)<(ws.length:Int))=true:=by simp;omega
   have c4:decide ((i:Int)<((ws.map mkB).length:Int))=true:=by simp;omega
   have w3:=wS i (by omega)
   simp only[Wm,Wv,c2,c3,c4,ju,jB,kS,Xt _ _ _ b,List.getElem_map];rw[X1,XP (show ws[i].length<=281474976710656 by omega),jB,Zhq hi]
   simp only[jt]
   by_cases hq:okW ws[i]=true
   ·have:Exists.choose Zbg (mkB ws[i])=true:=hq;simp only[this,jB];rw[XP (by simp;omega)]
    simp only[jB,jS,jw,w3];rw[e (o++[Exists.choose Zdm (mkB ws[i])]) (by simp;omega)]
    simp only[hq,Bool.true_and,jr,jj,List.cons_append,List.nil_append];rfl
   ·have a:okW ws[i]=false:=by simpa using hq
    have:Exists.choose Zbg (mkB ws[i])=false:=a;simp only[this,jA,jS,jy,d,a,Bool.false_and])
 have:=key 0 [] (by omega) (by simp)
 simpa using this
theorem X6e:X25=Xr:=rfl
theorem X6f:X26=Xr:=rfl
theorem X6g:X27=Xr:=rfl
def X1i:List UInt8:=[100,101,118,105,99,101]
def X1j:List UInt8:=[101,110,116,114,121]
def Xo:Option (CoRecord×Int):=some (CoRecord.mk [] [],6)
noncomputable def XQ (x0:ByteArray):(((Int×(List Zl)×ByteArray×(List Zh))⊕(Int×(List Zl)×ByteArray×(List Zh))⊕(Int×(List Zl)×ByteArray×(List Zh)×(List Int))⊕(Int×(List Zl)×ByteArray×(List Zh))⊕(Int×(List Zl)×ByteArray×(List Zh)×(List Int))⊕(Int×(List Zl)×ByteArray×(List Zh))⊕(Int×(List Zl)×ByteArray×(List Zh))⊕(Int×(List Int)×(List Zl)×ByteArray×(List Zh))⊕(Int×(List Zl)×ByteArray×(List Zh))⊕(Int×(List Int)×(List Zl)×ByteArray×(List Zh))⊕(Int×(List Zl)×ByteArray×(List Zh))⊕((List Zl)×ByteArray×(List Zh))))->Option (CoRecord×Int):=fun o187↦Sum.elim (fun y188↦some (CoRecord.mk [] [],y188.fst)) (fun y189↦Sum.elim (fun y190↦some (CoRecord.mk [] [],y190.fst)) (fun y191↦Sum.elim (fun y192↦some (CoRecord.mk [] [],y192.fst)) (fun y193↦Sum.elim (fun y194↦some (CoRecord.mk [] [],y194.fst)) (fun y195↦Sum.elim (fun y196↦some (CoRecord.mk [] [],y196.fst)) (fun y197↦Sum.elim (fun y198↦some (CoRecord.mk [] [],y198.fst)) (fun y199↦Sum.elim (fun y200↦some (CoRecord.mk [] [],y200.fst)) (fun y201↦Sum.elim (fun y202↦some (CoRecord.mk [] [],y202.fst)) (fun y203↦Sum.elim (fun y204↦some (CoRecord.mk [] [],y204.fst)) (fun y205↦Sum.elim (fun y206↦some (CoRecord.mk [] [],y206.fst)) (fun y207↦Sum.elim (fun y208↦some (CoRecord.mk [] [],y208.fst)) (fun y209↦Option.bind (WL (CoRecord.mk y209.snd.snd y209.fst)) fun r210↦bif r210.snd.snd==0 then Option.bind (X18 (CoRecord.mk y209.snd.snd y209.fst)) fun r211↦bif !ByteArray.toList r211==ByteArray.toList x0 then some (CoRecord.mk [] [],6)else some (CoRecord.mk y209.snd.snd y209.fst,0)else some (CoRecord.mk [] [],6)) y207) y205) y203) y201) y199) y197) y195) y193) y191) y189) o187
noncomputable def Fc (x0:ByteArray) (es:List Zl) (x:ByteArray) (ds:List Zh):Option (CoRecord×Int):=Option.bind (Wa (es,x,ds)) (XQ x0)
theorem X2U (x0:ByteArray):Wu x0=bif decide ((x0.size:Int)>2000)then some (CoRecord.mk [] [],3)else Fc x0 [] x0 []:=by
 rw[X3W];rfl
noncomputable def Gc (x0:ByteArray) (es:List Zl) (rest:ByteArray) (ds:List Zh):List (List UInt8)->Option (CoRecord×Int)
 | [w0,w1,w2,w3,w4]=>if w0=X1i then(bif okW w2&&(okW w3&&okW w4)then Fc x0 es rest (ds++[⟨mkB w1,vW w2,vW w3⟩])else Xo)else Xo
 | [w0,w1,w2,w3,w4,w5]=>if w0=X1j then(bif okW w1&&(okW w2&&(okW w3&&(okW w4&&okW w5)))then Fc x0 (es++[⟨vW w1,vW w2,⟨vW w3,vW w4⟩⟩]) rest ds else Xo)else Xo
 | _=>Xo
theorem ten:(⟨#[10]⟩:ByteArray)=mkB [10]:=rfl
theorem spc:(⟨#[32]⟩:ByteArray)=mkB [32]:=rfl
theorem X1V:(⟨#[100,101,118,105,99,101]⟩:ByteArray)=mkB X1i:=rfl
theorem X3c:(⟨#[101,110,116,114,121]⟩:ByteArray)=mkB X1j:=rfl
theorem X5o:X1j≠X1i:=by decide
theorem X6c (u v w:List UInt8) (h:∀x∈[u,v,w],x.length<=10000) {β:Type} (E:Option β) (k:(Int×List Int)⊕List Int->Option β) (a:∀l,k (.inl (6,l))=E) :
  Option.bind (Xr 3 [mkB u,mkB v,mkB w] (0,[])) k=bif okW u&&(okW v&&okW w)then k (.inr [vW u,vW v,vW w])else E:=by
 have:=X5u [u,v,w] h (by simp) E k a
 simpa using this
theorem X6d (u v w x y:List UInt8) (h:∀z∈[u,v,w,x,y],z.length<=10000) {β:Type} (E:Option β) (k:(Int×List Int)⊕List Int->Option β) (a:∀l,k (.inl (6,l))=E) :
  Option.bind (Xr 5 [mkB u,mkB v,mkB w,mkB x,mkB y] (0,[])) k=bif okW u&&(okW v&&(okW w&&(okW x&&okW y)))then k (.inr [vW u,vW v,vW w,vW x,vW y])else E:=by
 have:=X5u [u,v,w,x,y] h (by simp) E k a
 simpa using this
theorem X5l (x0:ByteArray) (es:List Zl) (ds:List Zh) (a rest:List UInt8) (e:10∉a) (g:(a++10::rest).length<=2000) (h:es.length<=100000) (f:ds.length<=100000) :
  Fc x0 es (mkB (a++10::rest)) ds=Gc x0 es (mkB rest) ds (Zhn 32 a):=by
 unfold Fc Wa;rw[X1h];simp only[Wl,XW];have b:(a++10::rest).length=a.length+rest.length+1:=by simp;omega
 have c0:decide (((mkB (a++10::rest)).size:Int)>0)=true:=by rw[X1,b];simp;omega
 have w1:IntKind.wrap .i64 ((a.length:Int)+1)=((a.length+1:Nat):Int):=by rw[w64]<;>omega
 have c1:decide ((a.length:Int)>=0)=true:=by simp
 have c2:decide ((0:Int)<=((a.length+1:Nat):Int))=true:=by simp;omega
 have c3:decide (((a.length+1:Nat):Int)<=((mkB (a++10::rest)).size:Int))=true:=by rw[X1,b];simp;omega
 have e1:(mkB (a++10::rest)).extract 0 (a.length+1)=mkB (a++[10]):=by
  rw[X2d,List.drop_zero];congr 2;rw[show a++10::rest=(a++[10])++rest by simp,List.take_left' (by simp)]
 have e2:(mkB (a++10::rest)).extract (a.length+1) (mkB (a++10::rest)).size=mkB rest:=by
  rw[X2d,X1,List.take_length];congr 2;rw[show a++10::rest=(a++[10])++rest by simp,List.drop_left' (by simp)]
 have e3:XD (mkB (a++[10])) (mkB [10])=some (mkB a):=by
  rw[X5D _ _ (by simp;omega)]
  rw[if_pos (by simp)]
  simp
 simp only[c0,jB,X4k,X3m e,jS,c1,w1,c2,c3,ju,kS,e1,e2,ten,e3,spc,X5i a 32 (by omega)]
 have c:∀w∈Zhn 32 a,w.length<=10000:=fun w c=>by have:=X2B 32 a w c;omega
 generalize Zhn 32 a=ws at c⊢;have b2:(X1j==X1i)=false:=by decide
 have b3:(X1i==X1i)=true:=by decide
 have b4:(X1j==X1j)=true:=by decide
 rcases ws with _|⟨w0,_|⟨w1,_|⟨w2,_|⟨w3,_|⟨w4,_|⟨w5,_|⟨w6,t⟩⟩⟩⟩⟩⟩⟩
 ·simp[XQ,Gc,Xo]
 ·simp[XQ,Gc,Xo]
 ·simp[XQ,Gc,Xo]
 ·by_cases h0:w0=X1i
  ·simp[XQ,Gc,Xo,X1V,X2,h0]
  ·have b0:(w0==X1i)=false:=by simpa using h0
   by_cases h1:w0=X1j
   ·simp[XQ,Gc,Xo,X1V,X3c,X2,h1,b2]
   ·have b1:(w0==X1j)=false:=by simpa using h1
    simp[XQ,Gc,Xo,X1V,X3c,X2,b0,b1]
 ·by_cases h0:w0=X1i
  ·simp[XQ,Gc,Xo,X1V,X2,h0]
  ·have b0:(w0==X1i)=false:=by simpa using h0
   by_cases h1:w0=X1j
   ·simp[XQ,Gc,Xo,X1V,X3c,X2,h1,b2]
   ·have b1:(w0==X1j)=false:=by simpa using h1
    simp[XQ,Gc,Xo,X1V,X3c,X2,b0,b1]
 ·by_cases h0:w0=X1i
  ·simp only[Gc,h0,if_true];simp[X1V,X2];rw[Option.bind_assoc,X6c w2 w3 w4 (fun x d=>c x (List.mem_cons_of_mem _ (List.mem_cons_of_mem _ d))) Xo _ (fun l=>by simp[XQ,Xo])]
   by_cases q:(okW w2&&(okW w3&&okW w4))=true
   ·rw[q];have z1:Nat.blt 0 3=true:=rfl;have z2:Nat.blt 1 3=true:=rfl;have z3:Nat.ble ((ds.length+1)*33) 200000000000000=true:=XP (by omega)
    simp[z1,z2,z3];rfl
   ·have q':(okW w2&&(okW w3&&okW w4))=false:=by simpa using q
    rw[q'];rfl
  ·have b0:(w0==X1i)=false:=by simpa using h0
   by_cases h1:w0=X1j
   ·simp[XQ,Gc,Xo,X1V,X3c,X2,h1,b2,X5o]
   ·have b1:(w0==X1j)=false:=by simpa using h1
    simp[XQ,Gc,Xo,X1V,X3c,X2,b0,b1,h0]
 ·by_cases h0:w0=X1i
  ·simp[XQ,Gc,Xo,X1V,X2,h0,Ne.symm X5o]
  ·have b0:(w0==X1i)=false:=by simpa using h0
   by_cases h1:w0=X1j
   ·simp only[Gc,h1,if_true];simp[X1V,X3c,X2,b2,X6e];rw[Option.bind_assoc,X6d w1 w2 w3 w4 w5 (fun x d=>c x (List.mem_cons_of_mem _ d)) Xo _ (fun l=>by simp[XQ,Xo])]
    by_cases q:(okW w1&&(okW w2&&(okW w3&&(okW w4&&okW w5))))=true
    ·rw[q];have z1:Nat.blt 0 5=true:=rfl;have z2:Nat.blt 1 5=true:=rfl;have z4:Nat.blt 2 5=true:=rfl;have z5:Nat.blt 3 5=true:=rfl;have z3:Nat.ble ((es.length+1)*33) 200000000000000=true:=XP (by omega)
     simp[z1,z2,z3,z4,z5];rfl
    ·have q':(okW w1&&(okW w2&&(okW w3&&(okW w4&&okW w5))))=false:=by simpa using q
     rw[q'];rfl
   ·have b1:(w0==X1j)=false:=by simpa using h1
    simp[XQ,Gc,Xo,X1V,X3c,X2,b0,b1,h1]
 ·have y1:decide (((List.length (List.map mkB (w0::w1::w2::w3::w4::w5::w6::t)):Nat):Int)>2)=true:=by simp;omega
  have y2:decide ((2:Int)<=((List.length (List.map mkB (w0::w1::w2::w3::w4::w5::w6::t)):Nat):Int))=true:=by simp;omega
  have y3:decide ((1:Int)<=((List.length (List.map mkB (w0::w1::w2::w3::w4::w5::w6::t)):Nat):Int))=true:=by simp;omega
  have y4:decide ((0:Int)<((List.length (List.map mkB (w0::w1::w2::w3::w4::w5::w6::t)):Nat):Int))=true:=by simp;omega
  have y5:((List.length (List.drop (Int.toNat 2) (List.take (List.length (List.map mkB (w0::w1::w2::w3::w4::w5::w6::t))) (List.map mkB (w0::w1::w2::w3::w4::w5::w6::t)))):Nat):Int)=(t.length:Int)+5:=by simp;omega
  have y6:((List.length (List.drop (Int.toNat 1) (List.take (List.length (List.map mkB (w0::w1::w2::w3::w4::w5::w6::t))) (List.map mkB (w0::w1::w2::w3::w4::w5::w6::t)))):Nat):Int)=(t.length:Int)+6:=by simp;omega
  have y7:((t.length:Int)+5==3)=false:=by rw[beq_eq_false_iff_ne];omega
  have y8:((t.length:Int)+6==5)=false:=by rw[beq_eq_false_iff_ne];omega
  simp only[y1,y2,y3,y4,y5,y6,y7,y8]
  by_cases h0:w0=X1i
  ·simp[XQ,Gc,Xo,X1V,X2,h0]
  ·have b0:(w0==X1i)=false:=by simpa using h0
   by_cases h1:w0=X1j
   ·simp[XQ,Gc,Xo,X1V,X3c,X2,h1,b2]
   ·have b1:(w0==X1j)=false:=by simpa using h1
    simp[XQ,Gc,Xo,X1V,X3c,X2,b0,b1]
theorem X6C (x0:ByteArray) (es:List Zl) (ds:List Zh) (a:List UInt8) (e:10∉a) (c:a≠[]) (i:a.length<=2000) (j:es.length<=100000) (f:ds.length<=100000) :
  Fc x0 es (mkB a) ds=Gc x0 es (mkB []) ds (Zhn 32 a):=by
 unfold Fc Wa;rw[X1h];simp only[Wl,XW];have g:0<a.length:=by
  cases a with
  | nil=>exact absurd rfl c
  | cons x xs=>simp
 have c0:decide (((mkB a).size:Int)>0)=true:=by rw[X1];simp;omega
 have c1:decide ((-1:Int)>=0)=false:=by decide
 have e3:XD (mkB a) (mkB [10])=some (mkB a):=by
  rw[X5D _ _ (by omega)]
  rw[if_neg];intro h;exact e (List.mem_of_getLast? h)
 have e5:(⟨#[]⟩:ByteArray)=mkB []:=rfl;simp only[c0,jB,X4k,X2W e,jS,c1,jA,ten,e3,spc,X5i a 32 (by omega),e5]
 have b:∀w∈Zhn 32 a,w.length<=10000:=fun w b=>by have:=X2B 32 a w b;omega
 generalize Zhn 32 a=ws at b⊢;have b2:(X1j==X1i)=false:=by decide
 have b3:(X1i==X1i)=true:=by decide
 have b4:(X1j==X1j)=true:=by decide
 rcases ws with _|⟨w0,_|⟨w1,_|⟨w2,_|⟨w3,_|⟨w4,_|⟨w5,_|⟨w6,t⟩⟩⟩⟩⟩⟩⟩
 ·simp[XQ,Gc,Xo]
 ·simp[XQ,Gc,Xo]
 ·simp[XQ,Gc,Xo]
 ·by_cases h0:w0=X1i
  ·simp[XQ,Gc,Xo,X1V,X2,h0]
  ·have b0:(w0==X1i)=false:=by simpa using h0
   by_cases h1:w0=X1j
   ·simp[XQ,Gc,Xo,X1V,X3c,X2,h1,b2]
   ·have b1:(w0==X1j)=false:=by simpa using h1
    simp[XQ,Gc,Xo,X1V,X3c,X2,b0,b1]
 ·by_cases h0:w0=X1i
  ·simp[XQ,Gc,Xo,X1V,X2,h0]
  ·have b0:(w0==X1i)=false:=by simpa using h0
   by_cases h1:w0=X1j
   ·simp[XQ,Gc,Xo,X1V,X3c,X2,h1,b2]
   ·have b1:(w0==X1j)=false:=by simpa using h1
    simp[XQ,Gc,Xo,X1V,X3c,X2,b0,b1]
 ·by_cases h0:w0=X1i
  ·simp only[Gc,h0,if_true];simp[X1V,X2,X6f];rw[Option.bind_assoc,X6c w2 w3 w4 (fun x d=>b x (List.mem_cons_of_mem _ (List.mem_cons_of_mem _ d))) Xo _ (fun l=>by simp[XQ,Xo])]
   by_cases q:(okW w2&&(okW w3&&okW w4))=true
   ·rw[q];have z1:Nat.blt 0 3=true:=rfl;have z2:Nat.blt 1 3=true:=rfl;have z3:Nat.ble ((ds.length+1)*33) 200000000000000=true:=XP (by omega)
    simp[z1,z2,z3];rfl
   ·have q':(okW w2&&(okW w3&&okW w4))=false:=by simpa using q
    rw[q'];rfl
  ·have b0:(w0==X1i)=false:=by simpa using h0
   by_cases h1:w0=X1j
   ·simp[XQ,Gc,Xo,X1V,X3c,X2,h1,b2,X5o]
   ·have b1:(w0==X1j)=false:=by simpa using h1
    simp[XQ,Gc,Xo,X1V,X3c,X2,b0,b1,h0]
 ·by_cases h0:w0=X1i
  ·simp[XQ,Gc,Xo,X1V,X2,h0,Ne.symm X5o]
  ·have b0:(w0==X1i)=false:=by simpa using h0
   by_cases h1:w0=X1j
   ·simp only[Gc,h1,if_true];simp[X1V,X3c,X2,b2,X6g];rw[Option.bind_assoc,X6d w1 w2 w3 w4 w5 (fun x d=>b x (List.mem_cons_of_mem _ d)) Xo _ (fun l=>by simp[XQ,Xo])]
    by_cases q:(okW w1&&(okW w2&&(okW w3&&(okW w4&&okW w5))))=true
    ·rw[q];have z1:Nat.blt 0 5=true:=rfl;have z2:Nat.blt 1 5=true:=rfl;have z4:Nat.blt 2 5=true:=rfl;have z5:Nat.blt 3 5=true:=rfl;have z3:Nat.ble ((es.length+1)*33) 200000000000000=true:=XP (by omega)
     simp[z1,z2,z3,z4,z5];rfl
    ·have q':(okW w1&&(okW w2&&(okW w3&&(okW w4&&okW w5))))=false:=by simpa using q
     rw[q'];rfl
   ·have b1:(w0==X1j)=false:=by simpa using h1
    simp[XQ,Gc,Xo,X1V,X3c,X2,b0,b1,h1]
 ·have y1:decide (((List.length (List.map mkB (w0::w1::w2::w3::w4::w5::w6::t)):Nat):Int)>2)=true:=by simp;omega
  have y2:decide ((2:Int)<=((List.length (List.map mkB (w0::w1::w2::w3::w4::w5::w6::t)):Nat):Int))=true:=by simp;omega
  have y3:decide ((1:Int)<=((List.length (List.map mkB (w0::w1::w2::w3::w4::w5::w6::t)):Nat):Int))=true:=by simp;omega
  have y4:decide ((0:Int)<((List.length (List.map mkB (w0::w1::w2::w3::w4::w5::w6::t)):Nat):Int))=true:=by simp;omega
  have y5:((List.length (List.drop (Int.toNat 2) (List.take (List.length (List.map mkB (w0::w1::w2::w3::w4::w5::w6::t))) (List.map mkB (w0::w1::w2::w3::w4::w5::w6::t)))):Nat):Int)=(t.length:Int)+5:=by simp;omega
  have y6:((List.length (List.drop (Int.toNat 1) (List.take (List.length (List.map mkB (w0::w1::w2::w3::w4::w5::w6::t))) (List.map mkB (w0::w1::w2::w3::w4::w5::w6::t)))):Nat):Int)=(t.length:Int)+6:=by simp;omega
  have y7:((t.length:Int)+5==3)=false:=by rw[beq_eq_false_iff_ne];omega
  have y8:((t.length:Int)+6==5)=false:=by rw[beq_eq_false_iff_ne];omega
  simp only[y1,y2,y3,y4,y5,y6,y7,y8]
  by_cases h0:w0=X1i
  ·simp[XQ,Gc,Xo,X1V,X2,h0]
  ·have b0:(w0==X1i)=false:=by simpa using h0
   by_cases h1:w0=X1j
   ·simp[XQ,Gc,Xo,X1V,X3c,X2,h1,b2]
   ·have b1:(w0==X1j)=false:=by simpa using h1
    simp[XQ,Gc,Xo,X1V,X3c,X2,b0,b1]
end Nore
set_option maxHeartbeats 1000000
open Go Go.Ab
namespace Nore
noncomputable def X58 (x0:ByteArray):(((Int×(List Zl)×(List Zh))⊕((List Zl)×(List Zh))))->Option (CoRecord×Int):=fun o234↦Sum.elim (fun y235↦some (CoRecord.mk [] [],y235.fst)) (fun y236↦Option.bind (Wj (CoRecord.mk y236.snd y236.fst)) fun r237↦bif r237.snd.snd != 0 then some (CoRecord.mk [] [],6)else Option.bind (X1x (CoRecord.mk y236.snd y236.fst)) fun r238↦bif !ByteArray.toList r238==ByteArray.toList x0 then some (CoRecord.mk [] [],6)else some (CoRecord.mk y236.snd y236.fst,0)) o234
noncomputable def Fr (x0:ByteArray) (rows:List (List UInt8)) (i:Nat) (es:List Zl) (ds:List Zh):Option (CoRecord×Int):=Option.bind (X1o (rows.map mkB) ((i:Int),es,ds)) (X58 x0)
theorem X3J (l:List UInt8) (a:l.length<1000000):X2w (mkB l)=bif decide ((l.length:Int)>2000)then some (CoRecord.mk [] [],3)else Fr (mkB l) (Zhn 10 l) 0 [] []:=by
 rw[X45];unfold X1v;rw[X5Q l 10 10 rfl a];rfl
noncomputable def Gr (x0:ByteArray) (rows:List (List UInt8)) (i:Nat) (es:List Zl) (ds:List Zh):List (List UInt8)->Option (CoRecord×Int)
 | [w0,w1,w2,w3,w4]=>if w0=X1i then Fr x0 rows i es (ds++[⟨mkB w1,X4M w2,X4M w3⟩])else Xo
 | [w0,w1,w2,w3,w4,w5]=>if w0=X1j then Fr x0 rows i (es++[⟨X4M w1,X4M w2,⟨X4M w3,X4M w4⟩⟩]) ds else Xo
 | _=>Xo
theorem X5m (x0:ByteArray) (rows:List (List UInt8)) (i:Nat) (es:List Zl) (ds:List Zh) (hi:i+1<rows.length) (hr:rows.length<=10000) (m:∀w∈rows,w.length<=10000) (o:es.length<=100000) (n:ds.length<=100000) :
  Fr x0 rows i es ds=Gr x0 rows (i+1) es ds (Zhn 32 (rows.getD i [])):=by
 have c:i<rows.length:=by omega
 have g:i<(rows.map mkB).length:=by simpa using c
 unfold Fr X1o;rw[X1h];simp only[X2x,X1Y];have w1:=wS i (by omega)
 have c0:decide (((i+1:Nat):Int)<((rows.map mkB).length:Int))=true:=by simp;omega
 have c1:decide ((0:Int)<=(i:Int))=true:=by simp
 have c2:decide ((i:Int)<((rows.map mkB).length:Int))=true:=by simp;omega
 have j:=m _ (jl c);have e:rows.getD i []=rows[i]:=Xt _ _ _ c;rw[e];simp only[w1,c0,c1,c2,ju,jB,kS,Xt _ _ _ g,List.getElem_map,X5Q rows[i] 32 32 rfl (by omega),jS,X1V,X3c]
 have d:∀w∈Zhn 32 rows[i],w.length<=10000:=fun w b=>by have:=X2B 32 _ w b;omega
 have a:∀w∈Zhn 32 rows[i],Xp (mkB w)=some (X4M w):=fun w b=>X5z w (by have:=d w b;omega)
 generalize Zhn 32 rows[i]=ws at d a⊢;have b2:(X1j==X1i)=false:=by decide
 have b5:(X1i==X1j)=false:=by decide
 rcases ws with _|⟨w0,_|⟨w1,_|⟨w2,_|⟨w3,_|⟨w4,_|⟨w5,_|⟨w6,t⟩⟩⟩⟩⟩⟩⟩
 ·simp[X58,Gr,Xo]
 ·simp[X58,Gr,Xo]
 ·simp[X58,Gr,Xo]
 ·simp[X58,Gr,Xo]
 ·simp[X58,Gr,Xo]
 ·have f:=a w2 (by simp)
  have h:=a w3 (by simp)
  by_cases h0:w0=X1i
  ·have z3:Nat.ble ((ds.length+1)*33) 200000000000000=true:=XP (by omega)
   simp[Gr,h0,X2,f,h,z3];rfl
  ·have b0:(w0==X1i)=false:=by simpa using h0
   simp[X58,Gr,Xo,X2,h0,b0]
 ·have l:=a w1 (by simp)
  have f:=a w2 (by simp)
  have h:=a w3 (by simp)
  have k:=a w4 (by simp)
  by_cases h0:w0=X1j
  ·have z3:Nat.ble ((es.length+1)*33) 200000000000000=true:=XP (by omega)
   simp[Gr,h0,X2,l,f,h,k,z3];rfl
  ·have b0:(w0==X1j)=false:=by simpa using h0
   simp[X58,Gr,Xo,X2,h0,b0]
 ·have y7:(((List.length (List.map mkB (w0::w1::w2::w3::w4::w5::w6::t)):Nat):Int)==5)=false:=by rw[beq_eq_false_iff_ne];simp;omega
  have y8:(((List.length (List.map mkB (w0::w1::w2::w3::w4::w5::w6::t)):Nat):Int)==6)=false:=by rw[beq_eq_false_iff_ne];simp;omega
  simp only[y7,y8];simp[X58,Gr,Xo]
theorem X65 (x0:ByteArray) (rows:List (List UInt8)) (i:Nat) (es:List Zl) (ds:List Zh) (hi:i+1=rows.length) (hr:rows.length<=10000) :
  Fr x0 rows i es ds=Option.bind (Wj (CoRecord.mk ds es)) fun c=>bif c.2.2 != 0 then Xo else Option.bind (X1x (CoRecord.mk ds es)) fun t=>bif !(t.toList==x0.toList)then Xo else some (CoRecord.mk ds es,0):=by
 unfold Fr X1o;rw[X1h];simp only[X2x,X1Y];have w1:=wS i (by omega)
 have c0:decide (((i+1:Nat):Int)<((rows.map mkB).length:Int))=false:=by simp;omega
 simp only[w1,c0,jA,jS,jy,X58];rfl
theorem X64 (x0:ByteArray) (es:List Zl) (ds:List Zh) :
  Fc x0 es (mkB []) ds=Option.bind (WL (CoRecord.mk ds es)) fun c=>bif c.2.2==0 then Option.bind (X18 (CoRecord.mk ds es)) fun t=>bif !(t.toList==x0.toList)then Xo else some (CoRecord.mk ds es,0)else Xo:=by
 unfold Fc Wa;rw[X1h];simp only[Wl,XW];have c0:decide (((mkB []).size:Int)>0)=false:=by decide
 simp only[c0,jA,jS,jy,XQ];rfl
end Nore
set_option maxHeartbeats 1000000
open Go Go.Ab
namespace Nore
theorem X5J {lo hi n m:Int} (h:X1f lo hi [n,m]=false):lo<=n/\n<=hi/\lo<=m/\m<=hi:=by
 simp only[X3Q,X4m,Bool.or_false,Bool.or_eq_false_iff,decide_eq_false_iff_not]at h;omega
theorem X6p {r:CoRecord} (h:(We r).2.2=0):∀d∈r.Devices,X2Y d.Name=true:=by
 unfold We at h;split at h
 ·simp at h
 ·split at h
  ·rename_i q;simp at h;exact absurd h q
  ·rename_i q;have q:(X2o r).2=0:=by simpa using q
   intro d a;obtain⟨j,b,rfl⟩:=List.getElem_of_mem a;have:=X3O _ r.Devices 0 q j b;unfold X4U X3l at this;cases hn:X2Y (r.Devices[j]).Name with
   | true=>rfl
   | false=>simp[hn]at this
theorem X2R {r:CoRecord} (h:(We r).2.2=0):X67 r:=by
 have a:=X6b h;have j:=X6p h;have f:=a.devs;refine⟨f.1,f.2,a.many,fun d e=>⟨j d e,?_,?_⟩,fun x i=>?_⟩
 ·have:=(a.dev d e).1;exact⟨by omega,by omega⟩
 ·have:=a.dev d e;exact⟨by omega,by omega⟩
 ·have c:=a.ent x i;unfold X3b at c;split at c
  ·omega
  ·rename_i q1;split at c
   ·omega
   ·rename_i q2;split at c
    ·omega
    ·rename_i q3;have q1:=X1A (Bool.eq_false_iff.2 q1);have q2:=X1A (Bool.eq_false_iff.2 q2);have q3:=X5J (Bool.eq_false_iff.2 q3);have b:x.Device.toNat<r.Devices.length:=by omega
     have g:=a.dev _ (jl b);rw[Xt _ _ _ b]at q2;have w:IntKind.wrap .i64 ((r.Devices[x.Device.toNat]).States-1)=(r.Devices[x.Device.toNat]).States-1:=by rw[w64]<;>omega
     rw[w]at q2;exact⟨⟨by omega,by omega⟩,⟨by omega,by omega⟩,⟨by omega,by omega⟩,⟨by omega,by omega⟩⟩
def X4O (r:CoRecord):Prop:=(We r).2.2=0
theorem X6n {r:CoRecord} (hv:X4O r) (l:List UInt8) (ht:X10 r=l) :
  (Option.bind (WL r) fun c=>bif c.2.2==0 then Option.bind (X18 r) fun t=>bif !(t.toList==(mkB l).toList)then Xo else some (r,0)else Xo)=some (r,0) ∧
  (Option.bind (Wj r) fun c=>bif c.2.2 != 0 then Xo else Option.bind (X1x r) fun t=>bif !(t.toList==(mkB l).toList)then Xo else some (r,0))=some (r,0):=by
 have a:(We r).2.2=0:=hv;have d:((We r).2.2==0)=true:=by rw[a];rfl
 have b:((We r).2.2 != 0)=false:=by rw[a];rfl
 have e:((mkB (X10 r)).toList==(mkB l).toList)=true:=by rw[ht];simp
 simp only[X2L,X1N,jS,d,b,jB,jA,X2V (X2R a),X31 (X2R a),e,Bool.not_true];exact⟨trivial,trivial⟩
theorem X6m {r:CoRecord} (l:List UInt8) (h:¬(X4O r/\X10 r=l)) :
  (Option.bind (WL r) fun c=>bif c.2.2==0 then Option.bind (X18 r) fun t=>bif !(t.toList==(mkB l).toList)then Xo else some (r,0)else Xo)=Xo ∧
  (Option.bind (Wj r) fun c=>bif c.2.2 != 0 then Xo else Option.bind (X1x r) fun t=>bif !(t.toList==(mkB l).toList)then Xo else some (r,0))=Xo:=by
 simp only[X2L,X1N,jS]
 by_cases hv:(We r).2.2=0
 ·have b:((We r).2.2==0)=true:=by rw[hv];rfl
  have a:((We r).2.2 != 0)=false:=by rw[hv];rfl
  have d:((mkB (X10 r)).toList==(mkB l).toList)=false:=by
   rw[X5p];exact decide_eq_false fun e=>h ⟨hv,e⟩
  simp only[b,a,jB,jA,X2V (X2R hv),X31 (X2R hv),jS,d,Bool.not_false];exact⟨trivial,trivial⟩
 ·have b:((We r).2.2==0)=false:=X68 hv;have a:((We r).2.2 != 0)=true:=X4h hv;simp only[b,a,jB,jA];exact⟨trivial,trivial⟩
theorem X5t (x0:ByteArray) (es:List Zl) (rest:ByteArray) (ds:List Zh) (ws:List (List UInt8)) :
  Gc x0 es rest ds ws=Xo\/∃es' ds',Gc x0 es rest ds ws=Fc x0 es' rest ds'/\es'.length<=es.length+1/\ds'.length<=ds.length+1:=by
 unfold Gc;split
 ·rename_i w0 w1 w2 w3 w4;split
  ·cases okW w2&&(okW w3&&okW w4)with
   | true=>exact .inr ⟨_,_,rfl,by omega,by simp⟩
   | false=>exact .inl rfl
  ·exact .inl rfl
 ·rename_i w0 w1 w2 w3 w4 w5;split
  ·cases okW w1&&(okW w2&&(okW w3&&(okW w4&&okW w5)))with
   | true=>exact .inr ⟨_,_,rfl,by simp,by omega⟩
   | false=>exact .inl rfl
  ·exact .inl rfl
 ·exact .inl rfl
theorem X5r (x0:ByteArray):∀(n:Nat) (x:List UInt8) (es:List Zl) (ds:List Zh),x.length<=n->x.length<=2000->es.length+x.length<=100000->ds.length+x.length<=100000 →
  Fc x0 es (mkB x) ds=Xo\/∃es' ds',Fc x0 es (mkB x) ds=Fc x0 es' (mkB []) ds'
 | n,[],es,ds,_,_,_,_=>.inr ⟨es,ds,rfl⟩
 | 0,y::ys,es,ds,h,_,_,_=>by simp at h
 | n+1,y::ys,es,ds,h,h2,h3,h4=>by
  rcases X3B 10 (y::ys)with b|⟨a,rest,e,b⟩
  ·rw[X6C x0 es ds _ b (by simp) h2 (by omega) (by omega)]
   rcases X5t x0 es (mkB []) ds (Zhn 32 (y::ys))with q|⟨es',ds',q,_,_⟩
   ·exact .inl q
   ·exact .inr ⟨es',ds',q⟩
  ·rw[e]at h h2 h3 h4⊢;rw[X5l x0 es ds a rest b h2 (by omega) (by omega)]
   have c:(a++10::rest).length=a.length+rest.length+1:=by simp;omega
   rcases X5t x0 es (mkB rest) ds (Zhn 32 a)with q|⟨es',ds',q,q1,q2⟩
   ·exact .inl q
   ·rw[q];exact X5r x0 n rest es' ds' (by omega) (by omega) (by omega) (by omega)
theorem X66 (x0:ByteArray) (rows:List (List UInt8)) (i:Nat) (es:List Zl) (ds:List Zh) (ws:List (List UInt8)) :
  Gr x0 rows i es ds ws=Xo\/∃es' ds',Gr x0 rows i es ds ws=Fr x0 rows i es' ds'/\es'.length<=es.length+1/\ds'.length<=ds.length+1:=by
 unfold Gr;split
 ·split
  ·exact .inr ⟨_,_,rfl,by omega,by simp⟩
  ·exact .inl rfl
 ·split
  ·exact .inr ⟨_,_,rfl,by simp,by omega⟩
  ·exact .inl rfl
 ·exact .inl rfl
theorem X5s (x0:ByteArray) (rows:List (List UInt8)) (hr:rows.length<=10000) (a:∀w∈rows,w.length<=10000):∀(n i:Nat) (es:List Zl) (ds:List Zh),rows.length=i+n+1->es.length<=i->ds.length<=i →
  Fr x0 rows i es ds=Xo\/∃es' ds',Fr x0 rows i es ds=Fr x0 rows (rows.length-1) es' ds'
 | 0,i,es,ds,h,_,_=>.inr ⟨es,ds,by rw[show rows.length-1=i by omega]⟩
 | n+1,i,es,ds,h,h2,h3=>by
  rw[X5m x0 rows i es ds (by omega) hr a (by omega) (by omega)]
  rcases X66 x0 rows (i+1) es ds (Zhn 32 (rows.getD i []))with q|⟨es',ds',q,q1,q2⟩
  ·exact .inl q
  ·rw[q];exact X5s x0 rows hr a n (i+1) es' ds' (by omega) (by omega) (by omega)
theorem X5S {l:List UInt8} (h:l.all X24=true) {c:UInt8} (hc:c.toNat<48):c∉l:=fun a=>by
 have:=(List.all_eq_true.1 h) c a;simp[X24]at this;omega
theorem X2Q (n:Nat):(32:UInt8)∉dg n:=X5S (X4j n).1 (by decide)
theorem X5R (n:Nat):(10:UInt8)∉dg n:=X5S (X4j n).1 (by decide)
theorem X3F:∀(l:List UInt8) (last:Int),X2X (X3f last l)=true->∀b∈l,45<=b.toNat
 | [],_,_,b,a=>by cases a
 | c::l,last,h,b,a=>by
  unfold X3f at h;split at h
  ·rename_i q;rcases jv.1 a with e|e
   ·rw[e];omega
   ·exact X3F l _ h b e
  ·split at h
   ·cases h
   ·rename_i q;rcases jv.1 a with e|e
    ·rw[e];omega
    ·exact X3F l _ h b e
theorem X5I {d:Zh} (h:X4r d):∀b∈d.Name.toList,45<=b.toNat:=by
 have:=h.name;unfold X2Y at this;simp only[jn]at this;exact X3F _ _ this.2
theorem X5U {d:Zh} (h:X4r d) {c:UInt8} (hc:c.toNat<45):c∉d.Name.toList:=fun a=>by
 have:=X5I h c a;omega
theorem X4e:∀ns:List Int,(10:UInt8)∉X2Z ns
 | []=>by simp[X4C]
 | n::ns=>by
  rw[X4d];simp only[jv,List.mem_append,not_or];exact⟨by decide,X5R _,X4e ns⟩
theorem X5e {d:Zh} (h:X4r d):(10:UInt8)∉WZ d:=by
 unfold WZ;simp only[jv,List.mem_append,not_or];exact⟨by decide,by decide,X5U h (by decide),X4e _⟩
theorem X5f (x:Zl):(10:UInt8)∉X1b x:=by
 unfold X1b;simp only[List.mem_append,not_or];exact⟨by decide,X4e _⟩
theorem X3L {w:List UInt8} (h:(10:UInt8)∉w) (n:Nat):(10:UInt8)∉w++32::dg n:=by
 simp only[jv,List.mem_append,not_or];exact⟨h,by decide,X5R _⟩
theorem X5x {d:Zh} (h:X4r d) (n:Nat):Zhn 32 (WZ d++32::dg n)=[X1i,d.Name.toList,dg d.States.toNat,dg d.First.toNat,dg n]:=by
 have e:WZ d++32::dg n=X1i++32::(d.Name.toList++32::(dg d.States.toNat++32::(dg d.First.toNat++32::dg n))):=by simp[WZ,X2Z,X1i]
 rw[e,WO (by decide),WO (X5U h (by decide)),WO (X2Q _),WO (X2Q _),X2T (X2Q _)]
theorem X5y (x:Zl) (n:Nat):Zhn 32 (X1b x++32::dg n)=[X1j,dg x.Device.toNat,dg x.State.toNat,dg x.At.Lo.toNat,dg x.At.Hi.toNat,dg n]:=by
 have e:X1b x++32::dg n=X1j++32::(dg x.Device.toNat++32::(dg x.State.toNat++32::(dg x.At.Lo.toNat++32::(dg x.At.Hi.toNat++32::dg n)))):=by simp[X1b,X2Z,X1j]
 rw[e,WO (by decide),WO (X2Q _),WO (X2Q _),WO (X2Q _),WO (X2Q _),X2T (X2Q _)]
theorem X11.ok {n:Int} (h:X11 n):okW (dg n.toNat)=true:=X6I (by have:=h.2;omega)
theorem X11.v {n:Int} (h:X11 n):vW (dg n.toNat)=n:=by
 rw[X6K (by have:=h.2;omega),Int.toNat_of_nonneg h.1]
theorem X11.d {n:Int} (h:X11 n):X4M (dg n.toNat)=n:=by
 rw[X6H (by have:=h.2;omega),Int.toNat_of_nonneg h.1]
theorem X6D {x0:ByteArray} {es:List Zl} {rest:ByteArray} {ds:List Zh} {d:Zh} (h:X4r d) {n:Int} (a:X11 n):Gc x0 es rest ds (Zhn 32 (WZ d++32::dg n.toNat))=Fc x0 es rest (ds++[d]):=by
 rw[X5x h];simp only[Gc,if_true,h.st.ok,h.fi.ok,a.ok,ju,jB,h.st.v,h.fi.v,X4z]
theorem X6E {x0:ByteArray} {es:List Zl} {rest:ByteArray} {ds:List Zh} {x:Zl} (h:X52 x) {n:Int} (a:X11 n):Gc x0 es rest ds (Zhn 32 (X1b x++32::dg n.toNat))=Fc x0 (es++[x]) rest ds:=by
 rw[X5y];simp only[Gc,if_true,h.dev.ok,h.st.ok,h.lo.ok,h.hi.ok,a.ok,ju,jB,h.dev.v,h.st.v,h.lo.v,h.hi.v]
theorem X6F {x0:ByteArray} {rows:List (List UInt8)} {i:Nat} {es:List Zl} {ds:List Zh} {d:Zh} (h:X4r d) (n:Nat):Gr x0 rows i es ds (Zhn 32 (WZ d++32::dg n))=Fr x0 rows i es (ds++[d]):=by
 rw[X5x h];simp only[Gr,if_true,h.st.d,h.fi.d,X4z]
theorem X6G {x0:ByteArray} {rows:List (List UInt8)} {i:Nat} {es:List Zl} {ds:List Zh} {x:Zl} (h:X52 x) (n:Nat):Gr x0 rows i es ds (Zhn 32 (X1b x++32::dg n))=Fr x0 rows i (es++[x]) ds:=by
 rw[X5y];simp only[Gr,if_true,h.dev.d,h.st.d,h.lo.d,h.hi.d]
theorem X4g {s:Int} {w:List UInt8} (h:0<=s/\s<65521):X11 (Wc s w):=by
 have:=W8 w s h.1 h.2;exact⟨this.1,by omega⟩
theorem X4E (s:Int) (w:List UInt8) (ws:List (List UInt8)):W2 s (w::ws)=(w++32::dg (Wc s w).toNat)++10::W2 (Wc s w) ws:=by simp[W2]
theorem X5M (x0:ByteArray) (ds:List Zh) (b:ds.length<=1000):∀(xs:List Zl) (s:Int) (es:List Zl),(∀x∈xs,X52 x)->0<=s/\s<65521->(W2 s (xs.map X1b)).length<=2000->es.length+xs.length<=1000 →
  Fc x0 es (mkB (W2 s (xs.map X1b))) ds=Fc x0 (es++xs) (mkB []) ds
 | [],s,es,_,_,_,_=>by simp[W2]
 | x::xs,s,es,h,hs,hl,hn=>by
  rw[jr,X4E]at hl⊢;have a:=W8 (X1b x) s hs.1 hs.2;rw[X5l x0 es ds _ _ (X3L (X5f x) _) hl (by omega) (by omega),X6E (h x (by simp)) (X4g hs)]
  rw[X5M x0 ds b xs _ (es++[x]) (fun y hy=>h y (by simp[hy])) a (by simp at hl⊢;omega) (by simp at hn⊢;omega)]
  simp
theorem X5L (x0:ByteArray) (xs:List Zl) (c:∀x∈xs,X52 x) (a:xs.length<=500):∀(ys:List Zh) (s:Int) (ds:List Zh),(∀y∈ys,X4r y)->0<=s/\s<65521->(W2 s (ys.map WZ++xs.map X1b)).length<=2000->ds.length+ys.length<=1000 →
  Fc x0 [] (mkB (W2 s (ys.map WZ++xs.map X1b))) ds=Fc x0 xs (mkB []) (ds++ys)
 | [],s,ds,_,hs,hl,hn=>by
  simp only[List.map_nil,List.nil_append,jo]at hl⊢;rw[X5M x0 ds (by simpa using hn) xs s [] c hs hl (by simp;omega)]
  simp
 | y::ys,s,ds,h,hs,hl,hn=>by
  rw[jr,List.cons_append,X4E]at hl⊢;have b:=W8 (WZ y) s hs.1 hs.2;have hy:=h y (by simp)
  rw[X5l x0 [] ds _ _ (X3L (X5e hy) _) hl (by simp) (by simp at hn;omega),X6D hy (X4g hs)]
  rw[X5L x0 xs c a ys _ (ds++[y]) (fun z hz=>h z (by simp[hz])) b (by simp at hl⊢;omega) (by simp at hn⊢;omega)]
  simp
def X1P:Int->List (List UInt8)->List (List UInt8)
 | _,[]=>[]
 | s,w::ws=>(w++32::dg (Wc s w).toNat)::X1P (Wc s w) ws
theorem X4T:∀(ws:List (List UInt8)) (s:Int),(∀w∈ws,(10:UInt8)∉w)->Zhn 10 (W2 s ws)=X1P s ws++[[]]
 | [],s,_=>rfl
 | w::ws,s,h=>by
  rw[X4E,WO (X3L (h w (by simp)) _),X4T ws _ fun v hv=>h v (by simp[hv])]
  rfl
theorem X5O (x0:ByteArray) (rows:List (List UInt8)) (hr:rows.length<=10000) (c:∀w∈rows,w.length<=10000) (ds:List Zh) (d:ds.length<=1000):∀(xs:List Zl) (s:Int) (i:Nat) (es:List Zl),(∀x∈xs,X52 x)->rows.drop i=X1P s (xs.map X1b)++[[]]->es.length+xs.length<=1000 →
  ∃j,j+1=rows.length/\Fr x0 rows i es ds=Fr x0 rows j (es++xs) ds
 | [],s,i,es,_,hi,_=>by
  have:=congrArg List.length hi;simp[X1P]at this;exact⟨i,by omega,by simp⟩
 | x::xs,s,i,es,h,hi,hn=>by
  have b:=congrArg List.length hi;simp[X1P]at b;have a:i<rows.length:=by omega
  rw[Zhq a,jr]at hi;simp only[X1P,List.cons_append,List.cons.injEq]at hi;rw[X5m x0 rows i es ds (by omega) hr c (by omega) (by omega),Xt _ _ _ a,hi.1,X6G (h x (by simp))]
  obtain⟨j,f,e⟩:=X5O x0 rows hr c ds d xs _ (i+1) (es++[x]) (fun y hy=>h y (by simp[hy])) hi.2 (by simp at hn⊢;omega)
  exact⟨j,f,by rw[e];simp⟩
theorem X5N (x0:ByteArray) (rows:List (List UInt8)) (hr:rows.length<=10000) (c:∀w∈rows,w.length<=10000) (xs:List Zl) (g:∀x∈xs,X52 x) (d:xs.length<=500):∀(ys:List Zh) (s:Int) (i:Nat) (ds:List Zh),(∀y∈ys,X4r y)->rows.drop i=X1P s (ys.map WZ++xs.map X1b)++[[]]->ds.length+ys.length<=1000 →
  ∃j,j+1=rows.length/\Fr x0 rows i [] ds=Fr x0 rows j xs (ds++ys)
 | [],s,i,ds,_,hi,hn=>by
  obtain⟨j,f,e⟩:=X5O x0 rows hr c ds (by simpa using hn) xs s i [] g hi (by simp;omega)
  exact⟨j,f,by rw[e];simp⟩
 | y::ys,s,i,ds,h,hi,hn=>by
  have b:=congrArg List.length hi;simp[X1P]at b;have a:i<rows.length:=by omega
  rw[Zhq a,jr,List.cons_append]at hi;simp only[X1P,List.cons_append,List.cons.injEq]at hi;rw[X5m x0 rows i [] ds (by omega) hr c (by simp) (by simp at hn;omega),Xt _ _ _ a,hi.1,X6F (h y (by simp))]
  obtain⟨j,f,e⟩:=X5N x0 rows hr c xs g d ys _ (i+1) (ds++[y]) (fun z hz=>h z (by simp[hz])) hi.2 (by simp at hn⊢;omega)
  exact⟨j,f,by rw[e];simp⟩
theorem X5g {r:CoRecord} (h:X67 r):∀w∈X3a r,(10:UInt8)∉w:=by
 intro w a;rcases List.mem_append.1 a with a|a
 ·obtain⟨d,b,rfl⟩:=List.mem_map.1 a;exact X5e (h.devs d b)
 ·obtain⟨d,b,rfl⟩:=List.mem_map.1 a;exact X5f d
theorem X5B {r:CoRecord} (hv:X4O r) (l:List UInt8) (ht:X10 r=l) (b:l.length<=2000):Wu (mkB l)=some (r,0)/\X2w (mkB l)=some (r,0):=by
 have hT:=X2R hv;have f:=hT.many;have g:=hT.few;have c0:decide ((l.length:Int)>2000)=false:=by simp;omega
 constructor
 ·rw[X2U,X1,c0,jA];have:=X5L (mkB l) r.Entries hT.ents (by omega) r.Devices 0 [] hT.devs (by decide) (by rw[show W2 0 (r.Devices.map WZ++r.Entries.map X1b)=l from ht];exact b) (by simp;omega)
  rw[show W2 0 (r.Devices.map WZ++r.Entries.map X1b)=l from ht]at this;rw[this,X64,List.nil_append];exact(X6n hv l ht).1
 ·rw[X3J l (by omega),c0,jA]
  have hc:=X4T (X3a r) 0 (X5g hT);rw[show W2 0 (X3a r)=l from ht]at hc;have e:=X4w 10 l;obtain⟨j,d,c⟩:=X5N (mkB l) (Zhn 10 l) (by omega) (fun w a=>by have:=X2B 10 l w a;omega) r.Entries hT.ents (by omega) r.Devices 0 0 [] hT.devs hc (by simp;omega)
  rw[c,X65 _ _ _ _ _ d (by omega),List.nil_append]
  exact(X6n hv l ht).2
theorem X6z (l:List UInt8) (e:l.length<=2000) (h:∀r,X4O r->X10 r≠l):Wu (mkB l)=Xo/\X2w (mkB l)=Xo:=by
 have c0:decide ((l.length:Int)>2000)=false:=by simp;omega
 have b:∀r,¬(X4O r/\X10 r=l):=fun r q=>h r q.1 q.2;constructor
 ·rw[X2U,X1,c0,jA];rcases X5r (mkB l) l.length l [] [] (Nat.le_refl _) e (by simp;omega) (by simp;omega)with q|⟨es,ds,q⟩
  ·exact q
  ·rw[q,X64];exact(X6m l (b _)).1
 ·rw[X3J l (by omega),c0,jA]
  have f:=X4w 10 l;have a:=X5n 10 l;have c:0<(Zhn 10 l).length:=List.length_pos_iff.2 a;rcases X5s (mkB l) (Zhn 10 l) (by omega) (fun w d=>by have:=X2B 10 l w d;omega) ((Zhn 10 l).length-1) 0 [] [] (by omega) (by simp) (by simp)with q|⟨es,ds,q⟩
  ·exact q
  ·rw[q,X65 _ _ _ _ _ (by omega) (by omega)]
   exact(X6m l (b _)).2
theorem X60 (l:List UInt8) (a:2000<l.length):Wu (mkB l)=some (CoRecord.mk [] [],3)/\X2w (mkB l)=some (CoRecord.mk [] [],3):=by
 have c0:decide ((l.length:Int)>2000)=true:=by simp;omega
 constructor
 ·rw[X2U,X1,c0,jB]
 ·rw[X45];unfold X1v;rw[X1,c0,jB]
end Nore
set_option maxHeartbeats 1000000
open Go Go.Ab
namespace Nore
def X3n:List UInt8->Option (List UInt8×List UInt8)
 | []=>none
 | c::l=>match X3n l with
  | some p=>some (c::p.1,p.2)
  | none=>if c=32 then some ([],l)else none
theorem X34:∀{l:List UInt8},32∉l->X3n l=none
 | [],_=>rfl
 | c::l,h=>by
  simp only[jv,not_or]at h;unfold X3n;rw[X34 h.2];simp only;rw[if_neg (fun e=>h.1 e.symm)]
theorem X4y:∀{a b:List UInt8},32∉b->X3n (a++32::b)=some (a,b)
 | [],b,h=>by
  rw[List.nil_append];unfold X3n;rw[X34 h];rfl
 | c::a,b,h=>by
  rw[List.cons_append];unfold X3n;rw[X4y h]
def X3N:Int->Nat->List (List UInt8)->Int×Int
 | _,_,[]=>(0,4)
 | s,n,w::ws=>if ws=[]then(if w=[]then(0,4)else(((n+1:Nat):Int),0))else match X3n w with
  | none=>(((n+1:Nat):Int),0)
  | some p=>if p.2=dg (Wc s p.1).toNat then X3N (Wc s p.1) (n+1) ws else(((n+1:Nat):Int),0)
noncomputable def X6a:(((ByteArray×Int×Int×Int×Int)⊕(ByteArray×Int×Int×Int×Int)⊕(ByteArray×Int×Int×Int×Int)⊕(ByteArray×Int×Int×Int×Int)⊕(ByteArray×Int×Int)))->Option (Int×Int):=fun o263↦Sum.elim (fun y264↦some (y264.snd.snd.snd.fst,y264.snd.fst)) (fun y265↦Sum.elim (fun y266↦some (y266.snd.snd.snd.fst,y266.snd.fst)) (fun y267↦Sum.elim (fun y268↦some (y268.snd.snd.snd.fst,y268.snd.fst)) (fun y269↦Sum.elim (fun y270↦some (y270.snd.snd.snd.fst,y270.snd.fst)) (fun y271↦some (0,4)) y269) y267) y265) o263
noncomputable def Bc (x:ByteArray) (s:Int) (n:Nat):Option (Int×Int):=Option.bind (XN (x,s,(n:Int))) X6a
theorem X6B (s:Int) (n:Nat):Bc (mkB []) s n=some (0,4):=by
 unfold Bc XN;rw[X1h];simp only[XV,XE];have c0:decide (((mkB []).size:Int)>0)=false:=by decide
 simp only[c0,jA,jS,jy,X6a]
theorem X6A (a:List UInt8) (d:10∉a) (c:a≠[]) (g:a.length<=2000) (s:Int) (n:Nat) (i:n<=100000):Bc (mkB a) s n=some (((n+1:Nat):Int),0):=by
 unfold Bc XN;rw[X1h];simp only[XV,XE];have f:0<a.length:=List.length_pos_iff.2 c;have c0:decide (((mkB a).size:Int)>0)=true:=by rw[X1];simp;omega
 have c1:decide ((-1:Int)>=0)=false:=by decide
 have w3:=wS n (by omega)
 have e3:XK (mkB a) (mkB [10])=some (mkB a,false):=by
  rw[X5w _ _ (by omega),if_neg]
  intro h;exact d (List.mem_of_getLast? h)
 simp only[c0,jB,X4k,X2W d,jS,c1,jA,ten,e3,w3];have b:∃v,Xq (mkB a) 32=some v:=by
  rcases X5T 32 a with h|⟨p,q,e,h⟩
  ·exact⟨_,(X4l a (by omega)).1 h⟩
  ·exact⟨_,(X4l a (by omega)).2 p q e h⟩
 obtain⟨v,hv⟩:=b;simp only[hv,jS,Bool.not_false,jB,jy,X6a];rfl
theorem X6x (a rest:List UInt8) (g:10∉a) (i:(a++10::rest).length<=2000) (s:Int) (n:Nat) (j:n<=100000) (c:0<=s/\s<65521):Bc (mkB (a++10::rest)) s n=match X3n a with
  | none=>some (((n+1:Nat):Int),0)
  | some p=>if p.2=dg (Wc s p.1).toNat then Bc (mkB rest) (Wc s p.1) (n+1)else some (((n+1:Nat):Int),0):=by
 unfold Bc XN;rw[X1h];simp only[XV,XE];have b:(a++10::rest).length=a.length+rest.length+1:=by simp;omega
 have c0:decide (((mkB (a++10::rest)).size:Int)>0)=true:=by rw[X1,b];simp;omega
 have w1:IntKind.wrap .i64 ((a.length:Int)+1)=((a.length+1:Nat):Int):=by rw[w64]<;>omega
 have w3:=wS n (by omega)
 have c1:decide ((a.length:Int)>=0)=true:=by simp
 have c2:decide ((0:Int)<=((a.length+1:Nat):Int))=true:=by simp;omega
 have c3:decide (((a.length+1:Nat):Int)<=((mkB (a++10::rest)).size:Int))=true:=by rw[X1,b];simp;omega
 have e1:(mkB (a++10::rest)).extract 0 (a.length+1)=mkB (a++[10]):=by
  rw[X2d,List.drop_zero];congr 2;rw[show a++10::rest=(a++[10])++rest by simp,List.take_left' (by simp)]
 have e2:(mkB (a++10::rest)).extract (a.length+1) (mkB (a++10::rest)).size=mkB rest:=by
  rw[X2d,X1,List.take_length];congr 2;rw[show a++10::rest=(a++[10])++rest by simp,List.drop_left' (by simp)]
 have e3:XK (mkB (a++[10])) (mkB [10])=some (mkB a,true):=by
  rw[X5w _ _ (by simp;omega),if_pos (by simp)]
  simp
 simp only[c0,jB,X4k,X3m g,jS,c1,w1,c2,c3,ju,kS,e1,e2,ten,e3,w3,Bool.not_true,jA];rcases X5T 32 a with h|⟨p,q,e,h⟩
 ·rw[(X4l a (by omega)).1 h,X34 h]
  have c5:decide ((-1:Int)<0)=true:=by decide
  simp only[jS,c5,jB,jy,X6a];rfl
 ·rw[(X4l a (by omega)).2 p q e h]
  have d:a.length=p.length+q.length+1:=by rw[e];simp;omega
  have c5:decide ((p.length:Int)<0)=false:=by simp
  have c6:decide ((0:Int)<=(p.length:Int))=true:=by simp
  have c7:decide ((p.length:Int)<=((mkB a).size:Int))=true:=by rw[X1,d];simp;omega
  have w4:IntKind.wrap .i64 ((p.length:Int)+1)=((p.length+1:Nat):Int):=by rw[w64]<;>omega
  have c8:decide ((0:Int)<=((p.length+1:Nat):Int))=true:=by simp;omega
  have c9:decide (((p.length+1:Nat):Int)<=((mkB a).size:Int))=true:=by rw[X1,d];simp;omega
  have x1:(mkB a).extract 0 p.length=mkB p:=by
   rw[X2d,List.drop_zero,e,List.take_left' rfl]
  have x2:(mkB a).extract (p.length+1) (mkB a).size=mkB q:=by
   rw[X2d,X1,List.take_length];congr 2;rw[e,show p++32::q=(p++[32])++q by simp,List.drop_left' (by simp)]
  have f:=W8 p s c.1 c.2;have hit:=(X4g (w:=p) c).itoa;simp only[jS,c5,jA,c6,c7,ju,jB,kS,x1,X4v p s (by omega) c.1 c.2,w4,c8,c9,x2,hit,X5p,X34]
  rw[e,X4y h];simp only
  by_cases hq:q=dg (Wc s p).toNat
  ·rw[if_pos hq];simp only[hq,decide_true,Bool.not_true,jA,jS,jw]
  ·rw[if_neg hq];simp only[hq,decide_false,Bool.not_false,jB,jS,jy,X6a];rfl
theorem X63:∀(m:Nat) (x:List UInt8) (s:Int) (n:Nat),x.length<=m->x.length<=2000->n+x.length<=100000->0<=s/\s<65521->Bc (mkB x) s n=some (X3N s n (Zhn 10 x))
 | m,[],s,n,_,_,_,_=>by rw[X6B];rfl
 | 0,y::ys,s,n,h,_,_,_=>by simp at h
 | m+1,y::ys,s,n,h,h2,h3,hs=>by
  rcases X3B 10 (y::ys)with b|⟨a,rest,e,b⟩
  ·rw[X6A _ b (by simp) h2 s n (by omega),X2T b]
   rfl
  ·rw[e]at h h2 h3⊢;rw[X6x a rest b h2 s n (by omega) hs,WO b]
   have c:(a++10::rest).length=a.length+rest.length+1:=by simp;omega
   unfold X3N;rw[if_neg (X5n 10 rest)];cases hq:X3n a with
   | none=>rfl
   | some p =>
    simp only
    by_cases hp:p.2=dg (Wc s p.1).toNat
    ·rw[if_pos hp,if_pos hp];exact X63 m rest _ (n+1) (by omega) (by omega) (by omega) (W8 p.1 s hs.1 hs.2)
    ·rw[if_neg hp,if_neg hp]
theorem X4s (l:List UInt8) (a:l.length<=2000):X2P (mkB l)=some (X3N 0 0 (Zhn 10 l)):=by
 rw[X3q];unfold WU;have c0:decide (((mkB l).size:Int)>2000)=false:=by rw[X1];simp;omega
 rw[c0,jA];exact X63 l.length l 0 0 (Nat.le_refl _) a (by omega) (by decide)
theorem X4F:∀(ws:List (List UInt8)) (s:Int) (n:Nat),X3N s n (X1P s ws++[[]])=(0,4)
 | [],s,n=>rfl
 | w::ws,s,n=>by
  simp only[X1P,List.cons_append];unfold X3N;rw[if_neg (by simp),X4y (X2Q _)]
  simp only[if_true];exact X4F ws _ (n+1)
end Nore
set_option maxHeartbeats 1000000
open Go Go.Ab
namespace Nore
theorem X6y (a:ByteArray):(a==a)=true:=by rw[Z9E];exact beq_self_eq_true _
theorem X6t (r:CoRecord) (d:r.Devices.length<=100000) (b:r.Entries.length<=100000):X3o r r=some true:=by
 rw[X47];unfold X1w;have c1:((r.Devices.length:Int) != (r.Devices.length:Int))=false:=by simp
 have c2:((r.Entries.length:Int) != (r.Entries.length:Int))=false:=by simp
 rw[c1,c2,jA,jA];unfold X2g X2h;have k1:∀k:Bool⊕Unit->Option Bool,Option.bind (Z99 (XF r r) 0) k=k (.inr ()):=fun k=>by
  have key:=Xw (XF r r) k r.Entries.length (fun i (_:Unit)=>(i:Int)) (fun _ _=>True) (fun _ _=>k (.inr ()))
   (by
    intro _ _ R;have c:decide ((r.Entries.length:Int)<(r.Entries.length:Int))=false:=by simp
    simp only[XF,WE,c,jA,jS,jy])
   (by
    intro i _ hi _ R a;have c2:decide ((0:Int)<=(i:Int))=true:=by simp
    have c3:decide ((i:Int)<(r.Entries.length:Int))=true:=by simp;omega
    have w3:=wS i (by omega)
    simp only[XF,WE,c2,c3,ju,jB,beq_self_eq_true,Bool.not_true,jA,w3,jS,jw];exact a () trivial)
  exact key 0 () (by omega) trivial
 have key:=Xw (Ws r r) (fun o242=>Sum.elim (fun y243=>some y243) (fun y244=>Option.bind (Z99 (XF r r) 0) fun o245=>Sum.elim (fun y246=>some y246) (fun y247=>some true) o245) o242) r.Devices.length (fun i (_:Unit)=>(i:Int)) (fun _ _=>True) (fun _ _=>some true)
  (by
   intro _ _ R;have c:decide ((r.Devices.length:Int)<(r.Devices.length:Int))=false:=by simp
   simp only[Ws,WD,c,jA,jS,jy];rw[k1];rfl)
  (by
   intro i _ hi _ R a;have c2:decide ((0:Int)<=(i:Int))=true:=by simp
   have c3:decide ((i:Int)<(r.Devices.length:Int))=true:=by simp;omega
   have w3:=wS i (by omega)
   simp only[Ws,WD,c2,c3,ju,jB,X6y,beq_self_eq_true,Bool.not_true,jA,w3,jS,jw];exact a () trivial)
 exact key 0 () (by omega) trivial
def X3M (r:CoRecord):ByteArray×Int:=if(We r).2.2=0 then(mkB (X10 r),0)else(mkB [],(We r).2.2)
theorem X5k (r:CoRecord):X1q r=some (X3M r)/\X4I r=some (X3M r):=by
 rw[X3x,X4Z];unfold X1d X1O X3M;rw[X2L,X1N];simp only[jS]
 by_cases h:(We r).2.2=0
 ·have a:((We r).2.2 != 0)=false:=by rw[h];rfl
  rw[if_pos h,a];simp only[jA,X2V (X2R h),X31 (X2R h),jS];exact⟨trivial,trivial⟩
 ·rw[if_neg h,X4h h];exact⟨rfl,rfl⟩
theorem X5Z (l:List UInt8):∃p:CoRecord×Int,Wu (mkB l)=some p/\X2w (mkB l)=some p/\p.1.Devices.length<=100000/\p.1.Entries.length<=100000 ∧
  ((p.2≠0/\p.1=CoRecord.mk [] [])\/(p.2=0/\X4O p.1/\X10 p.1=l)):=by
 by_cases hl:2000<l.length
 ·obtain⟨b,a⟩:=X60 l hl;exact⟨_,b,a,by simp,by simp,.inl ⟨by simp,rfl⟩⟩
 ·by_cases h:∃r,X4O r/\X10 r=l
  ·obtain⟨r,hv,ht⟩:=h;obtain⟨b,a⟩:=X5B hv l ht (by omega)
   have hT:=X2R hv;have a1:=hT.few;have a2:=hT.many;exact⟨_,b,a,by simp only;omega,by simp only;omega,.inr ⟨rfl,hv,ht⟩⟩
  ·obtain⟨b,a⟩:=X6z l (by omega) (fun r hv ht=>h ⟨r,hv,ht⟩)
   exact⟨_,b,a,by simp,by simp,.inl ⟨by simp,rfl⟩⟩
theorem X62 {r:CoRecord} (h:X67 r):(X10 r).length<=2000:=by
 have e:=h.few;have c:=h.many;have:=X3T (X3a r) 0 (by decide) (by decide) (by
  intro w a;rcases List.mem_append.1 a with a|a
  ·obtain⟨d,b,rfl⟩:=List.mem_map.1 a;exact X4o (h.devs d b)
  ·obtain⟨d,b,rfl⟩:=List.mem_map.1 a;exact X4p (h.ents d b))
 unfold X10;have hr:(X3a r).length<=14:=by unfold X3a;simp;omega
 omega
theorem X5K (l:List UInt8) :
  (Option.bind (Wu (mkB l)) fun r298=>bif r298.snd != 0 then bif((List.length r298.fst.Devices:Nat):Int)==0 then bif((List.length r298.fst.Entries:Nat):Int)==0 then some true else some false else some false else Option.bind (X1q r298.fst) fun r299=>bif r299.snd==0 then bif ByteArray.toList r299.fst==ByteArray.toList (mkB l)then some true else some false else some false)=some true:=by
 obtain⟨p,p1,_,_,_,p5⟩:=X5Z l;rw[p1];simp only[jS];rcases p5 with⟨b,a⟩|⟨b,a,c⟩
 ·rw[X4h b,a];rfl
 ·have hv:(We p.1).2.2=0:=a;have d:(p.2 != 0)=false:=by rw[b];rfl
  rw[d,(X5k p.1).1];unfold X3M;rw[if_pos hv,c];simp
theorem X4L (r:CoRecord) (x:ByteArray):X1z r x=some true:=by
 rw[X2M];unfold W5;rw[X3D];unfold X1e;rw[show x=mkB x.toList from(X4z x).symm];have d:=X5K x.toList;rw[(X5k r).1,X1N];simp only[jS]
 by_cases h:(We r).2.2=0
 ·have hT:=X2R h;have b:=X62 hT;have a1:=hT.few;have a2:=hT.many;have a:X3M r=(mkB (X10 r),0):=by unfold X3M;rw[if_pos h]
  have c:=X4s (X10 r) b;rw[show Zhn 10 (X10 r)=X1P 0 (X3a r)++[[]]from X4T (X3a r) 0 (X5g hT),X4F]at c;rw[a,h];simp only[(X5B h (X10 r) rfl b).1,c,jS,beq_self_eq_true,Bool.not_true,jA,jB,bne_self_eq_false,X6t r (by omega) (by omega)]
  exact d
 ·have a:X3M r=(mkB [],(We r).2.2):=by unfold X3M;rw[if_neg h]
  rw[a];simp only[X68 h,beq_self_eq_true,Bool.not_true,jA];exact d
end Nore
