/- The plain functions of the program and of the document answer alike. -/
import Derived.Test.YtfiegoekphpjlaaGreatDoorD
import Derived.Lib.AtoiAll
import Derived.Lib.ItoaNum
import Derived.Lib.Split
import Derived.Lib.Bytealg
set_option linter.unusedSectionVars false
set_option linter.unusedVariables false
set_option linter.unusedSimpArgs false
open Go Go.Ab
namespace Nore
theorem w64 {x:Int} (a : -9223372036854775808<=x) (b:x<=9223372036854775807):IntKind.wrap .i64 x=x:=by
 simp only[IntKind.wrap,IntKind.signed,IntKind.bits];simp;omega
theorem jS {α β:Type} (a:α) (f:α->Option β):Option.bind (some a) f=f a:=rfl
theorem kS (n:Nat):Int.toNat (n:Int)=n:=rfl
theorem wS (i:Nat) (h:i<9223372036854775807):IntKind.wrap .i64 ((i:Int)+1)=((i+1:Nat):Int):=by rw[w64]<;>omega
theorem z0S (i:Nat):decide ((0:Int)<=↑i)=true:=by simp
theorem X1F {σ ω γ:Type} (st:σ->Option (σ⊕ω)) (k:ω->Option γ) (s:σ):Option.bind (Z9a st s) k=Option.bind (st s) (Sum.elim (fun s'=>Option.bind (Z9a st s') k) k):=by
 rw[Zlk];cases st s with
 | none=>rfl
 | some r=>cases r<;>rfl
theorem Xp {β σ ω γ:Type} (st:σ->Option (σ⊕ω)) (k:ω->Option γ) (n:Nat) (emb:Nat->β->σ) (P:Nat->β->Prop) (nice:Nat->β->Option γ)
  (d:∀b,P n b->∀R:σ->Option γ,Option.bind (st (emb n b)) (Sum.elim R k)=nice n b)
  (e:∀i b,i<n->P i b->∀R:σ->Option γ,(∀b',P (i+1) b'->R (emb (i+1) b')=nice (i+1) b')->Option.bind (st (emb i b)) (Sum.elim R k)=nice i b) :
  ∀i b,i<=n->P i b->Option.bind (Z9a st (emb i b)) k=nice i b:=by
 intro i b hi c
 induction hj:n-i generalizing i b with
 | zero =>
  have:i=n:=by omega
  subst this;rw[X1F];exact d b c _
 | succ j ih =>
  rw[X1F];exact e i b (by omega) c _ fun b' a=>ih (i+1) b' (by omega) a (by omega)
theorem X6R {a b:Int} (h:¬a=b):(a==b)=false:=beq_eq_false_iff_ne.2 h
theorem X4x {a b:Int} (h:¬a=b):(a != b)=true:=bne_iff_ne.2 h
theorem Xo {α:Type} (l:List α) (i:Nat) (d:α) (h:i<l.length):l.getD i d=l[i]:=by simp[List.getD,h]
theorem X5U {β σ ω:Type} (st:σ->Option (σ⊕ω)) (n:Nat) (emb:Nat->β->σ) (P:Nat->β->Prop) (Q:ω->Prop)
  (e:∀b,P n b->∃w,st (emb n b)=some (.inr w)/\Q w)
  (g:∀i b,i<n->P i b->(∃w,st (emb i b)=some (.inr w)/\Q w)\/∃b',st (emb i b)=some (.inl (emb (i+1) b'))/\P (i+1) b') :
  ∀i b,i<=n->P i b->∃w,Z9a st (emb i b)=some w/\Q w:=by
 intro i b hi d
 induction hj:n-i generalizing i b with
 | zero =>
  have:i=n:=by omega
  subst this;obtain⟨w,c,a⟩:=e b d;exact⟨w,by rw[Zlk,c];rfl,a⟩
 | succ j ih =>
  rcases g i b (by omega) d with⟨w,c,a⟩|⟨b',c,a⟩
  ·exact⟨w,by rw[Zlk,c];rfl,a⟩
  ·obtain⟨w,f,h⟩:=ih (i+1) b' (by omega) a (by omega)
   exact⟨w,by rw[Zlk,c];exact f,h⟩
def X1C (lo hi:Int) (l:List Int):Bool:=l.any fun n=>decide (n<lo)||decide (n>hi)
theorem X4C (lo hi:Int):X1C lo hi []=false:=rfl
theorem X4b (lo hi n:Int) (l:List Int):X1C lo hi (n::l)=(decide (n<lo)||decide (n>hi)||X1C lo hi l):=rfl
def inN (n lo hi:Int):Bool:=decide (lo<=n)&&decide (n<=hi)
theorem X3r (n lo hi:Int):X2O n lo hi=some (inN n lo hi):=by
 unfold X2O inN
 by_cases h:lo<=n<;>simp[h]
def X3z:Int->List UInt8->Option Int
 | last,[]=>some last
 | last,c::l=>if 97<=(c.toNat:Int)/\(c.toNat:Int)<=122 then X3z c.toNat l else if(c.toNat:Int)≠45\/last=45 then none else X3z c.toNat l
def X3a:Option Int->Bool
 | none=>false
 | some last=>last != 45
def X3b (s:ByteArray):Bool:=decide (s.size<=14)&&X3a (X3z 45 s.toList)
theorem X6g (s:ByteArray) (i:Nat) (h:(s.get! i).toNat<128):Utf8.decode s i=((s.get! i).toNat,1):=by
 unfold Utf8.decode;simp only[Nat.add_zero];rw[if_pos h]
theorem X6f (s:ByteArray) (i:Nat) (h:¬(s.get! i).toNat<128):128<=(Utf8.decode s i).1:=by
 unfold Utf8.decode;simp only[Nat.add_zero,Utf8.runeError];rw[if_neg h]
 repeat' split
 all_goals simp_all
 all_goals omega
theorem Wg (s:ByteArray):s.toList.length=s.size:=by rw[ByteArray.toList_eq];rfl
theorem X5Z (s:ByteArray) (i:Nat) (h:i<s.toList.length):s.get! i=s.toList[i]:=by
 have a:i<s.size:=by rw[<-Wg];exact h
 simp only[ByteArray.toList_eq];show(s.data[i]!)=_;have b:i<s.data.size:=a;rw[getElem!_pos s.data i b];rfl
theorem X5m (s:ByteArray):X3F s=some (X3b s):=by
 have key:=Xp (Wo s s) (fun o0=>Sum.elim (fun y1:Bool×Nat=>some y1.fst) (fun y2:Int×Nat=>bif decide ((↑(ByteArray.size s):Int)<=14)then some (y2.fst != 45)else some false) o0) s.toList.length (fun i (b:Int)=>(b,i)) (fun _ _=>True) (fun i b=>some (decide (s.size<=14)&&X3a (X3z b (s.toList.drop i))))
  (by
   intro b _ R;have hh:(decide ((↑s.size:Int)<=14))=decide (s.size<=14):=by rw[decide_eq_decide];omega
   have j:s.toList.drop s.size=[]:=jd (by rw[Wg];exact Nat.le_refl _)
   simp only[j,X3z,X3a,Wo,WF,Wg,hh,Nat.lt_irrefl,decide_false,jA,jS,jy];cases decide (s.size<=14)<;>simp)
  (by
   intro i b hi _ R k;have f:i<s.size:=by rw[<-Wg];exact hi
   have g:=X5Z s i hi;simp only[Wo,WF];rw[jb hi];simp only[X3z]
   by_cases h:(s.get! i).toNat<128
   ·rw[X6g s i h];have e:=k ((s.get! i).toNat:Int) trivial;rw[g]at *;generalize s.toList[i]=c at *;simp only[f,decide_true,jB]
    by_cases h1:97<=(c.toNat:Int)
    ·have q1:decide ((c.toNat:Int)>=97)=true:=decide_eq_true h1
     by_cases h2:(c.toNat:Int)<=122
     ·have q2:decide ((c.toNat:Int)<=122)=true:=decide_eq_true h2;simp only[decide_true,decide_false,q1,q2,jB,jS,jw,h1,h2,and_self,if_true];exact e
     ·have q2:decide ((c.toNat:Int)<=122)=false:=decide_eq_false h2;have a:¬((c.toNat:Int)=45):=by omega
      have q3:((c.toNat:Int) != 45)=true:=bne_iff_ne.2 a;simp only[decide_true,decide_false,q1,q2,q3,jB,jA,jS,jw,jy,h2,and_false,if_false,ne_eq,a,not_false_iff,true_or,if_true,X3a,Bool.and_false]
    ·have q1:decide ((c.toNat:Int)>=97)=false:=decide_eq_false h1
     by_cases a:(c.toNat:Int)=45
     ·have q3:((c.toNat:Int) != 45)=false:=by rw[a];rfl
      by_cases h4:b=45
      ·have q4:(b==45)=true:=by rw[h4];rfl
       rw[q1,q3,q4,if_neg (fun hc=>h1 hc.1),if_pos (Or.inr h4)];simp[X3a]
      ·have q4:(b==45)=false:=beq_eq_false_iff_ne.2 h4;simp only[decide_true,decide_false,q1,q3,q4,jB,jA,jS,jw,jy,h1,false_and,if_false,h4,ne_eq,a,not_true,or_self,if_true];rw[a]at e;exact e
     ·have q3:((c.toNat:Int) != 45)=true:=bne_iff_ne.2 a;simp only[decide_true,decide_false,q1,q3,jB,jA,jS,jw,jy,h1,false_and,if_false,ne_eq,a,not_false_iff,true_or,if_true,X3a,Bool.and_false]
   ·have h':=X6f s i h;rw[g]at h;generalize s.toList[i]=c at *;simp only[f,decide_true,jB];generalize (Utf8.decode s i)=d at *;have e1:((d.1:Nat):Int)>=97:=by omega
    have e2:¬((d.1:Nat):Int)<=122:=by omega
    have e3:¬((d.1:Nat):Int)=45:=by omega
    have e4:¬((c.toNat:Int)<=122):=by omega
    have e5:¬((c.toNat:Int)=45):=by omega
    have q1:decide (((d.1:Nat):Int)>=97)=true:=decide_eq_true e1;have q2:decide (((d.1:Nat):Int)<=122)=false:=decide_eq_false e2;have q3:(((d.1:Nat):Int) != 45)=true:=bne_iff_ne.2 e3;simp only[decide_true,decide_false,q1,q2,q3,jB,jA,jS,jw,jy,e4,and_false,if_false,ne_eq,e5,not_false_iff,true_or,if_true,X3a,Bool.and_false])
 exact(key 0 45 (by omega) trivial).trans (by simp[X3b])
theorem X5o (s:ByteArray):X3d s=some (X3b s):=by
 unfold X3d;rw[X3r];simp only[jS]
 by_cases hsz:1<=s.size/\s.size<=14
 ·have e1:inN (↑s.size) 1 14=true:=by simp[inN];omega
  rw[e1];simp only[Bool.not_true,jA];have o:=Wg s;have key:=Xp (Wy s) (fun o0=>Sum.elim (fun y76:Bool=>some y76) (fun _:Unit=>some true) o0) s.toList.length (fun i (_:Int)=>(i:Int)) (fun i b=>b=if i=0 then 45 else((s.toList.getD (i-1) 0).toNat:Int)) (fun i b=>some (if i<s.toList.length then X3a (X3z b (s.toList.drop i))else true))
   (by
    intro b _ R;simp[Wy,WN,Wg])
   (by
    intro i b hi j R n;have m:i<s.size:=by rw[<-Wg];exact hi
    simp only[Wy,WN];rw[jb hi];have a:=n ((s.toList[i]).toNat:Int) (by simp[List.getD,hi])
    have l:=wS i (by omega)
    have f:IntKind.wrap .i64 ((i:Int)-1)=((i:Int)-1):=by rw[w64]<;>omega
    have e:IntKind.wrap .i64 ((s.size:Int)-1)=((s.size:Int)-1):=by rw[w64]<;>omega
    simp only[X3z,kS,Xo _ _ _ hi,l,f,e];have d1:decide ((i:Int)<↑s.size)=true:=by simp[m]
    have d2:=z0S i;simp only[d1,d2,ju,jB,hi,if_true];generalize hc:s.toList[i]=c at *
    by_cases h1:97<=(c.toNat:Int)/\(c.toNat:Int)<=122
    ·have q1:decide ((c.toNat:Int)>=97)=true:=decide_eq_true h1.1;have q2:decide ((c.toNat:Int)<=122)=true:=decide_eq_true h1.2;simp only[decide_true,decide_false,q1,q2,jB,jS,jw,h1,and_self,if_true];have d:¬((c.toNat:Int)=45):=by omega
     rw[a]
     by_cases hi2:i+1<s.toList.length
     ·simp[hi2]
     ·have:s.toList.drop (i+1)=[]:=jd (by omega)
      simp[hi2,this,X3z,X3a,d]
    ·have g:(bif decide ((c.toNat:Int)>=97)then bif decide ((c.toNat:Int)<=122)then true else false else false)=false:=by
      by_cases a1:(c.toNat:Int)>=97
      ·by_cases a2:(c.toNat:Int)<=122
       ·exact absurd ⟨a1,a2⟩ h1
       ·simp[a1,a2]
      ·simp[a1]
     have g2:∀(Z:Type) (x y:Z),(bif decide ((c.toNat:Int)>=97)then bif decide ((c.toNat:Int)<=122)then x else y else y)=y:=by
      intro Z x y
      by_cases a1:(c.toNat:Int)>=97
      ·by_cases a2:(c.toNat:Int)<=122
       ·exact absurd ⟨a1,a2⟩ h1
       ·simp[a1,a2]
      ·simp[a1]
     rw[g2,if_neg h1]
     by_cases h2:(c.toNat:Int)=45
     ·simp only[h2,bne_self_eq_false,jA]
      by_cases h3:i=0
      ·subst h3;simp[j,X3a]
      ·by_cases h4:i+1=s.size
       ·have:s.toList.drop (i+1)=[]:=jd (by omega)
        have e5:(i:Int)=(s.size:Int)-1:=by omega
        have e6:((s.size:Int)-1==0)=false:=by simp;omega
        simp only[e5,e6,this,X3z]
        by_cases h5:b=45<;>simp[h5,X3a]
       ·have e5:((i:Int)==(s.size:Int)-1)=false:=by simp;omega
        have e6:((i:Int)==0)=false:=by simp;omega
        have e7:(0:Int)<=(i:Int)-1:=by omega
        have e8:(i:Int)-1<(s.size:Int):=by omega
        have e9:((i:Int)-1).toNat=i-1:=by omega
        simp only[e5,e6,e7,e8,e9,jA,decide_true,ju,jB];simp only[h3,if_false]at j;rw[<-j]
        by_cases h5:b=45
        ·simp[h5,X3a]
        ·have q5:(b==45)=false:=beq_eq_false_iff_ne.2 h5;rw[h2]at a;rw[q5];simp only[jA,jS,jw,ne_eq,not_true,false_or,h5,if_false];rw[a];simp[show i+1<s.toList.length by omega]
     ·have:((c.toNat:Int) != 45)=true:=by simp[h2]
      simp[this,h2,X3a])
  have:=key 0 45 (by omega) (by simp)
  refine this.trans ?_;simp[X3b,show 0<s.toList.length by omega,hsz.2]
 ·have e1:inN (↑s.size) 1 14=false:=by
   simp[inN];omega
  rw[e1];simp only[Bool.not_false,jB,X3b]
  by_cases h:s.size<=14
  ·have k:s.toList=[]:=by
    apply List.eq_nil_of_length_eq_zero;rw[Wg];omega
   simp[k,X3z,X3a]
  ·simp[h]
theorem X4a (n lo hi:Int):inN n lo hi = !X1C lo hi [n]:=by
 simp only[inN,X4b,X4C,Bool.or_false,Bool.not_or];congr 1<;>rw[<-decide_not,decide_eq_decide]<;>omega
def X4c (lo hi:Int):Int->List Y1->Int
 | e,[]=>e
 | e,s::l=>if X1C lo hi [s.Lo,s.Hi]then 7 else X4c lo hi (if s.Lo>s.Hi then 2 else e) l
theorem X52 (l:List Y1) (lo hi:Int) (h:l.length<1000000):X2w l lo hi=some (X4c lo hi 0 l):=by
 unfold X2w;exact Xp (W5 lo l hi) _ l.length (fun i (b:Int)=>(b,(i:Int))) (fun _ _=>True) (fun i b=>some (X4c lo hi b (l.drop i)))
   (by
    intro b _ R;simp[W5,Wd,X4c])
   (by
    intro i b c _ R d;simp only[W5,Wd];rw[jb c];have e:=wS i (by omega)
    simp only[kS,Xo _ _ _ c,X4c,e];rw[X3r,X3r,X4a,X4a];have g:decide ((i:Int)<↑l.length)=true:=by simp[c]
    have f:=z0S i;simp only[g,f,ju,jB,jS];have a:X1C lo hi [l[i].Lo,l[i].Hi]=(X1C lo hi [l[i].Lo]||X1C lo hi [l[i].Hi]):=by simp[X1C]
    rw[a];cases h3:X1C lo hi [l[i].Lo]
    ·cases h4:X1C lo hi [l[i].Hi]
     ·by_cases h5:l[i].Lo>l[i].Hi
      ·have:=d 2 trivial;simp only[h5];simp;simpa using this
      ·have:=d b trivial;simp only[h5];simp;simpa using this
     ·simp
    ·simp) 0 0 (by omega) trivial
theorem Z9E (a b:ByteArray):(a==b)=(a.data==b.data):=by cases a;cases b;rfl
instance:LawfulBEq ByteArray where
 rfl:=by intro a;rw[Z9E];simp
 eq_of_beq:=by
  intro a b h;rw[Z9E]at h;have:=eq_of_beq h;cases a;cases b;simp only at this;rw[this]
instance:DecidableEq ByteArray:=fun a b=>if h:(a==b)=true then isTrue (eq_of_beq h)else isFalse (fun e=>h (by rw[e];simp))
def X3H (s:ByteArray) (names:List ByteArray):Int:=if X3b s then(if s∈names then 5 else 0)else 6
theorem X5j {a b:ByteArray} (h:a.toList=b.toList):a=b:=by
 cases a;cases b;simp only[ByteArray.toList_eq]at h;congr 1;exact Array.ext' h
theorem X5f (s:ByteArray) (names:List ByteArray) (j:names.length<1000000):X2N s names=some (X3H s names):=by
 unfold X2N X3H;rw[X5o];simp only[jS];cases X3b s
 ·simp
 ·simp only[Bool.not_true,jA,if_true];unfold X3p;have key:=Xp (XO s names) (fun o78=>Option.bind (Sum.elim (fun y79:Int=>some y79) (fun _:Unit=>some (-1)) o78) fun r82=>bif decide (r82>=0)then some (5:Int)else some 0) names.length (fun i (_:Unit)=>(i:Int)) (fun _ _=>True) (fun i _=>some (if s∈names.drop i then 5 else 0))
   (by
    intro b _ R;simp[XO,Wk])
   (by
    intro i b hi _ R f;have c:=f () trivial;simp only[XO,Wk];rw[jb hi];have d:=wS i (by omega)
    simp only[kS,Xo _ _ _ hi,d];have g:decide ((i:Int)<↑names.length)=true:=by simp[hi]
    have e:=z0S i;simp only[g,e,ju,jB]
    by_cases h:names[i]=s
    ·simp[h]
    ·have h':(names[i].toList==s.toList)=false:=by
      simp only[beq_eq_false_iff_ne];intro hh;exact h (X5j hh)
     have a:¬s=names[i]:=fun hh=>h hh.symm;simp only[h',jA,jS,jw,jv,a,false_or];exact c)
  have:=key 0 () (by omega) trivial
  simp only[List.drop_zero]at this;rw[<-this];show Option.bind (Option.bind _ _) _=Option.bind _ _;unfold X2k;simp only[Int.natCast_zero];cases Z9a (XO s names) 0<;>rfl
theorem Wi (lo up:Int) (l:List Int) (g:l.length<1000000):XA lo up l=some (X1C lo up l):=by
 rw[X3w];unfold X15;have key:=Xp (XS (↑l.length) l up lo) (fun o3=>Sum.elim (fun y4:Int=>some (decide (y4>=0))) (fun _=>some (decide ((-1:Int)>=0))) o3) l.length (fun i (_:Unit)=>(i:Int)) (fun _ _=>True) (fun i _=>some (X1C lo up (l.drop i)))
  (by
   intro b _ R;simp[XS,XX,X4C])
  (by
   intro i b hi _ R e;have a:=e () trivial;simp only[XS,XX];rw[jb hi];simp only[kS,Xo _ _ _ hi,X4b];have c:=wS i (by omega)
   rw[c];have f:decide ((i:Int)<↑l.length)=true:=by simp[hi]
   have d:=z0S i;simp only[f,d,ju,jB]
   by_cases h3:l[i]<lo
   ·simp[h3]
   ·by_cases h4:l[i]>up
    ·simp[h3,h4]
    ·simp[h3,h4];exact a)
 exact(key 0 () (by omega) trivial).trans (by simp)
theorem X32 (n lo hi:Int):X2P n lo hi=some (inN n lo hi):=by
 rw[X4Z];unfold X2A inN
 by_cases h:lo<=n<;>simp[h]
def X3t (r:CoRecord) (dev st:Int) (s:Y1):Int :=
 if X1C 0 ((r.Devices.length:Int)-1) [dev]then 4 else
 if X1C 0 (IntKind.wrap .i64 ((r.Devices.getD dev.toNat (Zh.mk ByteArray.empty 0 0)).States-1)) [st]then 7 else
 if X1C 0 9999 [s.Lo,s.Hi]then 7 else if s.Lo>s.Hi then 2 else 0
theorem X22 {lo hi n:Int} (h:X1C lo hi [n]=false):lo<=n/\n<=hi:=by
 simp only[X4b,X4C,Bool.or_false,Bool.or_eq_false_iff,decide_eq_false_iff_not]at h;omega
theorem X5a (r:CoRecord) (x:Zt) (hr:r.Devices.length<=1000000):X3G r x=some (X3t r x.Device x.State x.At):=by
 rw[X4h];unfold X1R;have w1:IntKind.wrap .i64 ((r.Devices.length:Int)-1)=(r.Devices.length:Int)-1:=by rw[w64]<;>omega
 rw[w1,Wi _ _ _ (by simp)]
 simp only[jS];unfold X3t;cases h1:X1C 0 ((r.Devices.length:Int)-1) [x.Device]with
 | true=>rfl
 | false =>
  have h:=X22 h1;have c1:decide (0<=x.Device)=true:=by simp[h.1]
  have c2:decide (x.Device<(r.Devices.length:Int))=true:=by simp;omega
  simp only[jA,c1,c2,ju,jB];rw[Wi _ _ _ (by simp)]
  simp only[jS];cases h2:X1C 0 (IntKind.wrap .i64 ((r.Devices.getD x.Device.toNat (Zh.mk ByteArray.empty 0 0)).States-1)) [x.State]with
  | true=>rfl
  | false =>
   simp only[jA];rw[Wi _ _ _ (by simp)]
   simp only[jS];cases h3:X1C 0 9999 [x.At.Lo,x.At.Hi]with
   | true=>rfl
   | false=>by_cases h4:x.At.Lo>x.At.Hi<;>simp[h4]
theorem X5g (r:CoRecord) (dev st:Int) (s:Y1) (hr:r.Devices.length<=1000000):X3K r dev st s=some (X3t r dev st s):=by
 rw[X4t];unfold X1Y;have w1:IntKind.wrap .i64 ((r.Devices.length:Int)-1)=(r.Devices.length:Int)-1:=by rw[w64]<;>omega
 rw[w1,X32,X4a];simp only[jS];unfold X3t;cases h1:X1C 0 ((r.Devices.length:Int)-1) [dev]with
 | true=>rfl
 | false =>
  have h:=X22 h1;have c1:decide (0<=dev)=true:=by simp[h.1]
  have c2:decide (dev<(r.Devices.length:Int))=true:=by simp;omega
  simp only[Bool.not_false,Bool.not_true,jA,c1,c2,ju,jB];rw[X32,X4a];simp only[jS];cases h2:X1C 0 (IntKind.wrap .i64 ((r.Devices.getD dev.toNat (Zh.mk ByteArray.empty 0 0)).States-1)) [st]with
  | true=>rfl
  | false =>
   simp only[Bool.not_false,Bool.not_true,jA];unfold X3q;rw[X52 _ _ _ (by simp)]
   simp only[jS,X4c];cases h3:X1C 0 9999 [s.Lo,s.Hi]with
   | true=>rfl
   | false=>by_cases h4:s.Lo>s.Hi<;>simp[h4]
def X28 {α:Type} (f:Nat->α->Int):Nat->List α->Int×Int
 | _,[]=>(0,0)
 | i,x::xs=>if f i x≠0 then((i:Int),f i x)else X28 f (i+1) xs
theorem X2L {α:Type} (f:Nat->α->Int) (i:Nat) (x:α) (xs:List α):X28 f i (x::xs)=if f i x≠0 then((i:Int),f i x)else X28 f (i+1) xs:=rfl
def Xn:Int->Nat->List Zl->Int×Int
 | _,_,[]=>(0,0)
 | least,i,x::xs=>if(if x.At.Lo>least then x.At.Lo else least)>x.At.Hi then((i:Int),9)else Xn (if x.At.Lo>least then x.At.Lo else least) (i+1) xs
theorem X41 (least:Int) (i:Nat) (x:Zl) (xs:List Zl):Xn least i (x::xs)=if(if x.At.Lo>least then x.At.Lo else least)>x.At.Hi then((i:Int),9)else Xn (if x.At.Lo>least then x.At.Lo else least) (i+1) xs:=rfl
def X5b (names:List ByteArray) (d:Zh):Int :=
 if X3H d.Name names≠0 then X3H d.Name names else if X1C 2 4 [d.States]||X1C 0 (IntKind.wrap .i64 (d.States-1)) [d.First]then 7 else 0
def X2C (r:CoRecord):Int×Int:=X28 (fun i d=>X5b ((r.Devices.take i).map (·.Name)) d) 0 r.Devices
def X26 (r:CoRecord):Int×Int:=X28 (fun _ x=>X3t r x.Device x.State x.At) 0 r.Entries
def X11 (r:CoRecord):Int×Int×Int :=
 if X1C 1 4 [(r.Devices.length:Int)]||decide ((r.Entries.length:Int)>10)then(1,0,3)else
 if(X2C r).2≠0 then(2,(X2C r).1,(X2C r).2)else
 if(X26 r).2≠0 then(3,(X26 r).1,(X26 r).2)else
 if(Xn 0 0 r.Entries).2≠0 then(3,(Xn 0 0 r.Entries).1,(Xn 0 0 r.Entries).2)else(0,0,0)
theorem X4L (r:CoRecord) (d:r.Devices.length<=1000000) (f:r.Entries.length<=1000000):Xv (r.Entries,r)=some ((X26 r).1,(X26 r).2,r):=by
 rw[X1p];unfold Xk XJ;refine Eq.trans (Xp _ _ r.Entries.length (fun i (_:Unit)=>(i:Int)) (fun _ _=>True) (fun i _=>some ((X28 (fun _ x=>X3t r x.Device x.State x.At) i (r.Entries.drop i)).1,(X28 (fun _ x=>X3t r x.Device x.State x.At) i (r.Entries.drop i)).2,r)) ?_ ?_ 0 () (Nat.zero_le _) trivial) rfl
 ·intro b _ R;have e1:decide ((r.Entries.length:Int)<(r.Entries.length:Int))=false:=by simp
  simp only[Xh,Xc,e1,jA,List.drop_length];rfl
 ·intro i b hi _ R c;have a:=c () trivial;have e1:decide ((i:Int)<(r.Entries.length:Int))=true:=by simp[hi]
  have w1:=wS i (by omega)
  rw[jb hi,X2L];simp only[Xh,Xc,e1,z0S,kS,ju,jB,Xo _ _ _ hi,X5a r _ d,jS,w1];generalize X3t r r.Entries[i].Device r.Entries[i].State r.Entries[i].At=e
  by_cases he:e=0
  ·have c1:(e != 0)=false:=by simp[he]
   simp only[c1,jA,if_neg (fun h:e≠0=>h he)];exact a
  ·have c1:(e != 0)=true:=X4x he;simp only[c1,jB,if_pos he];rfl
theorem X4y (l:List Zl) (g:l.length<=1000000):∃q,Xw (l,0)=some ((Xn 0 0 l).1,(Xn 0 0 l).2,q):=by
 rw[X1r];unfold Xl XK;simp only
 let k:((Int×Int×Int×Zl×Zl)⊕Int)->Option (Int×Int×Int):=fun o41=>Sum.elim (fun y42=>some (y42.snd.fst,y42.fst,y42.snd.snd.fst)) (fun y43=>some (0,0,y43)) o41
 obtain⟨w,e,d⟩:=X5U (X4 l (l.length:Int)) l.length (fun i (b:Int)=>((i:Int),b)) (fun i b=>Xn b i (l.drop i)=Xn 0 0 l) (fun w=>∃q,k w=some ((Xn 0 0 l).1,(Xn 0 0 l).2,q))
  (fun b a=>by
   have e1:decide ((l.length:Int)<(l.length:Int))=false:=by simp
   simp only[X4,Xd,e1,jA];refine⟨_,rfl,b,?_⟩;rw[List.drop_length]at a;rw[<-a];rfl)
  (fun i b hi a=>by
   have e1:decide ((i:Int)<(l.length:Int))=true:=by simp[hi]
   have w1:=wS i (by omega)
   rw[jb hi,X41]at a;have f:(bif decide (l[i].At.Lo>b)then l[i].At.Lo else b)=(if l[i].At.Lo>b then l[i].At.Lo else b):=by by_cases h:l[i].At.Lo>b<;>simp[h]
   simp only[X4,Xd,e1,z0S,kS,ju,jB,Xo _ _ _ hi,w1,f]
   by_cases hc:(if l[i].At.Lo>b then l[i].At.Lo else b)>l[i].At.Hi
   ·left;rw[if_pos hc]at a;simp only[hc,decide_true,jB];refine⟨_,rfl,(if l[i].At.Lo>b then l[i].At.Lo else b),?_⟩;rw[<-a];rfl
   ·right;rw[if_neg hc]at a;simp only[hc,decide_false,jA];exact⟨_,rfl,a⟩) 0 0 (Nat.zero_le _) rfl
 have c:Z9a (X4 l (l.length:Int)) (0,0)=some w:=e;rw[c];exact d
theorem X59 (l:List Zh) (j:l.length<=1000000) (d:Zh) :
  (∃(i:Nat) (y:Zh),Xb (l.length:Int) l d 0=some (.inl ((i:Int),y))/\d.Name∈l.map (·.Name))\/(Xb (l.length:Int) l d 0=some (.inr ())/\¬d.Name∈l.map (·.Name)):=by
 obtain⟨w,f,e⟩:=X5U (X7 (l.length:Int) l d) l.length (fun i (_:Unit)=>(i:Int)) (fun i _=>∀x∈l.take i,x.Name≠d.Name)
  (fun w=>(∃(i:Nat) (y:Zh),w=.inl ((i:Int),y)/\d.Name∈l.map (·.Name))\/(w=.inr ()/\¬d.Name∈l.map (·.Name)))
  (fun _ c=>by
   have e1:decide ((l.length:Int)<(l.length:Int))=false:=by simp
   simp only[X7,X9,e1,jA];refine⟨_,rfl,.inr ⟨rfl,fun h=>?_⟩⟩;obtain⟨x,a,g⟩:=List.mem_map.1 h;rw[List.take_length]at c;exact c x a g)
  (fun i _ hi c=>by
   have e1:decide ((i:Int)<(l.length:Int))=true:=by simp[hi]
   have w1:=wS i (by omega)
   simp only[X7,X9,e1,z0S,kS,ju,jB,Xo _ _ _ hi,w1]
   by_cases hn:l[i].Name=d.Name
   ·left;have c1:(l[i].Name.toList==d.Name.toList)=true:=by rw[hn];simp
    simp only[c1,jB];exact⟨_,rfl,.inl ⟨i,_,rfl,List.mem_map.2 ⟨l[i],jl hi,hn⟩⟩⟩
   ·right;have c1:(l[i].Name.toList==d.Name.toList)=false:=beq_eq_false_iff_ne.2 fun h=>hn (X5j h);simp only[c1,jA];refine⟨(),by first|rfl|trivial,fun x a=>?_⟩
    rw[List.take_succ_eq_append_getElem hi]at a;rcases List.mem_append.1 a with q|q
    ·exact c x q
    ·rw[List.mem_singleton.1 q];exact hn) 0 () (Nat.zero_le _) (fun x a=>by simp at a)
 have b:Xb (l.length:Int) l d 0=some w:=f;rcases e with⟨i,y,rfl,h⟩|⟨rfl,h⟩
 ·exact .inl ⟨i,y,b,h⟩
 ·exact .inr ⟨b,h⟩
theorem X4K (r:CoRecord) (k:r.Devices.length<=1000000):Xu (r.Devices,r)=some ((X2C r).1,(X2C r).2,r):=by
 rw[X1i];unfold Xj XC;refine Eq.trans (Xp _ _ r.Devices.length (fun i (_:Unit)=>(i:Int)) (fun _ _=>True) (fun i _=>some ((X28 (fun i d=>X5b ((r.Devices.take i).map (·.Name)) d) i (r.Devices.drop i)).1,(X28 (fun i d=>X5b ((r.Devices.take i).map (·.Name)) d) i (r.Devices.drop i)).2,r)) ?_ ?_ 0 () (Nat.zero_le _) trivial) rfl
 ·intro b _ R;have e1:decide ((r.Devices.length:Int)<(r.Devices.length:Int))=false:=by simp
  simp only[Xg,X8,e1,jA,List.drop_length];rfl
 ·intro i b hi _ R h;have g:=h () trivial;have e1:decide ((i:Int)<(r.Devices.length:Int))=true:=by simp[hi]
  have e2:decide ((i:Int)<=(r.Devices.length:Int))=true:=by simp;omega
  have w1:=wS i (by omega)
  rw[jb hi,X2L];simp only[Xg,X8,e1,e2,z0S,kS,ju,jB,Xo _ _ _ hi,X5m,jS,w1,List.drop_zero];generalize r.Devices[i]=d;have c:X5b ((r.Devices.take i).map (·.Name)) d=if X3b d.Name then(if d.Name∈(r.Devices.take i).map (·.Name)then 5 else if X1C 2 4 [d.States]||X1C 0 (IntKind.wrap .i64 (d.States-1)) [d.First]then 7 else 0)else 6:=by
   unfold X5b X3H;generalize (r.Devices.take i).map (·.Name)=names;cases q1:X3b d.Name with
   | false=>rfl
   | true =>
    by_cases q2:d.Name∈names
    ·simp only[q2,if_true];rfl
    ·simp only[q2,if_true,if_false];rfl
  rw[c];cases hn:X3b d.Name with
  | false=>rfl
  | true =>
   simp only[Bool.not_true,jA,if_true];have a:(r.Devices.take i).length<=1000000:=by rw[List.length_take];omega
   rcases X59 (r.Devices.take i) a d with⟨j,y,f,e⟩|⟨f,e⟩
   ·have c1:decide ((j:Int)>=0)=true:=by simp
    simp only[f,jS,jw,c1,jB,if_pos e];rfl
   ·simp only[f,jS,jy,if_neg e];rw[Wi _ _ _ (by simp),Wi _ _ _ (by simp)]
    simp only[jS];cases q1:X1C 2 4 [d.States]with
    | true=>rfl
    | false =>
     cases q2:X1C 0 (IntKind.wrap .i64 (d.States-1)) [d.First]with
     | true=>rfl
     | false=>exact g
theorem X2V (r:CoRecord):X14 r=some (X11 r):=by
 rw[X3T];unfold X1A;rw[Wi _ _ _ (by simp)]
 simp only[jS];unfold X11;cases q1:X1C 1 4 [(r.Devices.length:Int)]with
 | true=>rfl
 | false =>
  have d:=X22 q1;have b:r.Devices.length<=1000000:=by omega
  by_cases q2:(r.Entries.length:Int)>10
  ·simp only[jA,q2,decide_true,jB,Bool.false_or,if_true]
  ·have a:r.Entries.length<=1000000:=by omega
   simp only[jA,q2,decide_false,Bool.false_or,X4K r b,jS];simp only[jg,if_false]
   by_cases q3:(X2C r).2=0
   ·have c3:((X2C r).2 != 0)=false:=by simp[q3]
    simp only[c3,jA,X4L r b a,jS,if_neg (fun h:(X2C r).2≠0=>h q3)]
    by_cases q4:(X26 r).2=0
    ·have c4:((X26 r).2 != 0)=false:=by simp[q4]
     obtain⟨q,c⟩:=X4y r.Entries a;simp only[c4,jA,c,jS,if_neg (fun h:(X26 r).2≠0=>h q4)]
     by_cases q5:(Xn 0 0 r.Entries).2=0
     ·have c5:((Xn 0 0 r.Entries).2 != 0)=false:=by simp[q5]
      simp only[c5,jA,if_neg (fun h:(Xn 0 0 r.Entries).2≠0=>h q5)]
     ·have c5:((Xn 0 0 r.Entries).2 != 0)=true:=X4x q5;simp only[c5,jB,if_pos q5]
    ·have c4:((X26 r).2 != 0)=true:=X4x q4;simp only[c4,jB,if_pos q4]
   ·have c3:((X2C r).2 != 0)=true:=X4x q3;simp only[c3,jB,if_pos q3]
theorem X2X (r:CoRecord):X1b r=some (X11 r):=by
 rw[X42];unfold X1D;rw[X32,X4a];simp only[jS];unfold X11;cases q1:X1C 1 4 [(r.Devices.length:Int)]with
 | true=>rfl
 | false =>
  have n:=X22 q1;have q:r.Devices.length<=4:=by omega
  by_cases q2:(r.Entries.length:Int)>10
  ·simp only[Bool.not_false,Bool.not_true,jA,q2,decide_true,jB,Bool.false_or,if_true]
  ·have p:r.Entries.length<=10:=by omega
   simp only[Bool.not_false,Bool.not_true,jA,q2,decide_false,Bool.false_or,jg,if_false];unfold X2l;refine Eq.trans (Xp _ _ r.Devices.length (fun i (b:List ByteArray)=>((i:Int),b)) (fun i b=>b=(r.Devices.take i).map (·.Name))
    (fun i _=>if(X28 (fun i d=>X5b ((r.Devices.take i).map (·.Name)) d) i (r.Devices.drop i)).2≠0 then some (2,(X28 (fun i d=>X5b ((r.Devices.take i).map (·.Name)) d) i (r.Devices.drop i)).1,(X28 (fun i d=>X5b ((r.Devices.take i).map (·.Name)) d) i (r.Devices.drop i)).2)else
     some (if(X26 r).2≠0 then(3,(X26 r).1,(X26 r).2)else if(Xn 0 0 r.Entries).2≠0 then(3,(Xn 0 0 r.Entries).1,(Xn 0 0 r.Entries).2)else(0,0,0))) ?_ ?_ 0 [] (Nat.zero_le _) rfl) ?_
   ·intro b _ R;have e1:decide ((r.Devices.length:Int)<(r.Devices.length:Int))=false:=by simp
    simp only[X1c,Wl,e1,jA,List.drop_length];show Option.bind (X1w r 0) _=some (if(X26 r).2≠0 then(3,(X26 r).1,(X26 r).2)else if(Xn 0 0 r.Entries).2≠0 then(3,(Xn 0 0 r.Entries).1,(Xn 0 0 r.Entries).2)else(0,0,0));unfold X1w;refine Eq.trans (Xp _ _ r.Entries.length (fun i (_:Unit)=>(i:Int)) (fun _ _=>True)
     (fun i _=>some (if(X28 (fun _ (x:Zl)=>X3t r x.Device x.State x.At) i (r.Entries.drop i)).2≠0 then(3,(X28 (fun _ (x:Zl)=>X3t r x.Device x.State x.At) i (r.Entries.drop i)).1,(X28 (fun _ (x:Zl)=>X3t r x.Device x.State x.At) i (r.Entries.drop i)).2)else if(Xn 0 0 r.Entries).2≠0 then(3,(Xn 0 0 r.Entries).1,(Xn 0 0 r.Entries).2)else(0,0,0))) ?_ ?_ 0 () (Nat.zero_le _) trivial) rfl
    ·intro b _ R;have e1:decide ((r.Entries.length:Int)<(r.Entries.length:Int))=false:=by simp
     simp only[X1d,Wm,e1,jA,List.drop_length];show Option.bind (X1x r (0,0)) _=some (if(Xn 0 0 r.Entries).2≠0 then(3,(Xn 0 0 r.Entries).1,(Xn 0 0 r.Entries).2)else(0,0,0));unfold X1x;refine Eq.trans (Xp _ _ r.Entries.length (fun i (b:Int)=>((i:Int),b)) (fun _ _=>True)
      (fun i b=>some (if(Xn b i (r.Entries.drop i)).2≠0 then(3,(Xn b i (r.Entries.drop i)).1,(Xn b i (r.Entries.drop i)).2)else(0,0,0))) ?_ ?_ 0 0 (Nat.zero_le _) trivial) rfl
     ·intro b _ R;simp only[X1e,Wn,e1,jA,List.drop_length];rfl
     ·intro i b hi _ R c;have e1:decide ((i:Int)<(r.Entries.length:Int))=true:=by simp[hi]
      have w1:=wS i (by omega)
      have o:(bif decide (r.Entries[i].At.Lo>b)then r.Entries[i].At.Lo else b)=(if r.Entries[i].At.Lo>b then r.Entries[i].At.Lo else b):=by by_cases h:r.Entries[i].At.Lo>b<;>simp[h]
      rw[jb hi,X41];simp only[X1e,Wn,e1,z0S,kS,ju,jB,Xo _ _ _ hi,w1,o]
      by_cases hc:(if r.Entries[i].At.Lo>b then r.Entries[i].At.Lo else b)>r.Entries[i].At.Hi
      ·rw[if_pos hc];simp only[hc,decide_true,jB];rfl
      ·rw[if_neg hc];simp only[hc,decide_false,jA];exact c _ trivial
    ·intro i b hi _ R c;have m:=c () trivial;have e1:decide ((i:Int)<(r.Entries.length:Int))=true:=by simp[hi]
     have w1:=wS i (by omega)
     rw[jb hi,X2L];simp only[X1d,Wm,e1,z0S,kS,ju,jB,Xo _ _ _ hi,X5g r _ _ _ (by omega:r.Devices.length<=1000000),jS,w1]
     generalize X3t r r.Entries[i].Device r.Entries[i].State r.Entries[i].At=e
     by_cases he:e=0
     ·have c1:(e != 0)=false:=by simp[he]
      simp only[c1,jA,if_neg (fun h:e≠0=>h he)];exact m
     ·have c1:(e != 0)=true:=X4x he;simp only[c1,jB,if_pos he];rfl
   ·intro i b hi j R c;have e1:decide ((i:Int)<(r.Devices.length:Int))=true:=by simp[hi]
    have w1:=wS i (by omega)
    have f:b.length=i:=by rw[j,List.length_map,List.length_take];omega
    have b1:Nat.ble ((i+1)*(16+1)) 200000000000000=true:=by rw[Nat.ble_eq];omega
    have g:=X5f r.Devices[i].Name b (by omega)
    have a:=c ((r.Devices.take (i+1)).map (·.Name)) rfl;rw[jb hi,X2L];simp only[X1c,Wl,e1,z0S,kS,ju,jB,Xo _ _ _ hi,g,jS,w1,f,List.length_singleton,b1];have k:b++[r.Devices[i].Name]=(r.Devices.take (i+1)).map (·.Name):=by rw[j,List.take_succ_eq_append_getElem hi,List.map_append];rfl
    rw[<-j];have l:X5b b r.Devices[i]=if X3H r.Devices[i].Name b≠0 then X3H r.Devices[i].Name b else if X1C 2 4 [r.Devices[i].States]||X1C 0 (IntKind.wrap .i64 (r.Devices[i].States-1)) [r.Devices[i].First]then 7 else 0:=rfl;rw[l];generalize X3H r.Devices[i].Name b=e
    by_cases he:e=0
    ·have c1:(e==0)=true:=by simp[he]
     have c2:(e != 0)=false:=by simp[he]
     simp only[c1,c2,jB,jA,if_neg (fun h:e≠0=>h he),X32,X4a,jS,Bool.not_not];cases q5:X1C 2 4 [r.Devices[i].States]with
     | true=>rfl
     | false =>
      simp only[jA,Bool.false_or];cases q6:X1C 0 (IntKind.wrap .i64 (r.Devices[i].States-1)) [r.Devices[i].First]with
      | true=>rfl
      | false =>
       simp only[jA];rw[k];exact a
    ·have c1:(e==0)=false:=X6R he;have c2:(e != 0)=true:=X4x he;simp only[c1,c2,jB,jA,if_pos he];rfl
   ·simp only[List.drop_zero];show(if(X2C r).2≠0 then some (2,(X2C r).1,(X2C r).2)else some (if(X26 r).2≠0 then(3,(X26 r).1,(X26 r).2)else if(Xn 0 0 r.Entries).2≠0 then(3,(Xn 0 0 r.Entries).1,(Xn 0 0 r.Entries).2)else(0,0,0)))=some (if(X2C r).2≠0 then(2,(X2C r).1,(X2C r).2)else if(X26 r).2≠0 then(3,(X26 r).1,(X26 r).2)else if(Xn 0 0 r.Entries).2≠0 then(3,(Xn 0 0 r.Entries).1,(Xn 0 0 r.Entries).2)else(0,0,0))
    by_cases q3:(X2C r).2=0
    ·simp only[ne_eq,q3,not_true_eq_false,if_false]
    ·simp only[ne_eq,q3,not_false_eq_true,if_true]
structure X72 (r:CoRecord):Prop where
 devs:1<=r.Devices.length/\r.Devices.length<=4
 many:r.Entries.length<=10
 dev:∀d∈r.Devices,(2<=d.States/\d.States<=4)/\0<=d.First/\d.First<d.States
 ent:∀x∈r.Entries,X3t r x.Device x.State x.At=0
 order:Xn 0 0 r.Entries=(0,0)
theorem X49 {α:Type} (f:Nat->α->Int):∀(l:List α) (i:Nat),(X28 f i l).2=0->∀(j:Nat) (h:j<l.length),f (i+j) l[j]=0
 | x::xs,i,h,j,hj=>by
  rw[X2L]at h
  by_cases he:f i x=0
  ·rw[if_neg (fun q=>q he)]at h;cases j with
   | zero=>exact he
   | succ j =>
    have:=X49 f xs (i+1) h j (by simpa using hj)
    rw[show i+(j+1)=i+1+j by omega]
    exact this
  ·rw[if_pos he]at h;exact absurd h he
theorem X5u:∀(l:List Zl) (a:Int) (i:Nat),(Xn a i l).2=0->Xn a i l=(0,0)
 | [],_,_,_=>rfl
 | x::xs,a,i,h=>by
  rw[X41]at h⊢
  by_cases hc:(if x.At.Lo>a then x.At.Lo else a)>x.At.Hi
  ·rw[if_pos hc]at h;exact absurd h (by simp)
  ·rw[if_neg hc]at h⊢;exact X5u xs _ _ h
theorem X6q {r:CoRecord} (h:(X11 r).2.2=0):X72 r:=by
 unfold X11 at h;cases q1:X1C 1 4 [(r.Devices.length:Int)]with
 | true=>rw[q1]at h;exact absurd h (by simp)
 | false =>
  have b:=X22 q1
  by_cases q2:(r.Entries.length:Int)>10
  ·simp only[q1,q2,decide_true,Bool.or_true,if_true]at h;exact absurd h (by simp)
  ·simp only[q1,q2,decide_false,Bool.or_self,jg,if_false]at h
   by_cases q3:(X2C r).2=0
   ·rw[if_neg (fun k=>k q3)]at h
    by_cases q4:(X26 r).2=0
    ·rw[if_neg (fun k=>k q4)]at h
     by_cases q5:(Xn 0 0 r.Entries).2=0
     ·refine⟨by omega,by omega,fun d b=>?_,fun x c=>?_,X5u _ _ _ q5⟩
      ·obtain⟨j,a,rfl⟩:=List.getElem_of_mem b;have:=X49 _ _ 0 q3 j a;simp only[X5b]at this;split at this
       ·rename_i k;exact absurd this k
       ·split at this
        ·exact absurd this (by simp)
        ·rename_i k;simp only[Bool.or_eq_true,not_or,Bool.not_eq_true]at k;have k1:=X22 k.1;have k2:=X22 k.2;rw[w64 (by omega) (by omega)]at k2
         omega
      ·obtain⟨j,a,rfl⟩:=List.getElem_of_mem c;exact X49 _ _ 0 q4 j a
     ·rw[if_pos q5]at h;exact absurd h q5
    ·rw[if_pos q4]at h;exact absurd h q4
   ·rw[if_pos q3]at h;exact absurd h q3
end Nore
open Go
namespace Nore
def Zhp (c:UInt8):List UInt8->List (List UInt8)
 | []=>[[]]
 | b::l=>if b=c then []::Zhp c l else match Zhp c l with
  | []=>[[b]]
  | w::ws=>(b::w)::ws
theorem X54 (c:UInt8) (l:List UInt8):Zhp c l≠[]:=by
 cases l with
 | nil=>simp[Zhp]
 | cons b l =>
  unfold Zhp;split
  ·simp
  ·split<;>simp
theorem X35 {c:UInt8}:∀{l:List UInt8},c∉l->Zhp c l=[l]
 | [],_=>rfl
 | b::l,h=>by
  simp only[jv,not_or]at h;unfold Zhp;rw[if_neg (fun e=>h.1 e.symm),X35 h.2]
theorem X17 {c:UInt8}:∀{a b:List UInt8},c∉a->Zhp c (a++c::b)=a::Zhp c b
 | [],b,_=>by simp[Zhp]
 | x::a,b,h=>by
  simp only[jv,not_or]at h;rw[List.cons_append,show Zhp c (x::(a++c::b))=if x=c then []::Zhp c (a++c::b)else match Zhp c (a++c::b)with|[]=>[[x]]|w::ws=>(x::w)::ws from rfl,if_neg (fun e=>h.1 e.symm),X17 h.2]
theorem X3Y (c:UInt8):∀l:List UInt8,c∉l\/∃a b,l=a++c::b/\c∉a
 | []=>.inl (by simp)
 | x::l=>by
  by_cases hx:x=c
  ·exact .inr ⟨[],l,by rw[hx];rfl,by simp⟩
  ·rcases X3Y c l with h|⟨a,b,f,d⟩
   ·exact .inl (by simp only[jv,not_or];exact⟨fun e=>hx e.symm,h⟩)
   ·exact .inr ⟨x::a,b,by rw[f];rfl,by simp only[jv,not_or];exact⟨fun e=>hx e.symm,d⟩⟩
theorem X6c (c:UInt8) (l:List UInt8):c∉l\/∃a b,l=a++c::b/\c∉b:=by
 rcases X3Y c l.reverse with h|⟨a,b,e,d⟩
 ·exact .inl (by simpa using h)
 ·refine .inr ⟨b.reverse,a.reverse,?_,by simpa using d⟩
  have:=congrArg List.reverse e;simpa using this
theorem X39 {c:UInt8}:∀{l:List UInt8},c∉l->Lib.indexByte l c = -1
 | [],_=>rfl
 | x::l,h=>by
  simp only[jv,not_or]at h;unfold Lib.indexByte;have a:(x==c)=false:=by simpa using fun e=>h.1 e.symm
  rw[a,X39 h.2];rfl
theorem X3I {c:UInt8}:∀{a b:List UInt8},c∉a->Lib.indexByte (a++c::b) c=a.length
 | [],b,_=>by simp[Lib.indexByte]
 | x::a,b,h=>by
  simp only[jv,not_or]at h;rw[List.cons_append];unfold Lib.indexByte;have d:(x==c)=false:=by simpa using fun e=>h.1 e.symm
  rw[d,X3I h.2];have:((a.length:Int) == -1)=false:=by rw[beq_eq_false_iff_ne];omega
  rw[this];simp
theorem X5e {c:UInt8}:∀{l:List UInt8},c∉l->Lib.index l [c] = -1
 | [],_=>rfl
 | x::l,h=>by
  simp only[jv,not_or]at h;unfold Lib.index;have a:[c].isPrefixOf (x::l)=false:=by simpa[List.isPrefixOf]using h.1
  rw[a,X5e h.2];rfl
theorem X5d {c:UInt8}:∀{a b:List UInt8},c∉a->Lib.index (a++c::b) [c]=a.length
 | [],b,_=>by simp[Lib.index,List.isPrefixOf]
 | x::a,b,h=>by
  simp only[jv,not_or]at h;rw[List.cons_append];unfold Lib.index;have d:[c].isPrefixOf (x::(a++c::b))=false:=by simpa[List.isPrefixOf]using h.1
  rw[d,X5d h.2];have:((a.length:Int) == -1)=false:=by rw[beq_eq_false_iff_ne];omega
  rw[this];simp
theorem X5y (c:UInt8):∀(n:Nat) (l:List UInt8) (f:Nat),l.length<=n->l.length<f->Lib.splitK [c] 0 (Lib.countFrom [c] f l) l=Zhp c l/\(Zhp c l).length=Lib.countFrom [c] f l+1
 | n,l,0,_,h=>by omega
 | n,l,f+1,hn,hf=>by
  rcases X3Y c l with h|⟨a,b,g,d⟩
  ·unfold Lib.countFrom;rw[X5e h,X35 h];simp[Lib.splitK]
  ·subst g;unfold Lib.countFrom;rw[X5d d,X17 d];have hi:((a.length:Int) == -1)=false:=by rw[beq_eq_false_iff_ne];omega
   rw[hi];simp only[jg,if_false,kS];have e:(a++c::b).drop (a.length+[c].length)=b:=by
    rw[List.drop_append];simp
   rw[e];cases n with
   | zero=>simp at hn
   | succ n =>
    have i:(a++c::b).length=a.length+b.length+1:=by simp;omega
    obtain⟨i1,i2⟩:=X5y c n b f (by omega) (by omega)
    rw[Nat.add_comm 1];unfold Lib.splitK;rw[X5d d,hi];simp only[jg,if_false,kS,e,i1,Nat.add_zero];refine⟨?_,by simp[i2]⟩
    rw[List.take_append];simp
theorem X6L (c:UInt8) (l:List UInt8):Lib.splitK [c] 0 (Lib.count l [c]) l=Zhp c l/\(Zhp c l).length=Lib.count l [c]+1 :=
 X5y c l.length l (l.length+1) (Nat.le_refl _) (Nat.lt_succ_self _)
theorem X2t (c:UInt8):∀(l:List UInt8),∀w∈Zhp c l,w.length<=l.length
 | [],w,h=>by simp[Zhp]at h;simp[h]
 | b::l,w,h=>by
  unfold Zhp at h;split at h
  ·rcases jv.1 h with e|e
   ·simp[e]
   ·have:=X2t c l w e;simp;omega
  ·split at h
   ·rename_i a;exact absurd a (X54 c l)
   ·rename_i v vs a;rcases jv.1 h with e|e
    ·have:=X2t c l v (by rw[a];simp)
     rw[e];simp;omega
    ·have:=X2t c l w (by rw[a];exact List.mem_cons_of_mem _ e)
     simp;omega
theorem X48 (c:UInt8):∀(l:List UInt8),(Zhp c l).length<=l.length+1
 | []=>by simp[Zhp]
 | b::l=>by
  have h:=X48 c l;unfold Zhp;split
  ·simp;omega
  ·split
   ·simp
   ·rename_i a;rw[a]at h;simp at h⊢;omega
def X1K (b:UInt8):Bool:=decide (48<=b.toNat)&&decide (b.toNat<=57)
def X3h (n:Nat) (l:List UInt8):Nat:=l.foldl (fun n b=>10*n+(b.toNat-48)) n
theorem X5k (n:Nat):X3h n []=n:=by unfold X3h;rw[List.foldl_nil]
theorem X3E (n:Nat) (b:UInt8) (l:List UInt8):X3h n (b::l)=X3h (10*n+(b.toNat-48)) l:=by unfold X3h;rw[List.foldl_cons]
theorem X5X (l:List UInt8) (n:Nat) (b:UInt8):X3h n (l++[b])=10*X3h n l+(b.toNat-48):=by
 unfold X3h;rw[List.foldl_append,List.foldl_cons,List.foldl_nil]
theorem X5H:∀(l:List UInt8) (n:Nat),n<=X3h n l
 | [],n=>Nat.le_refl _
 | x::l,n=>by
  rw[X3E];exact Nat.le_trans (by omega) (X5H l _)
abbrev dg (n:Nat):List UInt8:=Lib.decDigits n
theorem X3y {n:Nat} (h:n<10):dg n=[UInt8.ofNat (48+n)]:=Lib.decDigits_one h
theorem X5F {n:Nat} (h:¬n<10):dg n=dg (n / 10)++[UInt8.ofNat (48+n % 10)]:=by
 show Lib.decDigits n=_;rw[Lib.decDigits,dif_neg h]
theorem X57 {d:Nat} (h:d<10):(UInt8.ofNat (48+d)).toNat=48+d:=by
 rw[UInt8.toNat_ofNat'];omega
theorem X4z:∀(n:Nat),(dg n).all X1K=true/\dg n≠[]/\X3h 0 (dg n)=n/\((dg n).length=1\/(dg n).head? ≠ some 48)/\(0<n->(dg n).head? ≠ some 48):=fun n=>by
 induction n using Nat.strongRecOn with
 | _ n ih =>
  by_cases h:n<10
  ·rw[X3y h];have a:=X57 h;refine⟨by simp[X1K];omega,by simp,by rw[X3E,X5k,a];omega,.inl rfl,fun i=>?_⟩
   simp only[List.head?_cons,ne_eq,jh];intro e;rw[e]at a;simp at a;omega
  ·obtain⟨f,c,g,_,b⟩:=ih (n / 10) (by omega)
   have a:=X57 (d:=n % 10) (by omega)
   rw[X5F h];have hh:(dg (n / 10)++[UInt8.ofNat (48+n % 10)]).head?=(dg (n / 10)).head? := by
    cases hq:dg (n / 10)with
    | nil=>exact absurd hq c
    | cons x xs=>rfl
   refine⟨by simp only[List.all_append,f,Bool.true_and];simp[X1K];omega,by simp,by rw[X5X,g,a];omega,.inr (by rw[hh];exact b (by omega)),fun _=>by rw[hh];exact b (by omega)⟩
theorem X4N:∀(k n:Nat),n<10 ^ (k+1)->(dg n).length<=k+1
 | 0,n,h=>by rw[X3y (by simpa using h)];simp
 | k+1,n,h=>by
  by_cases hs:n<10
  ·rw[X3y hs];simp
  ·rw[X5F hs];have:=X4N k (n / 10) (by rw[Nat.pow_succ]at h;omega)
   simp;omega
theorem X70:∀(l:List UInt8),l≠[]->l.all X1K=true->(l.length=1\/l.head? ≠ some 48)->dg (X3h 0 l)=l:=fun l=>by
 induction hn:l.length generalizing l with
 | zero=>intro h;exact absurd (List.eq_nil_of_length_eq_zero hn) h
 | succ n ih =>
  intro f b c;have d:l=l.dropLast++[l.getLast f]:=(List.dropLast_concat_getLast f).symm;generalize hp:l.dropLast=p at d;generalize hx:l.getLast f=x at d;subst d;simp only[List.all_append,jt,List.all_nil,Bool.and_true,jn]at b;have i:48<=x.toNat/\x.toNat<=57:=by simpa[X1K]using b.2
  rw[X5X]
  by_cases hpn:p=[]
  ·subst hpn;simp only[X5k,Nat.mul_zero,Nat.zero_add,List.nil_append];rw[X3y (by omega)]
   congr 1;rw[show 48+(x.toNat-48)=x.toNat by omega]
   exact UInt8.ofNat_toNat
  ·have a:p.length=n:=by simpa using hn
   have hh:p.head? ≠ some 48:=by
    rcases c with c|c
    ·exact absurd (List.eq_nil_of_length_eq_zero (by omega)) hpn
    ·cases p with
     | nil=>exact absurd rfl hpn
     | cons y ys=>simpa using c
   have hv:dg (X3h 0 p)=p:=ih p a hpn b.1 (.inr hh);have g:1<=X3h 0 p:=by
    cases p with
    | nil=>exact absurd rfl hpn
    | cons y ys =>
     have j:48<=y.toNat/\y.toNat<=57:=by
      have:=b.1;simp only[jt,jn]at this;simpa[X1K]using this.1
     have hy:y.toNat≠48:=fun e=>hh (by
      simp only[List.head?_cons,jh];exact UInt8.toNat_inj.1 (by rw[e];rfl))
     have:=X5H ys (10*0+(y.toNat-48));rw[X3E];omega
   rw[X5F (by omega),show(10*X3h 0 p+(x.toNat-48)) / 10=X3h 0 p by omega,hv,show(10*X3h 0 p+(x.toNat-48)) % 10=x.toNat-48 by omega,show 48+(x.toNat-48)=x.toNat by omega]
   congr 2;exact UInt8.ofNat_toNat
theorem X5v:∀(l:List UInt8) (n:Nat),l.all X1K=true->X3h n l<1000000000000000000->Lib.parseUint10 n l=.ok (X3h n l)
 | [],n,_,_=>rfl
 | c::l,n,h,hv=>by
  simp only[jt,jn]at h;have hc:48<=c.toNat/\c.toNat<=57:=by simpa[X1K]using h.1
  rw[X3E]at hv⊢;have a:=X5H l (10*n+(c.toNat-48));unfold Lib.parseUint10;rw[if_pos hc,if_neg (by omega),if_neg (by omega)]
  rw[show n*10+(c.toNat-48)=10*n+(c.toNat-48) by omega]
  exact X5v l _ h.2 hv
theorem X69 {n:Nat} (h:n<1000000000000000000):Lib.atoiAll (dg n)=.ok (n:Int):=by
 obtain⟨a,d,b,_,_⟩:=X4z n;cases hq:dg n with
 | nil=>exact absurd hq d
 | cons c r =>
  have hc:48<=c.toNat/\c.toNat<=57:=by
   rw[hq]at a;simp only[jt,jn]at a;simpa[X1K]using a.1
  unfold Lib.atoiAll;simp only;rw[if_neg (by omega)]
  unfold Lib.parseMag;rw[if_neg (by simp),<-hq,X5v _ 0 a (by rw[b];exact h),b]
  simp only;rw[if_neg (by omega),if_neg (by omega),if_neg (by omega)]
def XB:Int->List UInt8->Int
 | b,[]=>b
 | b,c::l=>XB ((b*257+(c.toNat:Int)) % 65521) l
theorem XI:∀(l:List UInt8) (b:Int),0<=b->b<65521->0<=XB b l/\XB b l<65521
 | [],b,h1,h2=>⟨h1,h2⟩
 | c::l,b,h1,h2=>by
  simp only[XB];exact XI l _ (Int.emod_nonneg _ (by decide)) (Int.emod_lt_of_pos _ (by decide))
end Nore
open Go Go.Ab
namespace Nore
abbrev mkB (l:List UInt8):ByteArray:=⟨l.toArray⟩
theorem X2 (l:List UInt8):(mkB l).toList=l:=by rw[ByteArray.toList_eq]
theorem X5T (l:List UInt8):(mkB l).data.toList=l:=rfl
theorem X4O (s:ByteArray):mkB s.toList=s:=by rw[ByteArray.toList_eq]
theorem X0 (l:List UInt8):(mkB l).size=l.length:=rfl
theorem X2J (a b:List UInt8):mkB a++mkB b=mkB (a++b):=by
 apply ByteArray.ext;simp[mkB]
theorem X21 (l:List UInt8) (i j:Nat):(mkB l).extract i j=mkB ((l.take j).drop i):=by
 apply ByteArray.ext;simp[mkB,ByteArray.data_extract,List.drop_take]
theorem X55 (a b:List UInt8):((mkB a).toList==(mkB b).toList)=decide (a=b):=by
 rw[X2,X2]
 by_cases h:a=b
 ·subst h;simp
 ·simp[h]
theorem X5q (l:List UInt8):Exists.choose Zbh (mkB l)=l.map fun b=>(b.toNat:Int):=Zhm (mkB l)
theorem X4W (l:List UInt8):Exists.choose Z9I (l.map fun b=>(b.toNat:Int))=true:=by
 refine(Z9H _).trans ?_;rw[List.all_eq_true];intro n a;obtain⟨b,_,rfl⟩:=List.mem_map.1 a;have:=b.toNat_lt;simp;omega
theorem X58 (l:List UInt8):Exists.choose Zbj (l.map fun b=>(b.toNat:Int))=mkB l:=by
 refine(Zbi _).trans ?_;rw[List.map_map];have:((fun n:Int=>UInt8.ofNat n.toNat)∘fun b:UInt8=>(b.toNat:Int))=id:=by funext b;simp
 rw[this,List.map_id]
theorem X6D (n:Nat) (h:n<1000000000):Wb (n:Int)=some (mkB (dg n)):=by
 rw[X3Q];unfold X25 ZaS;have a:Zk7 (n:Int)=true:=by simp[Zk7];omega
 rw[a,jB,ZiQ _ (by omega) (by omega)]
 unfold Lib.itoa;rw[if_neg (by omega)];rfl
theorem X5n (l:List UInt8) (c:Nat) (hc:c<256):Wj (mkB l) (c:Int)=some (Lib.indexByte l c.toUInt8):=by
 rw[X2S];unfold W0;rw[WZ];rfl
theorem X4l (l:List UInt8) (c:UInt8) (e:l.length<1000000):Xm (mkB l) (mkB [c])=some (decide (l.getLast? = some c)):=by
 rw[WX];unfold Xf;rw[X0,X0];cases hq:l with
 | nil=>simp
 | cons x xs =>
  have a:l≠[]:=by rw[hq];simp
  rw[<-hq];have f:1<=l.length:=by rw[hq];simp
  have w:IntKind.wrap .i64 ((l.length:Int)-(([c].length:Nat):Int))=((l.length-1:Nat):Int):=by
   rw[w64]<;>simp<;>omega
  rw[w];have c1:decide ((l.length:Int)>=(([c].length:Nat):Int))=true:=by simp;omega
  have c2:decide ((0:Int)<=((l.length-1:Nat):Int))=true:=by simp
  have c3:decide (((l.length-1:Nat):Int)<=(l.length:Int))=true:=by simp
  rw[c1,c2,c3];simp only[ju,jB,kS];rw[X21,X55];congr 1;have d:l=l.dropLast++[l.getLast a]:=(List.dropLast_concat_getLast a).symm;have:(l.take l.length).drop (l.length-1)=[l.getLast a]:=by
   rw[List.take_length];have b:l.length-1=l.dropLast.length:=by simp
   rw[b]
   conv=>lhs;arg 2;rw[d]
   rw[List.drop_left]
  rw[this,List.getLast?_eq_some_getLast a];simp
theorem X5W (l:List UInt8) (c:UInt8) (a:l.length<1000000):XE (mkB l) (mkB [c])=some (mkB (if l.getLast? = some c then l.dropLast else l)):=by
 rw[X2D];unfold XQ;rw[WL];unfold Xa;rw[X4l l c a];simp only[jS]
 by_cases h:l.getLast? = some c
 ·have b:1<=l.length:=by
   cases l with
   | nil=>simp at h
   | cons x xs=>simp
  have w:IntKind.wrap .i64 (((mkB l).size:Int)-((mkB [c]).size:Int))=((l.length-1:Nat):Int):=by
   rw[X0,X0,w64]<;>simp<;>omega
  rw[w];have c2:decide ((0:Int)<=((l.length-1:Nat):Int))=true:=by simp
  have c3:decide (((l.length-1:Nat):Int)<=((mkB l).size:Int))=true:=by rw[X0];simp
  simp only[h,decide_true,jB,c2,c3,ju,jS,if_true,kS,X21,List.drop_zero,List.dropLast_eq_take]
 ·simp only[h,decide_false,jA,jS,if_false]
theorem X5P (l:List UInt8) (c:UInt8) (a:l.length<1000000):XP (mkB l) (mkB [c])=some (if l.getLast? = some c then(mkB l.dropLast,true)else(mkB l,false)):=by
 rw[X2Q];unfold XZ;rw[WV];unfold Xe;rw[X4l l c a];simp only[jS]
 by_cases h:l.getLast? = some c
 ·have b:1<=l.length:=by
   cases l with
   | nil=>simp at h
   | cons x xs=>simp
  have w:IntKind.wrap .i64 (((mkB l).size:Int)-((mkB [c]).size:Int))=((l.length-1:Nat):Int):=by
   rw[X0,X0,w64]<;>simp<;>omega
  rw[w];have c2:decide ((0:Int)<=((l.length-1:Nat):Int))=true:=by simp
  have c3:decide (((l.length-1:Nat):Int)<=((mkB l).size:Int))=true:=by rw[X0];simp
  simp only[h,decide_true,Bool.not_true,jA,jB,c2,c3,ju,jS,if_true,kS,X21,List.drop_zero,List.dropLast_eq_take]
 ·simp only[h,decide_false,Bool.not_false,jB,jS,if_false]
theorem X5z (l:List UInt8) (c:UInt8) (d:l.length<1000000):X2c (mkB l) (mkB [c])=some ((Zhp c l).map mkB):=by
 rw[X3C];unfold X1O Z8D;obtain⟨b,a⟩:=X6L c l;have e1:(mkB l).data.toList=l:=rfl;have e2:(mkB [c]).data.toList=[c]:=rfl;rw[e1,e2,b,a,X0,X0];have c1:Nat.blt l.length 4294967281=true:=by
  show Nat.ble _ _=true;exact Nat.ble_eq_true_of_le (by omega)
 have c2:Nat.ble 1 [c].length=true:=rfl;rw[c1,c2,Nat.beq_refl];rfl
theorem X5t (c:Int) (x:UInt8) (hc:(x.toNat:Int)=c) (l:List UInt8) (o:l.length<1000000):∀(n:Nat),n<=l.length →
  ∀(k:Int⊕Unit->Option Int),(∀y,k (.inl y)=some y)->(∀y,k (.inr y)=some (-1)) →
  (x∉l.take n->Option.bind (X1 c (mkB l) ((n:Int)-1)) k=some (-1)) ∧
  (∀a b,l.take n=a++x::b->x∉b->Option.bind (X1 c (mkB l) ((n:Int)-1)) k=some (a.length:Int))
 | 0,_,k,hi,hr=>by
  constructor
  ·intro _;unfold X1;rw[X1F];simp[X5,X3,hr]
  ·intro a b h _;simp at h
 | n+1,hn,k,hi,hr=>by
  obtain⟨i1,i2⟩:=X5t c x hc l o n (by omega) k hi hr
  have j:n<l.length:=by omega
  have g:Option.bind (X1 c (mkB l) (((n+1:Nat):Int)-1)) k =
    if l[n]=x then some (n:Int)else Option.bind (X1 c (mkB l) ((n:Int)-1)) k:=by
   unfold X1;rw[X1F];simp only[X5,X3];rw[show(((n+1:Nat):Int)-1)=(n:Int) by omega]
   have c1:decide ((n:Int)>=0)=true:=by simp
   have c2:decide ((0:Int)<=(n:Int))=true:=by simp
   have c3:decide ((n:Int)<((mkB l).size:Int))=true:=by rw[X0];simp;omega
   rw[c1,c3,X2];simp only[ju,jB,kS,Xo _ _ _ j];have w:IntKind.wrap .i64 ((n:Int)-1)=(n:Int)-1:=by rw[w64]<;>omega
   rw[w]
   by_cases hx:l[n]=x
   ·have:((l[n].toNat:Int)==c)=true:=by rw[hx,hc];simp
    rw[this,if_pos hx];simp[hi]
   ·have:((l[n].toNat:Int)==c)=false:=by
     rw[beq_eq_false_iff_ne];intro e;exact hx (UInt8.toNat_inj.1 (by omega))
    rw[this,if_neg hx];simp
  have d:l.take (n+1)=l.take n++[l[n]]:=List.take_succ_eq_append_getElem j;constructor
  ·intro h;rw[d]at h;simp only[List.mem_append,List.mem_singleton,not_or]at h;rw[g,if_neg (fun e=>h.2 e.symm)];exact i1 h.1
  ·intro a b h m;rw[g]
   by_cases hx:l[n]=x
   ·rw[if_pos hx];rw[d,hx]at h;cases hq:b.getLast? with
    | none =>
     have:b=[]:=List.getLast?_eq_none_iff.1 hq;subst this;have:=congrArg List.length h;simp at this;congr 1;omega
    | some y =>
     have f:b≠[]:=fun e=>by rw[e]at hq;cases hq
     have i:b=b.dropLast++[b.getLast f]:=(List.dropLast_concat_getLast f).symm;rw[i,<-List.cons_append,<-jj]at h;have:=(List.append_inj' h rfl).2;simp at this;exact absurd (this▸List.getLast_mem f) m
   ·rw[if_neg hx];rw[d]at h;cases hq:b.getLast? with
    | none =>
     have:b=[]:=List.getLast?_eq_none_iff.1 hq;subst this;have:=(List.append_inj' h rfl).2;simp at this;exact absurd this hx
    | some y =>
     have f:b≠[]:=fun e=>by rw[e]at hq;cases hq
     have i:b=b.dropLast++[b.getLast f]:=(List.dropLast_concat_getLast f).symm;rw[i,<-List.cons_append,<-jj]at h;have:=(List.append_inj' h rfl).1;exact i2 a b.dropLast this (fun e=>m (by rw[List.dropLast_eq_take]at e;exact List.mem_of_mem_take e))
theorem X4B (l:List UInt8) (e:l.length<1000000):(32∉l->Xs (mkB l) 32=some (-1))/\(∀a b,l=a++32::b->32∉b->Xs (mkB l) 32=some (a.length:Int)):=by
 rw[X2a];unfold Xy;rw[W8];unfold X6;have w:IntKind.wrap .i64 (((mkB l).size:Int)-1)=(l.length:Int)-1:=by rw[X0,w64]<;>omega
 rw[w];obtain⟨d,c⟩:=X5t 32 32 rfl l e l.length (Nat.le_refl _) (fun o250=>Sum.elim (fun y251=>some y251) (fun y252=>some (-1)) o250) (fun _=>rfl) (fun _=>rfl);rw[List.take_length]at d c;exact⟨fun h=>by rw[d h];rfl,fun a b h f=>by rw[c a b h f];rfl⟩
end Nore
open Go Go.Ab
namespace Nore
theorem X5r (n:Nat) (h:n<10):Exists.choose Z9I [IntKind.wrap IntKind.u8 (IntKind.wrap IntKind.i64 (48+(n:Int)))]=true/\Exists.choose Zbj [IntKind.wrap IntKind.u8 (IntKind.wrap IntKind.i64 (48+(n:Int)))]=mkB (dg n):=by
 have w:IntKind.wrap IntKind.u8 (IntKind.wrap IntKind.i64 (48+(n:Int)))=(((UInt8.ofNat (48+n)).toNat:Nat):Int):=by
  rw[w64 (by omega) (by omega),X57 h]
  simp only[IntKind.wrap,IntKind.signed,IntKind.bits];simp;omega
 rw[w,X3y h];exact⟨X4W [UInt8.ofNat (48+n)],X58 [UInt8.ofNat (48+n)]⟩
theorem X3X:∀(k m:Nat) (r:ByteArray),m<1000000000->Zby Wx k ((m:Int),())=some r->r=mkB (dg m)
 | 0,_,_,_,h=>by cases h
 | k+1,m,r,hm,h=>by
  replace h:Ww (Zby Wx k) (m:Int)=some r:=h;unfold Ww at h;have c1:decide ((m:Int)<0)=false:=by simp
  rw[c1,jA]at h
  by_cases hs:m<10
  ·have c2:decide ((m:Int)<10)=true:=by simp;omega
   obtain⟨b1,b2⟩:=X5r m hs;rw[c2,jB,b1,jB,b2]at h;cases h;rfl
  ·have c2:decide ((m:Int)<10)=false:=by simp;omega
   rw[c2,jA]at h;have w:IntKind.wrap IntKind.i64 (Int.tdiv (m:Int) 10)=((m / 10:Nat):Int):=by
    rw[Int.tdiv_eq_ediv_of_nonneg (by omega),w64]<;>omega
   have w2:Int.tmod (m:Int) 10=((m % 10:Nat):Int):=by
    rw[Int.tmod_eq_emod_of_nonneg (by omega)];omega
   rw[w,w2]at h;obtain⟨r1,b,h⟩:=Z0 h;obtain⟨r2,a,h⟩:=Z0 h;obtain⟨_,h⟩:=Z1 h;cases h;rw[X3X k (m / 10) r1 (by omega) b,X3X k (m % 10) r2 (by omega) a,X2J,X5F hs,X3y (n:=m % 10) (by omega)]
theorem X5c:∀(k m:Nat),m<10 ^ (k+1)->m<1000000000->∃r,Zby Wx (k+1) ((m:Int),())=some r
 | k,m,hk,hm=>by
  show ∃r,Ww (Zby Wx k) (m:Int)=some r;unfold Ww;have c1:decide ((m:Int)<0)=false:=by simp
  rw[c1,jA]
  by_cases hs:m<10
  ·have c2:decide ((m:Int)<10)=true:=by simp;omega
   obtain⟨b1,b2⟩:=X5r m hs;rw[c2,jB,b1,jB];exact⟨_,rfl⟩
  ·cases k with
   | zero=>exact absurd (by simpa using hk) hs
   | succ k =>
    have c2:decide ((m:Int)<10)=false:=by simp;omega
    rw[c2,jA];have w:IntKind.wrap IntKind.i64 (Int.tdiv (m:Int) 10)=((m / 10:Nat):Int):=by
     rw[Int.tdiv_eq_ediv_of_nonneg (by omega),w64]<;>omega
    have w2:Int.tmod (m:Int) 10=((m % 10:Nat):Int):=by
     rw[Int.tmod_eq_emod_of_nonneg (by omega)];omega
    have p1:10 ^ 1<=10 ^ (k+1):=Nat.pow_le_pow_right (by omega) (by omega)
    obtain⟨r1,b⟩:=X5c k (m / 10) (by rw[Nat.pow_succ]at hk;omega) (by omega)
    obtain⟨r2,a⟩:=X5c k (m % 10) (by omega) (by omega)
    rw[w,w2,b,a];simp only[jS];have e1:=X3X _ _ _ (by omega) b
    have e2:=X3X _ _ _ (by omega) a
    have l1:=X4N 8 (m / 10) (by omega)
    have l2:=X4N 8 (m % 10) (by omega)
    have:Nat.ble (ByteArray.size r1+ByteArray.size r2) 1099511627776=true:=Nat.ble_eq_true_of_le (by rw[e1,e2,X0,X0];omega)
    rw[this];exact⟨_,rfl⟩
theorem X5Y (m:Nat) (h:m<1000000000):XN (m:Int)=some (mkB (dg m)):=by
 unfold XN;refine ZlM (fun n r hr=>X3X n m r h hr) ?_;obtain⟨r,hr⟩:=X5c 8 m (by omega) h
 exact⟨_,r,hr⟩
def X31 (l:List UInt8):Int:=if l.length=0\/9<l.length\/(1<l.length/\l.head? = some 48)\/l.all X1K=false then -1 else(X3h 0 l:Int)
theorem Zhs {α:Type} {l:List α} {i:Nat} (h:i<l.length):l.drop i=l[i]::l.drop (i+1):=jb h
theorem X6A (l:List UInt8) (g:l.length<=9) (k:Int⊕Int->Option Int) (c:∀y,k (.inl y)=some y) (e:∀y,k (.inr y)=some y) :
  Option.bind (XG (mkB l) (0,0)) k=some (if l.all X1K=false then -1 else(X3h 0 l:Int)):=by
 unfold XG;have key:=Xp (XT (mkB l)) k l.length (fun i (a:Nat)=>((a:Int),(i:Int))) (fun i a=>i<=9/\a<10 ^ i)
  (fun i a=>some (if(l.drop i).all X1K=false then -1 else(X3h a (l.drop i):Int)))
  (by
   intro a _ R;have c1:decide ((l.length:Int)<((mkB l).size:Int))=false:=by rw[X0];simp
   simp only[XT,XY,c1,jA,jS,jy,e];simp[X5k])
  (by
   intro i a hi b R f;have c1:decide ((i:Int)<((mkB l).size:Int))=true:=by rw[X0];simp;omega
   have c2:decide ((0:Int)<=(i:Int))=true:=by simp
   simp only[XT,XY,c1,c2,ju,jB,X2,kS,Xo _ _ _ hi];rw[Zhs hi];simp only[jt]
   by_cases q1:(l[i].toNat:Int)<48
   ·have:X1K l[i]=false:=by simp[X1K];omega
    simp[q1,c,this]
   ·by_cases q2:(l[i].toNat:Int)>57
    ·have:X1K l[i]=false:=by simp[X1K];omega
     simp[q1,q2,c,this]
    ·have d:X1K l[i]=true:=by simp[X1K];omega
     have h:a<1000000000:=Nat.lt_of_lt_of_le b.2 (by have:10 ^ i<=10 ^ 9:=Nat.pow_le_pow_right (by omega) b.1;omega)
     have w1:IntKind.wrap .u8 ((l[i].toNat:Int)-48)=((l[i].toNat-48:Nat):Int):=by
      simp only[IntKind.wrap,IntKind.signed,IntKind.bits];simp;omega
     have w2:IntKind.wrap .i64 (IntKind.wrap .i64 (10*(a:Int))+IntKind.wrap .i64 (((l[i].toNat-48:Nat):Int)))=((10*a+(l[i].toNat-48):Nat):Int):=by
      rw[w64 (x:=10*(a:Int)) (by omega) (by omega),w64 (x:=((l[i].toNat-48:Nat):Int)) (by omega) (by omega),w64]<;>omega
     have w3:=wS i (by omega)
     simp only[q1,q2,decide_false,jA,w1,w2,w3,jS,jw,d,Bool.true_and];rw[f (10*a+(l[i].toNat-48)) ⟨by omega,by rw[Nat.pow_succ];omega⟩,X3E])
 have:=key 0 0 (by omega) ⟨by omega,by simp⟩
 simpa using this
theorem X4X (l:List UInt8) (g:l.length<1000000):Xi (mkB l)=some (X31 l):=by
 rw[X3A];unfold X1a;rw[X3r,X0];simp only[jS];unfold X31
 by_cases f:l.length=0\/9<l.length
 ·have:inN (l.length:Int) 1 9=false:=by simp[inN];omega
  rw[this];simp only[Bool.not_false,jB];rw[if_pos (by rcases f with h|h;exact .inl h;exact .inr (.inl h))]
 ·have i:1<=l.length/\l.length<=9:=by omega
  have:inN (l.length:Int) 1 9=true:=by simp[inN];omega
  rw[this];simp only[Bool.not_true,jA];have c0:decide ((0:Nat)<=0)=true:=by simp
  have c1:decide ((0:Int)<(l.length:Int))=true:=by simp;omega
  have lp:∀k:Int⊕Int->Option Int,(∀y,k (.inl y)=some y)->(∀y,k (.inr y)=some y)->Option.bind (XG (mkB l) (0,0)) k=some (if l.all X1K=false then -1 else(X3h 0 l:Int)):=fun k a b=>X6A l (by omega) k a b
  rw[lp _ (fun _=>rfl) (fun _=>rfl)];have c:0<l.length:=by omega
  have d:(mkB l).toList.getD (Int.toNat 0) 0=l[0]:=by rw[X2];exact Xo _ _ _ c
  have hh:l.head? = some l[0]:=by rw[List.head?_eq_getElem?,List.getElem?_eq_getElem c]
  rw[d,hh,c0,c1];simp only[ju,jB]
  by_cases h3:1<l.length
  ·have c2:decide ((l.length:Int)>1)=true:=by simp;omega
   rw[c2,jB]
   by_cases h4:l[0]=48
   ·have:((l[0].toNat:Int)==48)=true:=by rw[h4];rfl
    rw[this,jB,if_pos (.inr (.inr (.inl ⟨h3,by rw[h4]⟩)))]
   ·have:((l[0].toNat:Int)==48)=false:=by
     rw[beq_eq_false_iff_ne];intro e;exact h4 (UInt8.toNat_inj.1 (by have:(48:UInt8).toNat=48:=rfl;omega))
    rw[this,jA];congr 1
    by_cases h5:l.all X1K=false
    ·rw[if_pos h5,if_pos (.inr (.inr (.inr h5)))]
    ·rw[if_neg h5,if_neg];rintro(h|h|h|h)
     ·omega
     ·omega
     ·exact h4 (by simpa using h.2)
     ·exact h5 h
  ·have c2:decide ((l.length:Int)>1)=false:=by simp;omega
   rw[c2,jA];congr 1
   by_cases h5:l.all X1K=false
   ·rw[if_pos h5,if_pos (.inr (.inr (.inr h5)))]
   ·rw[if_neg h5,if_neg];rintro(h|h|h|h)
    ·omega
    ·omega
    ·omega
    ·exact h5 h
theorem X6Z {n:Nat} (h:n<1000000000):X31 (dg n)=(n:Int):=by
 obtain⟨c,b,d,a,_⟩:=X4z n;have:=X4N 8 n (by omega)
 unfold X31;rw[if_neg,d];rintro(q|q|q|q)
 ·exact b (List.eq_nil_of_length_eq_zero q)
 ·omega
 ·rcases a with a|a
  ·omega
  ·exact a q.2
 ·rw[c]at q;cases q
theorem X6P {l:List UInt8} (h:0<=X31 l):l=dg (X31 l).toNat:=by
 unfold X31 at h⊢
 by_cases q:l.length=0\/9<l.length\/(1<l.length/\l.head? = some 48)\/l.all X1K=false
 ·rw[if_pos q]at h;omega
 ·rw[if_neg q];simp only[not_or]at q;obtain⟨q1,q2,q3,q4⟩:=q;rw[kS];refine(X70 l (fun e=>q1 (by rw[e];rfl)) (by simpa using q4) ?_).symm
  by_cases h1:l.length=1
  ·exact .inl h1
  ·exact .inr fun e=>q3 ⟨by omega,e⟩
theorem X6z (l:List UInt8) (c:UInt8) (m:l.length<1000000) (k:Int×List ByteArray->Option (List ByteArray))
  (j:∀(f:Nat) (o:List ByteArray),f<=l.length->o.length<=l.length->k ((f:Int),o)=some (o++[mkB (l.drop f)])) :
  Option.bind (X23 (c.toNat:Int) (mkB l) (0,0,[])) k=some ((Zhp c l).map mkB):=by
 unfold X23;have key:=Xp (X13 (c.toNat:Int) (mkB l)) k l.length (fun i (v:Nat×List ByteArray)=>((i:Int),(v.1:Int),v.2)) (fun i v=>v.1<=i/\c∉(l.take i).drop v.1/\v.2.length<=i)
  (fun i v=>some (v.2++(Zhp c (l.drop v.1)).map mkB))
  (by
   intro v a R;have c1:decide ((l.length:Int)<((mkB l).size:Int))=false:=by rw[X0];simp
   simp only[X13,X19,c1,jA,jS,jy];rw[j _ _ a.1 a.2.2,X35 (by have:=a.2.1;rwa [List.take_length]at this)]
   rfl)
  (by
   intro i v hi a R h;obtain⟨f,o⟩:=v;simp only at a⊢;have c1:decide ((i:Int)<((mkB l).size:Int))=true:=by rw[X0];simp;omega
   have c2:decide ((0:Int)<=(i:Int))=true:=by simp
   have w3:=wS i (by omega)
   simp only[X13,X19,c1,c2,ju,jB,X2,kS,Xo _ _ _ hi,w3];have d:l.take (i+1)=l.take i++[l[i]]:=List.take_succ_eq_append_getElem hi;have b:(l.take i).length=i:=by rw[List.length_take];omega
   by_cases hc:l[i]=c
   ·have q:((l[i].toNat:Int)==(c.toNat:Int))=true:=by rw[hc];simp
    have c3:decide ((i:Int)<=((mkB l).size:Int))=true:=by rw[X0];simp;omega
    have c4:decide ((0:Int)<=(f:Int))=true:=by simp
    have c5:decide ((f:Int)<=(i:Int))=true:=by simp;exact a.1
    have c6:Nat.ble ((o.length+[(mkB l).extract f i].length)*(16+1)) 200000000000000=true:=Nat.ble_eq_true_of_le (by simp;omega)
    simp only[q,c3,c4,c5,c6,ju,jB,jS,jw];rw[h (i+1,o++[(mkB l).extract f i]) ⟨Nat.le_refl _,by simp[jd],by simp;omega⟩,X21]
    have g:l.drop f=(l.take i).drop f++c::l.drop (i+1):=by
     conv=>lhs;rw[<-List.take_append_drop i l]
     rw[List.drop_append_of_le_length (by rw[b];exact a.1),Zhs hi,hc]
    rw[g,X17 a.2.1];simp
   ·have q:((l[i].toNat:Int)==(c.toNat:Int))=false:=by
     rw[beq_eq_false_iff_ne];intro e;exact hc (UInt8.toNat_inj.1 (by omega))
    simp only[q,jA,jS,jw];rw[h (f,o) ⟨by simp only;omega,?_,by simp only;omega⟩]
    simp only;rw[d,List.drop_append_of_le_length (by rw[b];exact a.1)]
    simp only[List.mem_append,List.mem_singleton,not_or];exact⟨a.2.1,fun e=>hc e.symm⟩)
 have:=key 0 (0,[]) (by omega) ⟨by simp,by simp,by simp⟩
 simpa using this
theorem X5E (l:List UInt8) (c:UInt8) (n:Int) (d:n=(c.toNat:Int)) (b:l.length<1000000):X36 (mkB l) n=some ((Zhp c l).map mkB):=by
 subst d;rw[X4D];unfold X29;refine X6z l c b _ fun f o a e=>?_;have c1:decide ((0:Int)<=(f:Int))=true:=by simp
 have c2:decide ((f:Int)<=((mkB l).size:Int))=true:=by rw[X0];simp;exact a
 simp only[c1,c2,ju,jB,kS];have c6:Nat.ble ((o.length+[(mkB l).extract f (mkB l).size].length)*(16+1)) 200000000000000=true:=Nat.ble_eq_true_of_le (by simp;omega)
 rw[c6,jB,X21,X0,List.take_length]
theorem X6K {b:Int} {c:UInt8} (a:0<=b) (d:b<65521):Int.tmod (IntKind.wrap .i64 (IntKind.wrap .i64 (b*257)+IntKind.wrap .i64 (c.toNat:Int))) 65521=(b*257+(c.toNat:Int)) % 65521:=by
 have:=c.toNat_lt;rw[w64 (x:=b*257) (by omega) (by omega),w64 (x:=(c.toNat:Int)) (by omega) (by omega),w64 (by omega) (by omega),Int.tmod_eq_emod_of_nonneg (by omega)]
theorem X4M (l:List UInt8) (b:Int) (g:l.length<1000000) (f:0<=b) (d:b<65521):X2h b (mkB l)=some (XB b l):=by
 rw[X4f];unfold X1Q X2r;rw[X0];have key:=Xp (Ws (l.length:Int) (mkB l)) (fun o=>some o) l.length (fun i (a:Int)=>(a,(i:Int))) (fun i a=>0<=a/\a<65521)
  (fun i a=>some (XB a (l.drop i)))
  (by
   intro a _ R;simp[Ws,WH,XB])
  (by
   intro i a hi c R e;have c1:decide ((i:Int)<((mkB l).size:Int))=true:=by rw[X0];simp;omega
   have c2:decide ((0:Int)<=(i:Int))=true:=by simp
   have c3:decide ((i:Int)<(l.length:Int))=true:=by simp;omega
   have w3:=wS i (by omega)
   simp only[Ws,WH,c1,c2,c3,ju,jB,X2,kS,Xo _ _ _ hi,w3,X6K c.1 c.2,jS,jw];rw[e _ ⟨Int.emod_nonneg _ (by decide),Int.emod_lt_of_pos _ (by decide)⟩,Zhs hi];rfl)
 have:=key 0 b (by omega) ⟨f,d⟩
 simpa using this
theorem X4T (l:List UInt8) (b:Int) (g:l.length<1000000) (f:0<=b) (e:b<65521):X3e b (mkB l)=some (XB b l):=by
 rw[X4p];unfold X1W X2z;have key:=Xp (WB (mkB l)) (fun o=>some o) l.length (fun i (a:Int)=>((i:Int),a)) (fun i a=>0<=a/\a<65521)
  (fun i a=>some (XB a (l.drop i)))
  (by
   intro a _ R;have c1:decide ((l.length:Int)<((mkB l).size:Int))=false:=by rw[X0];simp
   simp only[WB,WR,c1,jA,jS,jy];simp[XB])
  (by
   intro i a hi c R d;have c1:decide ((i:Int)<((mkB l).size:Int))=true:=by rw[X0];simp;omega
   have c2:decide ((0:Int)<=(i:Int))=true:=by simp
   have w3:=wS i (by omega)
   simp only[WB,WR,c1,c2,ju,jB,X2,kS,Xo _ _ _ hi,w3,X6K c.1 c.2,jS,jw];rw[d _ ⟨Int.emod_nonneg _ (by decide),Int.emod_lt_of_pos _ (by decide)⟩,Zhs hi];rfl)
 have:=key 0 b (by omega) ⟨f,e⟩
 simpa using this
end Nore
open Go Go.Ab
namespace Nore
def X3c (ns:List Int):List UInt8:=ns.flatMap fun n=>32::dg n.toNat
theorem X4v (n:Int) (ns:List Int):X3c (n::ns)=32::(dg n.toNat++X3c ns):=rfl
theorem X4R:X3c []=[]:=rfl
def X1o (n:Int):Prop:=0<=n/\n<100000
theorem X1o.len {n:Int} (h:X1o n):(dg n.toNat).length<=5:=X4N 4 n.toNat (by have:=h.2;omega)
theorem X1o.itoa {n:Int} (h:X1o n):Wb n=some (mkB (dg n.toNat)):=by
 have:=X6D n.toNat (by have:=h.2;omega)
 rwa [Int.toNat_of_nonneg h.1]at this
theorem X1o.digits {n:Int} (h:X1o n):XN n=some (mkB (dg n.toNat)):=by
 have:=X5Y n.toNat (by have:=h.2;omega)
 rwa [Int.toNat_of_nonneg h.1]at this
theorem X4Q:∀(ns:List Int),(∀n∈ns,X1o n)->(X3c ns).length<=6*ns.length
 | [],_=>by simp[X4R]
 | n::ns,h=>by
  have b:=(h n (by simp)).len
  have c:=X4Q ns fun m a=>h m (by simp[a])
  rw[X4v];simp;omega
structure X4I (d:Zh):Prop where
 name:X3b d.Name=true
 st:X1o d.States
 fi:X1o d.First
structure X5l (x:Zl):Prop where
 dev:X1o x.Device
 st:X1o x.State
 lo:X1o x.At.Lo
 hi:X1o x.At.Hi
structure X6N (r:CoRecord):Prop where
 some:1<=r.Devices.length
 few:r.Devices.length<=4
 many:r.Entries.length<=10
 devs:∀d∈r.Devices,X4I d
 ents:∀x∈r.Entries,X5l x
def X1n (d:Zh):List UInt8:=[100,101,118,105,99,101]++32::(d.Name.toList++X3c [d.States,d.First])
def X1z (x:Zl):List UInt8:=[101,110,116,114,121]++X3c [x.Device,x.State,x.At.Lo,x.At.Hi]
def X4G (r:CoRecord):List (List UInt8):=r.Devices.map X1n++r.Entries.map X1z
def Wa:Int->List (List UInt8)->List UInt8
 | _,[]=>[]
 | s,w::ws=>w++32::(dg (XB s w).toNat++10::Wa (XB s w) ws)
def X2m:Int->List (List UInt8)->Int
 | s,[]=>s
 | s,w::ws=>X2m (XB s w) ws
theorem X5A:∀(a b:List (List UInt8)) (s:Int),Wa s (a++b)=Wa s a++Wa (X2m s a) b
 | [],b,s=>rfl
 | w::a,b,s=>by simp[Wa,X2m,X5A a b]
theorem X4H:∀(a:List (List UInt8)) (s:Int),0<=s->s<65521->0<=X2m s a/\X2m s a<65521
 | [],s,h1,h2=>⟨h1,h2⟩
 | w::a,s,h1,h2=>by
  have:=XI w s h1 h2;exact X4H a _ this.1 this.2
def X2d (r:CoRecord):List UInt8:=Wa 0 (X4G r)
theorem X4P {d:Zh} (h:X4I d):d.Name.toList.length<=14:=by
 have:=h.name;unfold X3b at this;simp only[jn,jk]at this;rw[Wg];exact this.1
theorem X5h {d:Zh} (h:X4I d):(X1n d).length<=40:=by
 have b:=X4P h;have a:=X4Q [d.States,d.First] (by simp;exact⟨h.st,h.fi⟩)
 unfold X1n;simp at a⊢;omega
theorem X5i {x:Zl} (h:X5l x):(X1z x).length<=40:=by
 have a:=X4Q [x.Device,x.State,x.At.Lo,x.At.Hi] (by simp;exact⟨h.dev,h.st,h.lo,h.hi⟩)
 unfold X1z;simp at a⊢;omega
theorem X4U:∀(ws:List (List UInt8)) (s:Int),0<=s->s<65521->(∀w∈ws,w.length<=40)->(Wa s ws).length<=50*ws.length
 | [],_,_,_,_=>by simp[Wa]
 | w::ws,s,h1,h2,h=>by
  have c:=h w (by simp)
  have a:=XI w s h1 h2;have:=X4U ws _ a.1 a.2 fun v hv=>h v (by simp[hv])
  have b:(dg (XB s w).toNat).length<=5:=X4N 4 _ (by omega)
  simp[Wa];omega
theorem X6o {a b:Nat} (h:a<b):Nat.blt a b=true:=by
 show Nat.ble _ _=true;exact Nat.ble_eq_true_of_le h
theorem XU {a b:Nat} (h:a<=b):Nat.ble a b=true:=Nat.ble_eq_true_of_le h
theorem X5O (ns:List Int) (c:∀n∈ns,X1o n) (g:ns.length<=4) (w:List UInt8) (f:w.length<=1000) {β:Type} (k:ByteArray->Option β) :
  Option.bind (X16 (ns.length:Int) ns (mkB w,0)) k=k (mkB (w++X3c ns)):=by
 unfold X16;have key:=Xp (Wu (ns.length:Int) ns) k ns.length (fun i (w:List UInt8)=>(mkB w,(i:Int))) (fun i w=>w.length<=1000+6*i)
  (fun i w=>k (mkB (w++X3c (ns.drop i))))
  (by
   intro w _ R;simp[Wu,WJ,X4R])
  (by
   intro i w hi h R d;have a:=c _ (jl hi);have c2:decide ((0:Int)<=(i:Int))=true:=by simp
   have c3:decide ((i:Int)<(ns.length:Int))=true:=by simp;omega
   have w3:=wS i (by omega)
   have b:=a.len;simp only[Wu,WJ,c2,c3,ju,jB,kS,X6o hi,Xo _ _ _ hi,a.itoa,jS];have e:(⟨#[32]⟩:ByteArray)=mkB [32]:=rfl;rw[e,X2J,X2J,X0,X0,X0,X0,XU (by simp;omega),XU (by simp;omega)]
   simp only[jB,w3,jS,jw];rw[d _ (by simp;omega),Zhs hi,X4v]
   simp)
 have:=key 0 w (by omega) (by omega)
 simpa using this
theorem X6y:X2s=X16:=rfl
abbrev toI (l:List UInt8):List Int:=l.map fun b=>(b.toNat:Int)
theorem X6e (a b:List UInt8):toI a++toI b=toI (a++b):=by simp[toI]
theorem X6w (ds:List Zh) (h:∀d∈ds,X4I d) (o:ds.length<=4) {β:Type} (k:Int×List Int->Option β) :
  Option.bind (X1I (ds.length:Int) ds (0,0,[])) k=k (X2m 0 (ds.map X1n),toI (Wa 0 (ds.map X1n))):=by
 unfold X1I;have key:=Xp (Wt (ds.length:Int) ds) k ds.length (fun i (v:Int×List UInt8)=>((i:Int),v.1,toI v.2)) (fun i v=>(0<=v.1/\v.1<65521)/\v.2.length<=50*i)
  (fun i v=>k (X2m v.1 ((ds.drop i).map X1n),toI (v.2++Wa v.1 ((ds.drop i).map X1n))))
  (by
   intro v _ R;simp[Wt,WI,X2m,Wa])
  (by
   intro i v hi e R m;obtain⟨s,b⟩:=v;simp only at e⊢;have g:=h _ (jl hi);have c2:decide ((0:Int)<=(i:Int))=true:=by simp
   have c3:decide ((i:Int)<(ds.length:Int))=true:=by simp;omega
   have w3:=wS i (by omega)
   have n:=X4P g;simp only[Wt,WI,c2,c3,ju,jB,kS,Xo _ _ _ hi];have e1:(⟨#[100,101,118,105,99,101,32]⟩:ByteArray)=mkB [100,101,118,105,99,101,32]:=rfl;have e2:(ds[i]).Name=mkB (ds[i]).Name.toList:=(X4O _).symm;have e3:(⟨#[32]⟩:ByteArray)=mkB [32]:=rfl;have e4:(⟨#[10]⟩:ByteArray)=mkB [10]:=rfl;rw[e1,e3,e4];rw[show mkB [100,101,118,105,99,101,32]++(ds[i]).Name=mkB ([100,101,118,105,99,101,32]++(ds[i]).Name.toList) by rw[<-X2J,X4O]]
   rw[XU (by rw[X0,<-Wg];simp;omega),jB]
   rw[X5O [(ds[i]).States,(ds[i]).First] (by simp;exact⟨g.st,g.fi⟩) (by simp) _ (by simp;omega)]
   have f:[100,101,118,105,99,101,32]++(ds[i]).Name.toList++X3c [(ds[i]).States,(ds[i]).First]=X1n ds[i]:=by simp[X1n]
   rw[f];have j:=X5h g;have c:=XI (X1n ds[i]) s e.1.1 e.1.2;have a:X1o (XB s (X1n ds[i])):=⟨c.1,by omega⟩
   have l:=a.len;rw[X4M _ _ (by omega) e.1.1 e.1.2]
   simp only[jS,a.itoa];simp only[X2J,X0];rw[XU (by simp;omega),XU (by simp;omega),XU (by simp;omega)]
   simp only[jB,X5q,List.length_map];rw[XU (by simp;omega)]
   simp only[jB,jS,jw,w3,X6e];rw[m (XB s (X1n ds[i]),b++(X1n ds[i]++[32]++dg (XB s (X1n ds[i])).toNat++[10])) ⟨c,by simp;omega⟩,Zhs hi]
   simp only[jr,X2m,Wa,jj,List.cons_append,List.nil_append])
 have:=key 0 (0,[]) (by omega) ⟨by simp,by simp⟩
 simpa using this
theorem X6x (es:List Zl) (h:∀x∈es,X5l x) (o:es.length<=10) (s0:Int) (b0:List UInt8) (g:0<=s0/\s0<65521) (j:b0.length<=1000) {β:Type} (k:Int×List Int->Option β) :
  Option.bind (X1J (es.length:Int) es (0,s0,toI b0)) k=k (X2m s0 (es.map X1z),toI (b0++Wa s0 (es.map X1z))):=by
 unfold X1J;have key:=Xp (Wv (es.length:Int) es) k es.length (fun i (v:Int×List UInt8)=>((i:Int),v.1,toI v.2)) (fun i v=>(0<=v.1/\v.1<65521)/\v.2.length<=1000+50*i)
  (fun i v=>k (X2m v.1 ((es.drop i).map X1z),toI (v.2++Wa v.1 ((es.drop i).map X1z))))
  (by
   intro v _ R;simp[Wv,WK,X2m,Wa])
  (by
   intro i v hi e R n;obtain⟨s,b⟩:=v;simp only at e⊢;have c:=h _ (jl hi);have c2:decide ((0:Int)<=(i:Int))=true:=by simp
   have c3:decide ((i:Int)<(es.length:Int))=true:=by simp;omega
   have w3:=wS i (by omega)
   simp only[Wv,WK,c2,c3,ju,jB,kS,Xo _ _ _ hi,X6y];have e1:(⟨#[101,110,116,114,121]⟩:ByteArray)=mkB [101,110,116,114,121]:=rfl;have e3:(⟨#[32]⟩:ByteArray)=mkB [32]:=rfl;have e4:(⟨#[10]⟩:ByteArray)=mkB [10]:=rfl;rw[e1,e3,e4];rw[X5O [(es[i]).Device,(es[i]).State,(es[i]).At.Lo,(es[i]).At.Hi] (by simp;exact⟨c.dev,c.st,c.lo,c.hi⟩) (by simp) _ (by simp)]
   have f:[101,110,116,114,121]++X3c [(es[i]).Device,(es[i]).State,(es[i]).At.Lo,(es[i]).At.Hi]=X1z es[i]:=rfl;rw[f];have l:=X5i c;have d:=XI (X1z es[i]) s e.1.1 e.1.2;have a:X1o (XB s (X1z es[i])):=⟨d.1,by omega⟩
   have m:=a.len;rw[X4M _ _ (by omega) e.1.1 e.1.2]
   simp only[jS,a.itoa];simp only[X2J,X0];rw[XU (by simp;omega),XU (by simp;omega),XU (by simp;omega)]
   simp only[jB,X5q,List.length_map];rw[XU (by simp;omega)]
   simp only[jB,jS,jw,w3,X6e];rw[n (XB s (X1z es[i]),b++(X1z es[i]++[32]++dg (XB s (X1z es[i])).toNat++[10])) ⟨d,by simp;omega⟩,Zhs hi]
   simp only[jr,X2m,Wa,jj,List.cons_append,List.nil_append])
 have:=key 0 (s0,b0) (by omega) ⟨g,by simp;omega⟩
 simpa using this
theorem X38 {r:CoRecord} (h:X6N r):X1v r=some (mkB (X2d r)):=by
 rw[X4j];unfold X1S;rw[X6w r.Devices h.devs h.few];have e:=X4H (r.Devices.map X1n) 0 (by decide) (by decide)
 have i:=X4U (r.Devices.map X1n) 0 (by decide) (by decide) (by
  intro w c;obtain⟨d,b,rfl⟩:=List.mem_map.1 c;exact X5h (h.devs d b))
 have f:=X4U (r.Entries.map X1z) (X2m 0 (r.Devices.map X1n)) e.1 e.2 (by
  intro w c;obtain⟨d,b,rfl⟩:=List.mem_map.1 c;exact X5i (h.ents d b))
 rw[List.length_map]at i f;have l:=h.few;have k:=h.many;simp only;rw[X6x r.Entries h.ents h.many _ _ e (by omega)]
 have ht:Wa 0 (r.Devices.map X1n)++Wa (X2m 0 (r.Devices.map X1n)) (r.Entries.map X1z)=X2d r:=by
  unfold X2d X4G;rw[X5A]
 rw[ht];have j:(X2d r).length<=1000:=by rw[<-ht];simp;omega
 have a:X2d r≠[]:=by
  unfold X2d X4G;cases hq:r.Devices with
  | nil=>have:=h.some;rw[hq]at this;simp at this
  | cons d ds=>simp[Wa,X1n]
 have g:0<(X2d r).length:=by
  cases hq:X2d r with
  | nil=>exact absurd hq a
  | cons x xs=>simp
 have c1:List.isEmpty (toI (X2d r))=false:=by simp[a]
 simp only[c1,jA,List.length_map,X6o g,XU (show(X2d r).length<=200000000000000 by omega),X4W,X58]
 simp
theorem X6G (r:CoRecord) (c:∀d∈r.Devices,X4I d) (g:r.Devices.length<=4) {β:Type} (k:List ByteArray->Option β) :
  Option.bind (X1L r (0,[])) k=k ((r.Devices.map X1n).map mkB):=by
 unfold X1L;have key:=Xp (WC r) k r.Devices.length (fun i (v:List (List UInt8))=>((i:Int),v.map mkB)) (fun i v=>v.length<=i)
  (fun i v=>k ((v++(r.Devices.drop i).map X1n).map mkB))
  (by
   intro v _ R;simp[WC,WS])
  (by
   intro i v hi h R e;have a:=c _ (jl hi);have c2:decide ((0:Int)<=(i:Int))=true:=by simp
   have c3:decide ((i:Int)<(r.Devices.length:Int))=true:=by simp;omega
   have w3:=wS i (by omega)
   have f:=X4P a;have l1:=a.st.len;have l2:=a.fi.len;simp only[WC,WS,c2,c3,ju,jB,kS,Xo _ _ _ hi];have e1:(⟨#[100,101,118,105,99,101,32]⟩:ByteArray)=mkB [100,101,118,105,99,101,32]:=rfl;have e3:(⟨#[32]⟩:ByteArray)=mkB [32]:=rfl;rw[e1,e3];rw[show mkB [100,101,118,105,99,101,32]++(r.Devices[i]).Name=mkB ([100,101,118,105,99,101,32]++(r.Devices[i]).Name.toList) by rw[<-X2J,X4O]]
   rw[XU (by rw[X0,<-Wg];simp;omega),jB]
   simp only[a.st.digits,a.fi.digits,jS,X2J,X0];rw[XU (by simp;omega),XU (by simp;omega),XU (by simp;omega),XU (by simp;omega),XU (by simp;omega)]
   simp only[jB,jS,jw,w3];have b:[100,101,118,105,99,101,32]++(r.Devices[i]).Name.toList++[32]++dg (r.Devices[i]).States.toNat++[32]++dg (r.Devices[i]).First.toNat=X1n r.Devices[i]:=by simp[X1n,X3c]
   rw[b];have:=e (v++[X1n r.Devices[i]]) (by simp;omega)
   rw[List.map_append]at this;rw[show [mkB (X1n r.Devices[i])]=[X1n r.Devices[i]].map mkB from rfl,this,Zhs hi];simp only[jr,jj,List.cons_append,List.nil_append])
 have:=key 0 [] (by omega) (by simp)
 simpa using this
theorem X6H (r:CoRecord) (c:∀x∈r.Entries,X5l x) (f:r.Entries.length<=10) (v0:List (List UInt8)) (d:v0.length<=10) {β:Type} (k:List ByteArray->Option β) :
  Option.bind (X1M r (0,v0.map mkB)) k=k ((v0++r.Entries.map X1z).map mkB):=by
 unfold X1M;have key:=Xp (WD r) k r.Entries.length (fun i (v:List (List UInt8))=>((i:Int),v.map mkB)) (fun i v=>v.length<=10+i)
  (fun i v=>k ((v++(r.Entries.drop i).map X1z).map mkB))
  (by
   intro v _ R;simp[WD,WT])
  (by
   intro i v hi g R e;have a:=c _ (jl hi);have c2:decide ((0:Int)<=(i:Int))=true:=by simp
   have c3:decide ((i:Int)<(r.Entries.length:Int))=true:=by simp;omega
   have w3:=wS i (by omega)
   have l1:=a.dev.len;have l2:=a.st.len;have l3:=a.lo.len;have l4:=a.hi.len;simp only[WD,WT,c2,c3,ju,jB,kS,Xo _ _ _ hi];have e1:(⟨#[101,110,116,114,121,32]⟩:ByteArray)=mkB [101,110,116,114,121,32]:=rfl;have e3:(⟨#[32]⟩:ByteArray)=mkB [32]:=rfl;rw[e1,e3];simp only[a.dev.digits,a.st.digits,a.lo.digits,a.hi.digits,jS,X2J,X0];rw[XU (by simp;omega),XU (by simp;omega),XU (by simp;omega),XU (by simp;omega),XU (by simp;omega),XU (by simp;omega),XU (by simp;omega),XU (by simp;omega)]
   simp only[jB,jS,jw,w3];have b:[101,110,116,114,121,32]++dg (r.Entries[i]).Device.toNat++[32]++dg (r.Entries[i]).State.toNat++[32]++dg (r.Entries[i]).At.Lo.toNat++[32]++dg (r.Entries[i]).At.Hi.toNat=X1z r.Entries[i]:=by simp[X1z,X3c]
   rw[b];have:=e (v++[X1z r.Entries[i]]) (by simp;omega)
   rw[List.map_append]at this;rw[show [mkB (X1z r.Entries[i])]=[X1z r.Entries[i]].map mkB from rfl,this,Zhs hi];simp only[jr,jj,List.cons_append,List.nil_append])
 have:=key 0 v0 (by omega) (by omega)
 simpa using this
theorem X6I (ws:List (List UInt8)) (f:∀w∈ws,w.length<=40) (l:ws.length<=20) {β:Type} (k:ByteArray->Option β) :
  Option.bind (X1N (ws.map mkB) (0,⟨#[]⟩,0)) k=k (mkB (Wa 0 ws)):=by
 unfold X1N;have key:=Xp (WE (ws.map mkB)) k ws.length (fun i (v:Int×List UInt8)=>(v.1,mkB v.2,(i:Int))) (fun i v=>(0<=v.1/\v.1<65521)/\v.2.length<=50*i)
  (fun i v=>k (mkB (v.2++Wa v.1 (ws.drop i))))
  (by
   intro v _ R;simp[WE,WU,Wa])
  (by
   intro i v hi e R j;obtain⟨s,b⟩:=v;simp only at e⊢;have g:=f _ (jl hi);have c2:decide ((0:Int)<=(i:Int))=true:=by simp
   have c3:decide ((i:Int)<((ws.map mkB).length:Int))=true:=by simp;omega
   have w3:=wS i (by omega)
   have d:i<(ws.map mkB).length:=by simpa using hi
   have c:=XI ws[i] s e.1.1 e.1.2;have a:X1o (XB s ws[i]):=⟨c.1,by omega⟩
   have h:=a.len;have e3:(⟨#[32]⟩:ByteArray)=mkB [32]:=rfl;have e4:(⟨#[10]⟩:ByteArray)=mkB [10]:=rfl;simp only[WE,WU,c2,c3,ju,jB,kS,X6o d,Xo _ _ _ d,List.getElem_map];rw[X4T _ _ (by omega) e.1.1 e.1.2]
   simp only[jS,a.digits];rw[e3,e4];simp only[X2J,X0];rw[XU (by first|omega|(simp;omega)),XU (by first|omega|(simp;omega)),XU (by first|omega|(simp;omega)),XU (by first|omega|(simp;omega))]
   simp only[jB,jS,jw,w3];rw[j (XB s ws[i],b++ws[i]++[32]++dg (XB s ws[i]).toNat++[10]) ⟨c,by simp;omega⟩,Zhs hi]
   simp only[Wa,jj,List.cons_append,List.nil_append])
 have:=key 0 (0,[]) (by omega) ⟨by simp,by simp⟩
 simpa using this
theorem X3f {r:CoRecord} (h:X6N r):X1y r=some (mkB (X2d r)):=by
 rw[X4r];unfold X1X;have e:=h.few;have c:=h.many;rw[X6G r h.devs h.few,X6H r h.ents h.many _ (by simp;omega)]
 have a:∀w∈X4G r,w.length<=40:=by
  intro w a;rcases List.mem_append.1 a with a|a
  ·obtain⟨d,b,rfl⟩:=List.mem_map.1 a;exact X5h (h.devs d b)
  ·obtain⟨d,b,rfl⟩:=List.mem_map.1 a;exact X5i (h.ents d b)
 rw[show r.Devices.map X1n++r.Entries.map X1z=X4G r from rfl,X6I _ a (by unfold X4G;simp;omega)]
 rfl
end Nore
set_option maxHeartbeats 1000000
open Go Go.Ab
namespace Nore
theorem X4A (l:List UInt8):Wj (mkB l) 10=some (Lib.indexByte l 10):=X5n l 10 (by decide)
noncomputable def okW (w:List UInt8):Bool:=Exists.choose Zbg (mkB w)
noncomputable def vW (w:List UInt8):Int:=Exists.choose Zdn (mkB w)
theorem X71 {n:Nat} (h:n<1000000000):okW (dg n)=true:=by
 refine(Zbf (mkB (dg n))).trans ?_;unfold Zdk;rw[X5T,X69 (by omega)]
theorem X73 {n:Nat} (h:n<1000000000):vW (dg n)=(n:Int):=by
 refine(Zdm (mkB (dg n))).trans ?_;unfold Zdl;rw[X5T,X69 (by omega)]
theorem X5N (ws:List (List UInt8)) (c:∀w∈ws,w.length<=10000) (f:ws.length<=10000) {β:Type} (E:Option β) (k:(Int×List Int)⊕List Int->Option β) (d:∀l,k (.inl (6,l))=E) :
  Option.bind (Xt ((ws.map mkB).length:Int) (ws.map mkB) (0,[])) k=bif ws.all okW then k (.inr (ws.map vW))else E:=by
 unfold Xt;rw[List.length_map];have key:=Xp (Wr (ws.length:Int) (ws.map mkB)) k ws.length (fun i (o:List Int)=>((i:Int),o)) (fun i o=>o.length<=i)
  (fun i o=>bif(ws.drop i).all okW then k (.inr (o++(ws.drop i).map vW))else E)
  (by
   intro o _ R;simp[Wr,WG])
  (by
   intro i o hi h R e;have b:i<(ws.map mkB).length:=by simpa using hi
   have g:=c _ (jl hi);have c2:decide ((0:Int)<=(i:Int))=true:=by simp
   have c3:decide ((i:Int)<(ws.length:Int))=true:=by simp;omega
   have c4:decide ((i:Int)<((ws.map mkB).length:Int))=true:=by simp;omega
   have w3:=wS i (by omega)
   simp only[Wr,WG,c2,c3,c4,ju,jB,kS,Xo _ _ _ b,List.getElem_map];rw[X0,XU (show ws[i].length<=281474976710656 by omega),jB,Zhs hi]
   simp only[jt]
   by_cases hq:okW ws[i]=true
   ·have:Exists.choose Zbg (mkB ws[i])=true:=hq;simp only[this,jB];rw[XU (by simp;omega)]
    simp only[jB,jS,jw,w3];rw[e (o++[Exists.choose Zdn (mkB ws[i])]) (by simp;omega)]
    simp only[hq,Bool.true_and,jr,jj,List.cons_append,List.nil_append];rfl
   ·have a:okW ws[i]=false:=by simpa using hq
    have:Exists.choose Zbg (mkB ws[i])=false:=a;simp only[this,jA,jS,jy,d,a,Bool.false_and])
 have:=key 0 [] (by omega) (by simp)
 simpa using this
theorem X6t:X2n=Xt:=rfl
theorem X6u:X2o=Xt:=rfl
theorem X6v:X2p=Xt:=rfl
def X1G:List UInt8:=[100,101,118,105,99,101]
def X1H:List UInt8:=[101,110,116,114,121]
def Xr:Option (CoRecord×Int):=some (CoRecord.mk [] [],6)
noncomputable def XV (x0:ByteArray):(((Int×(List Zl)×ByteArray×(List Zh))⊕(Int×(List Zl)×ByteArray×(List Zh))⊕(Int×(List Zl)×ByteArray×(List Zh)×(List Int))⊕(Int×(List Zl)×ByteArray×(List Zh))⊕(Int×(List Zl)×ByteArray×(List Zh)×(List Int))⊕(Int×(List Zl)×ByteArray×(List Zh))⊕(Int×(List Zl)×ByteArray×(List Zh))⊕(Int×(List Int)×(List Zl)×ByteArray×(List Zh))⊕(Int×(List Zl)×ByteArray×(List Zh))⊕(Int×(List Int)×(List Zl)×ByteArray×(List Zh))⊕(Int×(List Zl)×ByteArray×(List Zh))⊕((List Zl)×ByteArray×(List Zh))))->Option (CoRecord×Int):=fun o187↦Sum.elim (fun y188↦some (CoRecord.mk [] [],y188.fst)) (fun y189↦Sum.elim (fun y190↦some (CoRecord.mk [] [],y190.fst)) (fun y191↦Sum.elim (fun y192↦some (CoRecord.mk [] [],y192.fst)) (fun y193↦Sum.elim (fun y194↦some (CoRecord.mk [] [],y194.fst)) (fun y195↦Sum.elim (fun y196↦some (CoRecord.mk [] [],y196.fst)) (fun y197↦Sum.elim (fun y198↦some (CoRecord.mk [] [],y198.fst)) (fun y199↦Sum.elim (fun y200↦some (CoRecord.mk [] [],y200.fst)) (fun y201↦Sum.elim (fun y202↦some (CoRecord.mk [] [],y202.fst)) (fun y203↦Sum.elim (fun y204↦some (CoRecord.mk [] [],y204.fst)) (fun y205↦Sum.elim (fun y206↦some (CoRecord.mk [] [],y206.fst)) (fun y207↦Sum.elim (fun y208↦some (CoRecord.mk [] [],y208.fst)) (fun y209↦Option.bind (X14 (CoRecord.mk y209.snd.snd y209.fst)) fun r210↦bif r210.snd.snd==0 then Option.bind (X1v (CoRecord.mk y209.snd.snd y209.fst)) fun r211↦bif !ByteArray.toList r211==ByteArray.toList x0 then some (CoRecord.mk [] [],6)else some (CoRecord.mk y209.snd.snd y209.fst,0)else some (CoRecord.mk [] [],6)) y207) y205) y203) y201) y199) y197) y195) y193) y191) y189) o187
noncomputable def Fc (x0:ByteArray) (es:List Zl) (x:ByteArray) (ds:List Zh):Option (CoRecord×Int):=Option.bind (Wh (es,x,ds)) (XV x0)
theorem X37 (x0:ByteArray):X1P x0=bif decide ((x0.size:Int)>2000)then some (CoRecord.mk [] [],3)else Fc x0 [] x0 []:=by
 rw[X4d];rfl
noncomputable def Gc (x0:ByteArray) (es:List Zl) (rest:ByteArray) (ds:List Zh):List (List UInt8)->Option (CoRecord×Int)
 | [w0,w1,w2,w3,w4]=>if w0=X1G then(bif okW w2&&(okW w3&&okW w4)then Fc x0 es rest (ds++[⟨mkB w1,vW w2,vW w3⟩])else Xr)else Xr
 | [w0,w1,w2,w3,w4,w5]=>if w0=X1H then(bif okW w1&&(okW w2&&(okW w3&&(okW w4&&okW w5)))then Fc x0 (es++[⟨vW w1,vW w2,⟨vW w3,vW w4⟩⟩]) rest ds else Xr)else Xr
 | _=>Xr
theorem ten:(⟨#[10]⟩:ByteArray)=mkB [10]:=rfl
theorem spc:(⟨#[32]⟩:ByteArray)=mkB [32]:=rfl
theorem X2j:(⟨#[100,101,118,105,99,101]⟩:ByteArray)=mkB X1G:=rfl
theorem X3u:(⟨#[101,110,116,114,121]⟩:ByteArray)=mkB X1H:=rfl
theorem X5G:X1H≠X1G:=by decide
theorem X6r (u v w:List UInt8) (h:∀x∈[u,v,w],x.length<=10000) {β:Type} (E:Option β) (k:(Int×List Int)⊕List Int->Option β) (a:∀l,k (.inl (6,l))=E) :
  Option.bind (Xt 3 [mkB u,mkB v,mkB w] (0,[])) k=bif okW u&&(okW v&&okW w)then k (.inr [vW u,vW v,vW w])else E:=by
 have:=X5N [u,v,w] h (by simp) E k a
 simpa using this
theorem X6s (u v w x y:List UInt8) (h:∀z∈[u,v,w,x,y],z.length<=10000) {β:Type} (E:Option β) (k:(Int×List Int)⊕List Int->Option β) (a:∀l,k (.inl (6,l))=E) :
  Option.bind (Xt 5 [mkB u,mkB v,mkB w,mkB x,mkB y] (0,[])) k=bif okW u&&(okW v&&(okW w&&(okW x&&okW y)))then k (.inr [vW u,vW v,vW w,vW x,vW y])else E:=by
 have:=X5N [u,v,w,x,y] h (by simp) E k a
 simpa using this
theorem X5C (x0:ByteArray) (es:List Zl) (ds:List Zh) (a rest:List UInt8) (e:10∉a) (g:(a++10::rest).length<=2000) (h:es.length<=100000) (f:ds.length<=100000) :
  Fc x0 es (mkB (a++10::rest)) ds=Gc x0 es (mkB rest) ds (Zhp 32 a):=by
 unfold Fc Wh;rw[X1F];simp only[Wq,W2];have b:(a++10::rest).length=a.length+rest.length+1:=by simp;omega
 have c0:decide (((mkB (a++10::rest)).size:Int)>0)=true:=by rw[X0,b];simp;omega
 have w1:IntKind.wrap .i64 ((a.length:Int)+1)=((a.length+1:Nat):Int):=by rw[w64]<;>omega
 have c1:decide ((a.length:Int)>=0)=true:=by simp
 have c2:decide ((0:Int)<=((a.length+1:Nat):Int))=true:=by simp;omega
 have c3:decide (((a.length+1:Nat):Int)<=((mkB (a++10::rest)).size:Int))=true:=by rw[X0,b];simp;omega
 have e1:(mkB (a++10::rest)).extract 0 (a.length+1)=mkB (a++[10]):=by
  rw[X21,List.drop_zero];congr 2;rw[show a++10::rest=(a++[10])++rest by simp,List.take_left' (by simp)]
 have e2:(mkB (a++10::rest)).extract (a.length+1) (mkB (a++10::rest)).size=mkB rest:=by
  rw[X21,X0,List.take_length];congr 2;rw[show a++10::rest=(a++[10])++rest by simp,List.drop_left' (by simp)]
 have e3:XE (mkB (a++[10])) (mkB [10])=some (mkB a):=by
  rw[X5W _ _ (by simp;omega)]
  rw[if_pos (by simp)]
  simp
 simp only[c0,jB,X4A,X3I e,jS,c1,w1,c2,c3,ju,kS,e1,e2,ten,e3,spc,X5z a 32 (by omega)]
 have c:∀w∈Zhp 32 a,w.length<=10000:=fun w c=>by have:=X2t 32 a w c;omega
 generalize Zhp 32 a=ws at c⊢;have b2:(X1H==X1G)=false:=by decide
 have b3:(X1G==X1G)=true:=by decide
 have b4:(X1H==X1H)=true:=by decide
 rcases ws with _|⟨w0,_|⟨w1,_|⟨w2,_|⟨w3,_|⟨w4,_|⟨w5,_|⟨w6,t⟩⟩⟩⟩⟩⟩⟩
 ·simp[XV,Gc,Xr]
 ·simp[XV,Gc,Xr]
 ·simp[XV,Gc,Xr]
 ·by_cases h0:w0=X1G
  ·simp[XV,Gc,Xr,X2j,X2,h0]
  ·have b0:(w0==X1G)=false:=by simpa using h0
   by_cases h1:w0=X1H
   ·simp[XV,Gc,Xr,X2j,X3u,X2,h1,b2]
   ·have b1:(w0==X1H)=false:=by simpa using h1
    simp[XV,Gc,Xr,X2j,X3u,X2,b0,b1]
 ·by_cases h0:w0=X1G
  ·simp[XV,Gc,Xr,X2j,X2,h0]
  ·have b0:(w0==X1G)=false:=by simpa using h0
   by_cases h1:w0=X1H
   ·simp[XV,Gc,Xr,X2j,X3u,X2,h1,b2]
   ·have b1:(w0==X1H)=false:=by simpa using h1
    simp[XV,Gc,Xr,X2j,X3u,X2,b0,b1]
 ·by_cases h0:w0=X1G
  ·simp only[Gc,h0,if_true];simp[X2j,X2];rw[Option.bind_assoc,X6r w2 w3 w4 (fun x d=>c x (List.mem_cons_of_mem _ (List.mem_cons_of_mem _ d))) Xr _ (fun l=>by simp[XV,Xr])]
   by_cases q:(okW w2&&(okW w3&&okW w4))=true
   ·rw[q];have z1:Nat.blt 0 3=true:=rfl;have z2:Nat.blt 1 3=true:=rfl;have z3:Nat.ble ((ds.length+1)*33) 200000000000000=true:=XU (by omega)
    simp[z1,z2,z3];rfl
   ·have q':(okW w2&&(okW w3&&okW w4))=false:=by simpa using q
    rw[q'];rfl
  ·have b0:(w0==X1G)=false:=by simpa using h0
   by_cases h1:w0=X1H
   ·simp[XV,Gc,Xr,X2j,X3u,X2,h1,b2,X5G]
   ·have b1:(w0==X1H)=false:=by simpa using h1
    simp[XV,Gc,Xr,X2j,X3u,X2,b0,b1,h0]
 ·by_cases h0:w0=X1G
  ·simp[XV,Gc,Xr,X2j,X2,h0,Ne.symm X5G]
  ·have b0:(w0==X1G)=false:=by simpa using h0
   by_cases h1:w0=X1H
   ·simp only[Gc,h1,if_true];simp[X2j,X3u,X2,b2,X6t];rw[Option.bind_assoc,X6s w1 w2 w3 w4 w5 (fun x d=>c x (List.mem_cons_of_mem _ d)) Xr _ (fun l=>by simp[XV,Xr])]
    by_cases q:(okW w1&&(okW w2&&(okW w3&&(okW w4&&okW w5))))=true
    ·rw[q];have z1:Nat.blt 0 5=true:=rfl;have z2:Nat.blt 1 5=true:=rfl;have z4:Nat.blt 2 5=true:=rfl;have z5:Nat.blt 3 5=true:=rfl;have z3:Nat.ble ((es.length+1)*33) 200000000000000=true:=XU (by omega)
     simp[z1,z2,z3,z4,z5];rfl
    ·have q':(okW w1&&(okW w2&&(okW w3&&(okW w4&&okW w5))))=false:=by simpa using q
     rw[q'];rfl
   ·have b1:(w0==X1H)=false:=by simpa using h1
    simp[XV,Gc,Xr,X2j,X3u,X2,b0,b1,h1]
 ·have y1:decide (((List.length (List.map mkB (w0::w1::w2::w3::w4::w5::w6::t)):Nat):Int)>2)=true:=by simp;omega
  have y2:decide ((2:Int)<=((List.length (List.map mkB (w0::w1::w2::w3::w4::w5::w6::t)):Nat):Int))=true:=by simp;omega
  have y3:decide ((1:Int)<=((List.length (List.map mkB (w0::w1::w2::w3::w4::w5::w6::t)):Nat):Int))=true:=by simp;omega
  have y4:decide ((0:Int)<((List.length (List.map mkB (w0::w1::w2::w3::w4::w5::w6::t)):Nat):Int))=true:=by simp;omega
  have y5:((List.length (List.drop (Int.toNat 2) (List.take (List.length (List.map mkB (w0::w1::w2::w3::w4::w5::w6::t))) (List.map mkB (w0::w1::w2::w3::w4::w5::w6::t)))):Nat):Int)=(t.length:Int)+5:=by simp;omega
  have y6:((List.length (List.drop (Int.toNat 1) (List.take (List.length (List.map mkB (w0::w1::w2::w3::w4::w5::w6::t))) (List.map mkB (w0::w1::w2::w3::w4::w5::w6::t)))):Nat):Int)=(t.length:Int)+6:=by simp;omega
  have y7:((t.length:Int)+5==3)=false:=by rw[beq_eq_false_iff_ne];omega
  have y8:((t.length:Int)+6==5)=false:=by rw[beq_eq_false_iff_ne];omega
  simp only[y1,y2,y3,y4,y5,y6,y7,y8]
  by_cases h0:w0=X1G
  ·simp[XV,Gc,Xr,X2j,X2,h0]
  ·have b0:(w0==X1G)=false:=by simpa using h0
   by_cases h1:w0=X1H
   ·simp[XV,Gc,Xr,X2j,X3u,X2,h1,b2]
   ·have b1:(w0==X1H)=false:=by simpa using h1
    simp[XV,Gc,Xr,X2j,X3u,X2,b0,b1]
theorem X6U (x0:ByteArray) (es:List Zl) (ds:List Zh) (a:List UInt8) (e:10∉a) (c:a≠[]) (i:a.length<=2000) (j:es.length<=100000) (f:ds.length<=100000) :
  Fc x0 es (mkB a) ds=Gc x0 es (mkB []) ds (Zhp 32 a):=by
 unfold Fc Wh;rw[X1F];simp only[Wq,W2];have g:0<a.length:=by
  cases a with
  | nil=>exact absurd rfl c
  | cons x xs=>simp
 have c0:decide (((mkB a).size:Int)>0)=true:=by rw[X0];simp;omega
 have c1:decide ((-1:Int)>=0)=false:=by decide
 have e3:XE (mkB a) (mkB [10])=some (mkB a):=by
  rw[X5W _ _ (by omega)]
  rw[if_neg];intro h;exact e (List.mem_of_getLast? h)
 have e5:(⟨#[]⟩:ByteArray)=mkB []:=rfl;simp only[c0,jB,X4A,X39 e,jS,c1,jA,ten,e3,spc,X5z a 32 (by omega),e5]
 have b:∀w∈Zhp 32 a,w.length<=10000:=fun w b=>by have:=X2t 32 a w b;omega
 generalize Zhp 32 a=ws at b⊢;have b2:(X1H==X1G)=false:=by decide
 have b3:(X1G==X1G)=true:=by decide
 have b4:(X1H==X1H)=true:=by decide
 rcases ws with _|⟨w0,_|⟨w1,_|⟨w2,_|⟨w3,_|⟨w4,_|⟨w5,_|⟨w6,t⟩⟩⟩⟩⟩⟩⟩
 ·simp[XV,Gc,Xr]
 ·simp[XV,Gc,Xr]
 ·simp[XV,Gc,Xr]
 ·by_cases h0:w0=X1G
  ·simp[XV,Gc,Xr,X2j,X2,h0]
  ·have b0:(w0==X1G)=false:=by simpa using h0
   by_cases h1:w0=X1H
   ·simp[XV,Gc,Xr,X2j,X3u,X2,h1,b2]
   ·have b1:(w0==X1H)=false:=by simpa using h1
    simp[XV,Gc,Xr,X2j,X3u,X2,b0,b1]
 ·by_cases h0:w0=X1G
  ·simp[XV,Gc,Xr,X2j,X2,h0]
  ·have b0:(w0==X1G)=false:=by simpa using h0
   by_cases h1:w0=X1H
   ·simp[XV,Gc,Xr,X2j,X3u,X2,h1,b2]
   ·have b1:(w0==X1H)=false:=by simpa using h1
    simp[XV,Gc,Xr,X2j,X3u,X2,b0,b1]
 ·by_cases h0:w0=X1G
  ·simp only[Gc,h0,if_true];simp[X2j,X2,X6u];rw[Option.bind_assoc,X6r w2 w3 w4 (fun x d=>b x (List.mem_cons_of_mem _ (List.mem_cons_of_mem _ d))) Xr _ (fun l=>by simp[XV,Xr])]
   by_cases q:(okW w2&&(okW w3&&okW w4))=true
   ·rw[q];have z1:Nat.blt 0 3=true:=rfl;have z2:Nat.blt 1 3=true:=rfl;have z3:Nat.ble ((ds.length+1)*33) 200000000000000=true:=XU (by omega)
    simp[z1,z2,z3];rfl
   ·have q':(okW w2&&(okW w3&&okW w4))=false:=by simpa using q
    rw[q'];rfl
  ·have b0:(w0==X1G)=false:=by simpa using h0
   by_cases h1:w0=X1H
   ·simp[XV,Gc,Xr,X2j,X3u,X2,h1,b2,X5G]
   ·have b1:(w0==X1H)=false:=by simpa using h1
    simp[XV,Gc,Xr,X2j,X3u,X2,b0,b1,h0]
 ·by_cases h0:w0=X1G
  ·simp[XV,Gc,Xr,X2j,X2,h0,Ne.symm X5G]
  ·have b0:(w0==X1G)=false:=by simpa using h0
   by_cases h1:w0=X1H
   ·simp only[Gc,h1,if_true];simp[X2j,X3u,X2,b2,X6v];rw[Option.bind_assoc,X6s w1 w2 w3 w4 w5 (fun x d=>b x (List.mem_cons_of_mem _ d)) Xr _ (fun l=>by simp[XV,Xr])]
    by_cases q:(okW w1&&(okW w2&&(okW w3&&(okW w4&&okW w5))))=true
    ·rw[q];have z1:Nat.blt 0 5=true:=rfl;have z2:Nat.blt 1 5=true:=rfl;have z4:Nat.blt 2 5=true:=rfl;have z5:Nat.blt 3 5=true:=rfl;have z3:Nat.ble ((es.length+1)*33) 200000000000000=true:=XU (by omega)
     simp[z1,z2,z3,z4,z5];rfl
    ·have q':(okW w1&&(okW w2&&(okW w3&&(okW w4&&okW w5))))=false:=by simpa using q
     rw[q'];rfl
   ·have b1:(w0==X1H)=false:=by simpa using h1
    simp[XV,Gc,Xr,X2j,X3u,X2,b0,b1,h1]
 ·have y1:decide (((List.length (List.map mkB (w0::w1::w2::w3::w4::w5::w6::t)):Nat):Int)>2)=true:=by simp;omega
  have y2:decide ((2:Int)<=((List.length (List.map mkB (w0::w1::w2::w3::w4::w5::w6::t)):Nat):Int))=true:=by simp;omega
  have y3:decide ((1:Int)<=((List.length (List.map mkB (w0::w1::w2::w3::w4::w5::w6::t)):Nat):Int))=true:=by simp;omega
  have y4:decide ((0:Int)<((List.length (List.map mkB (w0::w1::w2::w3::w4::w5::w6::t)):Nat):Int))=true:=by simp;omega
  have y5:((List.length (List.drop (Int.toNat 2) (List.take (List.length (List.map mkB (w0::w1::w2::w3::w4::w5::w6::t))) (List.map mkB (w0::w1::w2::w3::w4::w5::w6::t)))):Nat):Int)=(t.length:Int)+5:=by simp;omega
  have y6:((List.length (List.drop (Int.toNat 1) (List.take (List.length (List.map mkB (w0::w1::w2::w3::w4::w5::w6::t))) (List.map mkB (w0::w1::w2::w3::w4::w5::w6::t)))):Nat):Int)=(t.length:Int)+6:=by simp;omega
  have y7:((t.length:Int)+5==3)=false:=by rw[beq_eq_false_iff_ne];omega
  have y8:((t.length:Int)+6==5)=false:=by rw[beq_eq_false_iff_ne];omega
  simp only[y1,y2,y3,y4,y5,y6,y7,y8]
  by_cases h0:w0=X1G
  ·simp[XV,Gc,Xr,X2j,X2,h0]
  ·have b0:(w0==X1G)=false:=by simpa using h0
   by_cases h1:w0=X1H
   ·simp[XV,Gc,Xr,X2j,X3u,X2,h1,b2]
   ·have b1:(w0==X1H)=false:=by simpa using h1
    simp[XV,Gc,Xr,X2j,X3u,X2,b0,b1]
end Nore
set_option maxHeartbeats 1000000
open Go Go.Ab
namespace Nore
noncomputable def X5p (x0:ByteArray):(((Int×(List Zl)×(List Zh))⊕((List Zl)×(List Zh))))->Option (CoRecord×Int):=fun o234↦Sum.elim (fun y235↦some (CoRecord.mk [] [],y235.fst)) (fun y236↦Option.bind (X1b (CoRecord.mk y236.snd y236.fst)) fun r237↦bif r237.snd.snd != 0 then some (CoRecord.mk [] [],6)else Option.bind (X1y (CoRecord.mk y236.snd y236.fst)) fun r238↦bif !ByteArray.toList r238==ByteArray.toList x0 then some (CoRecord.mk [] [],6)else some (CoRecord.mk y236.snd y236.fst,0)) o234
noncomputable def Fr (x0:ByteArray) (rows:List (List UInt8)) (i:Nat) (es:List Zl) (ds:List Zh):Option (CoRecord×Int):=Option.bind (X1f (rows.map mkB) ((i:Int),es,ds)) (X5p x0)
theorem X44 (l:List UInt8) (a:l.length<1000000):X1U (mkB l)=bif decide ((l.length:Int)>2000)then some (CoRecord.mk [] [],3)else Fr (mkB l) (Zhp 10 l) 0 [] []:=by
 rw[X3v];unfold X1l;rw[X5E l 10 10 rfl a];rfl
noncomputable def Gr (x0:ByteArray) (rows:List (List UInt8)) (i:Nat) (es:List Zl) (ds:List Zh):List (List UInt8)->Option (CoRecord×Int)
 | [w0,w1,w2,w3,w4]=>if w0=X1G then Fr x0 rows i es (ds++[⟨mkB w1,X31 w2,X31 w3⟩])else Xr
 | [w0,w1,w2,w3,w4,w5]=>if w0=X1H then Fr x0 rows i (es++[⟨X31 w1,X31 w2,⟨X31 w3,X31 w4⟩⟩]) ds else Xr
 | _=>Xr
theorem X5D (x0:ByteArray) (rows:List (List UInt8)) (i:Nat) (es:List Zl) (ds:List Zh) (hi:i+1<rows.length) (hr:rows.length<=10000) (m:∀w∈rows,w.length<=10000) (o:es.length<=100000) (n:ds.length<=100000) :
  Fr x0 rows i es ds=Gr x0 rows (i+1) es ds (Zhp 32 (rows.getD i [])):=by
 have c:i<rows.length:=by omega
 have g:i<(rows.map mkB).length:=by simpa using c
 unfold Fr X1f;rw[X1F];simp only[X1k,WO];have w1:=wS i (by omega)
 have c0:decide (((i+1:Nat):Int)<((rows.map mkB).length:Int))=true:=by simp;omega
 have c1:decide ((0:Int)<=(i:Int))=true:=by simp
 have c2:decide ((i:Int)<((rows.map mkB).length:Int))=true:=by simp;omega
 have j:=m _ (jl c);have e:rows.getD i []=rows[i]:=Xo _ _ _ c;rw[e];simp only[w1,c0,c1,c2,ju,jB,kS,Xo _ _ _ g,List.getElem_map,X5E rows[i] 32 32 rfl (by omega),jS,X2j,X3u]
 have d:∀w∈Zhp 32 rows[i],w.length<=10000:=fun w b=>by have:=X2t 32 _ w b;omega
 have a:∀w∈Zhp 32 rows[i],Xi (mkB w)=some (X31 w):=fun w b=>X4X w (by have:=d w b;omega)
 generalize Zhp 32 rows[i]=ws at d a⊢;have b2:(X1H==X1G)=false:=by decide
 have b5:(X1G==X1H)=false:=by decide
 rcases ws with _|⟨w0,_|⟨w1,_|⟨w2,_|⟨w3,_|⟨w4,_|⟨w5,_|⟨w6,t⟩⟩⟩⟩⟩⟩⟩
 ·simp[X5p,Gr,Xr]
 ·simp[X5p,Gr,Xr]
 ·simp[X5p,Gr,Xr]
 ·simp[X5p,Gr,Xr]
 ·simp[X5p,Gr,Xr]
 ·have f:=a w2 (by simp)
  have h:=a w3 (by simp)
  by_cases h0:w0=X1G
  ·have z3:Nat.ble ((ds.length+1)*33) 200000000000000=true:=XU (by omega)
   simp[Gr,h0,X2,f,h,z3];rfl
  ·have b0:(w0==X1G)=false:=by simpa using h0
   simp[X5p,Gr,Xr,X2,h0,b0]
 ·have l:=a w1 (by simp)
  have f:=a w2 (by simp)
  have h:=a w3 (by simp)
  have k:=a w4 (by simp)
  by_cases h0:w0=X1H
  ·have z3:Nat.ble ((es.length+1)*33) 200000000000000=true:=XU (by omega)
   simp[Gr,h0,X2,l,f,h,k,z3];rfl
  ·have b0:(w0==X1H)=false:=by simpa using h0
   simp[X5p,Gr,Xr,X2,h0,b0]
 ·have y7:(((List.length (List.map mkB (w0::w1::w2::w3::w4::w5::w6::t)):Nat):Int)==5)=false:=by rw[beq_eq_false_iff_ne];simp;omega
  have y8:(((List.length (List.map mkB (w0::w1::w2::w3::w4::w5::w6::t)):Nat):Int)==6)=false:=by rw[beq_eq_false_iff_ne];simp;omega
  simp only[y7,y8];simp[X5p,Gr,Xr]
theorem X6m (x0:ByteArray) (rows:List (List UInt8)) (i:Nat) (es:List Zl) (ds:List Zh) (hi:i+1=rows.length) (hr:rows.length<=10000) :
  Fr x0 rows i es ds=Option.bind (X1b (CoRecord.mk ds es)) fun c=>bif c.2.2 != 0 then Xr else Option.bind (X1y (CoRecord.mk ds es)) fun t=>bif !(t.toList==x0.toList)then Xr else some (CoRecord.mk ds es,0):=by
 unfold Fr X1f;rw[X1F];simp only[X1k,WO];have w1:=wS i (by omega)
 have c0:decide (((i+1:Nat):Int)<((rows.map mkB).length:Int))=false:=by simp;omega
 simp only[w1,c0,jA,jS,jy,X5p];rfl
theorem X6l (x0:ByteArray) (es:List Zl) (ds:List Zh) :
  Fc x0 es (mkB []) ds=Option.bind (X14 (CoRecord.mk ds es)) fun c=>bif c.2.2==0 then Option.bind (X1v (CoRecord.mk ds es)) fun t=>bif !(t.toList==x0.toList)then Xr else some (CoRecord.mk ds es,0)else Xr:=by
 unfold Fc Wh;rw[X1F];simp only[Wq,W2];have c0:decide (((mkB []).size:Int)>0)=false:=by decide
 simp only[c0,jA,jS,jy,XV];rfl
end Nore
set_option maxHeartbeats 1000000
open Go Go.Ab
namespace Nore
theorem X61 {lo hi n m:Int} (h:X1C lo hi [n,m]=false):lo<=n/\n<=hi/\lo<=m/\m<=hi:=by
 simp only[X4b,X4C,Bool.or_false,Bool.or_eq_false_iff,decide_eq_false_iff_not]at h;omega
theorem X6E {r:CoRecord} (h:(X11 r).2.2=0):∀d∈r.Devices,X3b d.Name=true:=by
 unfold X11 at h;split at h
 ·simp at h
 ·split at h
  ·rename_i q;simp at h;exact absurd h q
  ·rename_i q;have q:(X2C r).2=0:=by simpa using q
   intro d a;obtain⟨j,b,rfl⟩:=List.getElem_of_mem a;have:=X49 _ r.Devices 0 q j b;unfold X5b X3H at this;cases hn:X3b (r.Devices[j]).Name with
   | true=>rfl
   | false=>simp[hn]at this
theorem X3n {r:CoRecord} (h:(X11 r).2.2=0):X6N r:=by
 have a:=X6q h;have j:=X6E h;have f:=a.devs;refine⟨f.1,f.2,a.many,fun d e=>⟨j d e,?_,?_⟩,fun x i=>?_⟩
 ·have:=(a.dev d e).1;exact⟨by omega,by omega⟩
 ·have:=a.dev d e;exact⟨by omega,by omega⟩
 ·have c:=a.ent x i;unfold X3t at c;split at c
  ·omega
  ·rename_i q1;split at c
   ·omega
   ·rename_i q2;split at c
    ·omega
    ·rename_i q3;have q1:=X22 (Bool.eq_false_iff.2 q1);have q2:=X22 (Bool.eq_false_iff.2 q2);have q3:=X61 (Bool.eq_false_iff.2 q3);have b:x.Device.toNat<r.Devices.length:=by omega
     have g:=a.dev _ (jl b);rw[Xo _ _ _ b]at q2;have w:IntKind.wrap .i64 ((r.Devices[x.Device.toNat]).States-1)=(r.Devices[x.Device.toNat]).States-1:=by rw[w64]<;>omega
     rw[w]at q2;exact⟨⟨by omega,by omega⟩,⟨by omega,by omega⟩,⟨by omega,by omega⟩,⟨by omega,by omega⟩⟩
def X56 (r:CoRecord):Prop:=(X11 r).2.2=0
theorem X6C {r:CoRecord} (hv:X56 r) (l:List UInt8) (ht:X2d r=l) :
  (Option.bind (X14 r) fun c=>bif c.2.2==0 then Option.bind (X1v r) fun t=>bif !(t.toList==(mkB l).toList)then Xr else some (r,0)else Xr)=some (r,0) ∧
  (Option.bind (X1b r) fun c=>bif c.2.2 != 0 then Xr else Option.bind (X1y r) fun t=>bif !(t.toList==(mkB l).toList)then Xr else some (r,0))=some (r,0):=by
 have a:(X11 r).2.2=0:=hv;have d:((X11 r).2.2==0)=true:=by rw[a];rfl
 have b:((X11 r).2.2 != 0)=false:=by rw[a];rfl
 have e:((mkB (X2d r)).toList==(mkB l).toList)=true:=by rw[ht];simp
 simp only[X2V,X2X,jS,d,b,jB,jA,X38 (X3n a),X3f (X3n a),e,Bool.not_true];exact⟨trivial,trivial⟩
theorem X6B {r:CoRecord} (l:List UInt8) (h:¬(X56 r/\X2d r=l)) :
  (Option.bind (X14 r) fun c=>bif c.2.2==0 then Option.bind (X1v r) fun t=>bif !(t.toList==(mkB l).toList)then Xr else some (r,0)else Xr)=Xr ∧
  (Option.bind (X1b r) fun c=>bif c.2.2 != 0 then Xr else Option.bind (X1y r) fun t=>bif !(t.toList==(mkB l).toList)then Xr else some (r,0))=Xr:=by
 simp only[X2V,X2X,jS]
 by_cases hv:(X11 r).2.2=0
 ·have b:((X11 r).2.2==0)=true:=by rw[hv];rfl
  have a:((X11 r).2.2 != 0)=false:=by rw[hv];rfl
  have d:((mkB (X2d r)).toList==(mkB l).toList)=false:=by
   rw[X55];exact decide_eq_false fun e=>h ⟨hv,e⟩
  simp only[b,a,jB,jA,X38 (X3n hv),X3f (X3n hv),jS,d,Bool.not_false];exact⟨trivial,trivial⟩
 ·have b:((X11 r).2.2==0)=false:=X6R hv;have a:((X11 r).2.2 != 0)=true:=X4x hv;simp only[b,a,jB,jA];exact⟨trivial,trivial⟩
theorem X5K (x0:ByteArray) (es:List Zl) (rest:ByteArray) (ds:List Zh) (ws:List (List UInt8)) :
  Gc x0 es rest ds ws=Xr\/∃es' ds',Gc x0 es rest ds ws=Fc x0 es' rest ds'/\es'.length<=es.length+1/\ds'.length<=ds.length+1:=by
 unfold Gc;split
 ·rename_i w0 w1 w2 w3 w4;split
  ·cases okW w2&&(okW w3&&okW w4)with
   | true=>exact .inr ⟨_,_,rfl,by omega,by simp⟩
   | false=>exact .inl rfl
  ·exact .inl rfl
 ·rename_i w0 w1 w2 w3 w4 w5;split
  ·cases okW w1&&(okW w2&&(okW w3&&(okW w4&&okW w5)))with
   | true=>exact .inr ⟨_,_,rfl,by simp,by omega⟩
   | false=>exact .inl rfl
  ·exact .inl rfl
 ·exact .inl rfl
theorem X5I (x0:ByteArray):∀(n:Nat) (x:List UInt8) (es:List Zl) (ds:List Zh),x.length<=n->x.length<=2000->es.length+x.length<=100000->ds.length+x.length<=100000 →
  Fc x0 es (mkB x) ds=Xr\/∃es' ds',Fc x0 es (mkB x) ds=Fc x0 es' (mkB []) ds'
 | n,[],es,ds,_,_,_,_=>.inr ⟨es,ds,rfl⟩
 | 0,y::ys,es,ds,h,_,_,_=>by simp at h
 | n+1,y::ys,es,ds,h,h2,h3,h4=>by
  rcases X3Y 10 (y::ys)with b|⟨a,rest,e,b⟩
  ·rw[X6U x0 es ds _ b (by simp) h2 (by omega) (by omega)]
   rcases X5K x0 es (mkB []) ds (Zhp 32 (y::ys))with q|⟨es',ds',q,_,_⟩
   ·exact .inl q
   ·exact .inr ⟨es',ds',q⟩
  ·rw[e]at h h2 h3 h4⊢;rw[X5C x0 es ds a rest b h2 (by omega) (by omega)]
   have c:(a++10::rest).length=a.length+rest.length+1:=by simp;omega
   rcases X5K x0 es (mkB rest) ds (Zhp 32 a)with q|⟨es',ds',q,q1,q2⟩
   ·exact .inl q
   ·rw[q];exact X5I x0 n rest es' ds' (by omega) (by omega) (by omega) (by omega)
theorem X6n (x0:ByteArray) (rows:List (List UInt8)) (i:Nat) (es:List Zl) (ds:List Zh) (ws:List (List UInt8)) :
  Gr x0 rows i es ds ws=Xr\/∃es' ds',Gr x0 rows i es ds ws=Fr x0 rows i es' ds'/\es'.length<=es.length+1/\ds'.length<=ds.length+1:=by
 unfold Gr;split
 ·split
  ·exact .inr ⟨_,_,rfl,by omega,by simp⟩
  ·exact .inl rfl
 ·split
  ·exact .inr ⟨_,_,rfl,by simp,by omega⟩
  ·exact .inl rfl
 ·exact .inl rfl
theorem X5J (x0:ByteArray) (rows:List (List UInt8)) (hr:rows.length<=10000) (a:∀w∈rows,w.length<=10000):∀(n i:Nat) (es:List Zl) (ds:List Zh),rows.length=i+n+1->es.length<=i->ds.length<=i →
  Fr x0 rows i es ds=Xr\/∃es' ds',Fr x0 rows i es ds=Fr x0 rows (rows.length-1) es' ds'
 | 0,i,es,ds,h,_,_=>.inr ⟨es,ds,by rw[show rows.length-1=i by omega]⟩
 | n+1,i,es,ds,h,h2,h3=>by
  rw[X5D x0 rows i es ds (by omega) hr a (by omega) (by omega)]
  rcases X6n x0 rows (i+1) es ds (Zhp 32 (rows.getD i []))with q|⟨es',ds',q,q1,q2⟩
  ·exact .inl q
  ·rw[q];exact X5J x0 rows hr a n (i+1) es' ds' (by omega) (by omega) (by omega)
theorem X6b {l:List UInt8} (h:l.all X1K=true) {c:UInt8} (hc:c.toNat<48):c∉l:=fun a=>by
 have:=(List.all_eq_true.1 h) c a;simp[X1K]at this;omega
theorem X3l (n:Nat):(32:UInt8)∉dg n:=X6b (X4z n).1 (by decide)
theorem X6a (n:Nat):(10:UInt8)∉dg n:=X6b (X4z n).1 (by decide)
theorem X40:∀(l:List UInt8) (last:Int),X3a (X3z last l)=true->∀b∈l,45<=b.toNat
 | [],_,_,b,a=>by cases a
 | c::l,last,h,b,a=>by
  unfold X3z at h;split at h
  ·rename_i q;rcases jv.1 a with e|e
   ·rw[e];omega
   ·exact X40 l _ h b e
  ·split at h
   ·cases h
   ·rename_i q;rcases jv.1 a with e|e
    ·rw[e];omega
    ·exact X40 l _ h b e
theorem X60 {d:Zh} (h:X4I d):∀b∈d.Name.toList,45<=b.toNat:=by
 have:=h.name;unfold X3b at this;simp only[jn]at this;exact X40 _ _ this.2
theorem X6d {d:Zh} (h:X4I d) {c:UInt8} (hc:c.toNat<45):c∉d.Name.toList:=fun a=>by
 have:=X60 h c a;omega
theorem X4w:∀ns:List Int,(10:UInt8)∉X3c ns
 | []=>by simp[X4R]
 | n::ns=>by
  rw[X4v];simp only[jv,List.mem_append,not_or];exact⟨by decide,X6a _,X4w ns⟩
theorem X5w {d:Zh} (h:X4I d):(10:UInt8)∉X1n d:=by
 unfold X1n;simp only[jv,List.mem_append,not_or];exact⟨by decide,by decide,X6d h (by decide),X4w _⟩
theorem X5x (x:Zl):(10:UInt8)∉X1z x:=by
 unfold X1z;simp only[List.mem_append,not_or];exact⟨by decide,X4w _⟩
theorem X47 {w:List UInt8} (h:(10:UInt8)∉w) (n:Nat):(10:UInt8)∉w++32::dg n:=by
 simp only[jv,List.mem_append,not_or];exact⟨h,by decide,X6a _⟩
theorem X5Q {d:Zh} (h:X4I d) (n:Nat):Zhp 32 (X1n d++32::dg n)=[X1G,d.Name.toList,dg d.States.toNat,dg d.First.toNat,dg n]:=by
 have e:X1n d++32::dg n=X1G++32::(d.Name.toList++32::(dg d.States.toNat++32::(dg d.First.toNat++32::dg n))):=by simp[X1n,X3c,X1G]
 rw[e,X17 (by decide),X17 (X6d h (by decide)),X17 (X3l _),X17 (X3l _),X35 (X3l _)]
theorem X5R (x:Zl) (n:Nat):Zhp 32 (X1z x++32::dg n)=[X1H,dg x.Device.toNat,dg x.State.toNat,dg x.At.Lo.toNat,dg x.At.Hi.toNat,dg n]:=by
 have e:X1z x++32::dg n=X1H++32::(dg x.Device.toNat++32::(dg x.State.toNat++32::(dg x.At.Lo.toNat++32::(dg x.At.Hi.toNat++32::dg n)))):=by simp[X1z,X3c,X1H]
 rw[e,X17 (by decide),X17 (X3l _),X17 (X3l _),X17 (X3l _),X17 (X3l _),X35 (X3l _)]
theorem X1o.ok {n:Int} (h:X1o n):okW (dg n.toNat)=true:=X71 (by have:=h.2;omega)
theorem X1o.v {n:Int} (h:X1o n):vW (dg n.toNat)=n:=by
 rw[X73 (by have:=h.2;omega),Int.toNat_of_nonneg h.1]
theorem X1o.d {n:Int} (h:X1o n):X31 (dg n.toNat)=n:=by
 rw[X6Z (by have:=h.2;omega),Int.toNat_of_nonneg h.1]
theorem X6V {x0:ByteArray} {es:List Zl} {rest:ByteArray} {ds:List Zh} {d:Zh} (h:X4I d) {n:Int} (a:X1o n):Gc x0 es rest ds (Zhp 32 (X1n d++32::dg n.toNat))=Fc x0 es rest (ds++[d]):=by
 rw[X5Q h];simp only[Gc,if_true,h.st.ok,h.fi.ok,a.ok,ju,jB,h.st.v,h.fi.v,X4O]
theorem X6W {x0:ByteArray} {es:List Zl} {rest:ByteArray} {ds:List Zh} {x:Zl} (h:X5l x) {n:Int} (a:X1o n):Gc x0 es rest ds (Zhp 32 (X1z x++32::dg n.toNat))=Fc x0 (es++[x]) rest ds:=by
 rw[X5R];simp only[Gc,if_true,h.dev.ok,h.st.ok,h.lo.ok,h.hi.ok,a.ok,ju,jB,h.dev.v,h.st.v,h.lo.v,h.hi.v]
theorem X6X {x0:ByteArray} {rows:List (List UInt8)} {i:Nat} {es:List Zl} {ds:List Zh} {d:Zh} (h:X4I d) (n:Nat):Gr x0 rows i es ds (Zhp 32 (X1n d++32::dg n))=Fr x0 rows i es (ds++[d]):=by
 rw[X5Q h];simp only[Gr,if_true,h.st.d,h.fi.d,X4O]
theorem X6Y {x0:ByteArray} {rows:List (List UInt8)} {i:Nat} {es:List Zl} {ds:List Zh} {x:Zl} (h:X5l x) (n:Nat):Gr x0 rows i es ds (Zhp 32 (X1z x++32::dg n))=Fr x0 rows i (es++[x]) ds:=by
 rw[X5R];simp only[Gr,if_true,h.dev.d,h.st.d,h.lo.d,h.hi.d]
theorem X3L {s:Int} {w:List UInt8} (h:0<=s/\s<65521):X1o (XB s w):=by
 have:=XI w s h.1 h.2;exact⟨this.1,by omega⟩
theorem X4V (s:Int) (w:List UInt8) (ws:List (List UInt8)):Wa s (w::ws)=(w++32::dg (XB s w).toNat)++10::Wa (XB s w) ws:=by simp[Wa]
theorem X66 (x0:ByteArray) (ds:List Zh) (b:ds.length<=1000):∀(xs:List Zl) (s:Int) (es:List Zl),(∀x∈xs,X5l x)->0<=s/\s<65521->(Wa s (xs.map X1z)).length<=2000->es.length+xs.length<=1000 →
  Fc x0 es (mkB (Wa s (xs.map X1z))) ds=Fc x0 (es++xs) (mkB []) ds
 | [],s,es,_,_,_,_=>by simp[Wa]
 | x::xs,s,es,h,hs,hl,hn=>by
  rw[jr,X4V]at hl⊢;have a:=XI (X1z x) s hs.1 hs.2;rw[X5C x0 es ds _ _ (X47 (X5x x) _) hl (by omega) (by omega),X6W (h x (by simp)) (X3L hs)]
  rw[X66 x0 ds b xs _ (es++[x]) (fun y hy=>h y (by simp[hy])) a (by simp at hl⊢;omega) (by simp at hn⊢;omega)]
  simp
theorem X65 (x0:ByteArray) (xs:List Zl) (c:∀x∈xs,X5l x) (a:xs.length<=500):∀(ys:List Zh) (s:Int) (ds:List Zh),(∀y∈ys,X4I y)->0<=s/\s<65521->(Wa s (ys.map X1n++xs.map X1z)).length<=2000->ds.length+ys.length<=1000 →
  Fc x0 [] (mkB (Wa s (ys.map X1n++xs.map X1z))) ds=Fc x0 xs (mkB []) (ds++ys)
 | [],s,ds,_,hs,hl,hn=>by
  simp only[List.map_nil,List.nil_append,jo]at hl⊢;rw[X66 x0 ds (by simpa using hn) xs s [] c hs hl (by simp;omega)]
  simp
 | y::ys,s,ds,h,hs,hl,hn=>by
  rw[jr,List.cons_append,X4V]at hl⊢;have b:=XI (X1n y) s hs.1 hs.2;have hy:=h y (by simp)
  rw[X5C x0 [] ds _ _ (X47 (X5w hy) _) hl (by simp) (by simp at hn;omega),X6V hy (X3L hs)]
  rw[X65 x0 xs c a ys _ (ds++[y]) (fun z hz=>h z (by simp[hz])) b (by simp at hl⊢;omega) (by simp at hn⊢;omega)]
  simp
def X34:Int->List (List UInt8)->List (List UInt8)
 | _,[]=>[]
 | s,w::ws=>(w++32::dg (XB s w).toNat)::X34 (XB s w) ws
theorem X5S:∀(ws:List (List UInt8)) (s:Int),(∀w∈ws,(10:UInt8)∉w)->Zhp 10 (Wa s ws)=X34 s ws++[[]]
 | [],s,_=>rfl
 | w::ws,s,h=>by
  rw[X4V,X17 (X47 (h w (by simp)) _),X5S ws _ fun v hv=>h v (by simp[hv])]
  rfl
theorem X68 (x0:ByteArray) (rows:List (List UInt8)) (hr:rows.length<=10000) (c:∀w∈rows,w.length<=10000) (ds:List Zh) (d:ds.length<=1000):∀(xs:List Zl) (s:Int) (i:Nat) (es:List Zl),(∀x∈xs,X5l x)->rows.drop i=X34 s (xs.map X1z)++[[]]->es.length+xs.length<=1000 →
  ∃j,j+1=rows.length/\Fr x0 rows i es ds=Fr x0 rows j (es++xs) ds
 | [],s,i,es,_,hi,_=>by
  have:=congrArg List.length hi;simp[X34]at this;exact⟨i,by omega,by simp⟩
 | x::xs,s,i,es,h,hi,hn=>by
  have b:=congrArg List.length hi;simp[X34]at b;have a:i<rows.length:=by omega
  rw[Zhs a,jr]at hi;simp only[X34,List.cons_append,List.cons.injEq]at hi;rw[X5D x0 rows i es ds (by omega) hr c (by omega) (by omega),Xo _ _ _ a,hi.1,X6Y (h x (by simp))]
  obtain⟨j,f,e⟩:=X68 x0 rows hr c ds d xs _ (i+1) (es++[x]) (fun y hy=>h y (by simp[hy])) hi.2 (by simp at hn⊢;omega)
  exact⟨j,f,by rw[e];simp⟩
theorem X67 (x0:ByteArray) (rows:List (List UInt8)) (hr:rows.length<=10000) (c:∀w∈rows,w.length<=10000) (xs:List Zl) (g:∀x∈xs,X5l x) (d:xs.length<=500):∀(ys:List Zh) (s:Int) (i:Nat) (ds:List Zh),(∀y∈ys,X4I y)->rows.drop i=X34 s (ys.map X1n++xs.map X1z)++[[]]->ds.length+ys.length<=1000 →
  ∃j,j+1=rows.length/\Fr x0 rows i [] ds=Fr x0 rows j xs (ds++ys)
 | [],s,i,ds,_,hi,hn=>by
  obtain⟨j,f,e⟩:=X68 x0 rows hr c ds (by simpa using hn) xs s i [] g hi (by simp;omega)
  exact⟨j,f,by rw[e];simp⟩
 | y::ys,s,i,ds,h,hi,hn=>by
  have b:=congrArg List.length hi;simp[X34]at b;have a:i<rows.length:=by omega
  rw[Zhs a,jr,List.cons_append]at hi;simp only[X34,List.cons_append,List.cons.injEq]at hi;rw[X5D x0 rows i [] ds (by omega) hr c (by simp) (by simp at hn;omega),Xo _ _ _ a,hi.1,X6X (h y (by simp))]
  obtain⟨j,f,e⟩:=X67 x0 rows hr c xs g d ys _ (i+1) (ds++[y]) (fun z hz=>h z (by simp[hz])) hi.2 (by simp at hn⊢;omega)
  exact⟨j,f,by rw[e];simp⟩
theorem X6j {r:CoRecord} (h:X6N r):∀w∈X4G r,(10:UInt8)∉w:=by
 intro w a;rcases List.mem_append.1 a with a|a
 ·obtain⟨d,b,rfl⟩:=List.mem_map.1 a;exact X5w (h.devs d b)
 ·obtain⟨d,b,rfl⟩:=List.mem_map.1 a;exact X5x d
theorem X6F {r:CoRecord} (hv:X56 r) (l:List UInt8) (ht:X2d r=l) (b:l.length<=2000):X1P (mkB l)=some (r,0)/\X1U (mkB l)=some (r,0):=by
 have hT:=X3n hv;have f:=hT.many;have g:=hT.few;have c0:decide ((l.length:Int)>2000)=false:=by simp;omega
 constructor
 ·rw[X37,X0,c0,jA];have:=X65 (mkB l) r.Entries hT.ents (by omega) r.Devices 0 [] hT.devs (by decide) (by rw[show Wa 0 (r.Devices.map X1n++r.Entries.map X1z)=l from ht];exact b) (by simp;omega)
  rw[show Wa 0 (r.Devices.map X1n++r.Entries.map X1z)=l from ht]at this;rw[this,X6l,List.nil_append];exact(X6C hv l ht).1
 ·rw[X44 l (by omega),c0,jA]
  have hc:=X5S (X4G r) 0 (X6j hT);rw[show Wa 0 (X4G r)=l from ht]at hc;have e:=X48 10 l;obtain⟨j,d,c⟩:=X67 (mkB l) (Zhp 10 l) (by omega) (fun w a=>by have:=X2t 10 l w a;omega) r.Entries hT.ents (by omega) r.Devices 0 0 [] hT.devs hc (by simp;omega)
  rw[c,X6m _ _ _ _ _ d (by omega),List.nil_append]
  exact(X6C hv l ht).2
theorem X6Q (l:List UInt8) (e:l.length<=2000) (h:∀r,X56 r->X2d r≠l):X1P (mkB l)=Xr/\X1U (mkB l)=Xr:=by
 have c0:decide ((l.length:Int)>2000)=false:=by simp;omega
 have b:∀r,¬(X56 r/\X2d r=l):=fun r q=>h r q.1 q.2;constructor
 ·rw[X37,X0,c0,jA];rcases X5I (mkB l) l.length l [] [] (Nat.le_refl _) e (by simp;omega) (by simp;omega)with q|⟨es,ds,q⟩
  ·exact q
  ·rw[q,X6l];exact(X6B l (b _)).1
 ·rw[X44 l (by omega),c0,jA]
  have f:=X48 10 l;have a:=X54 10 l;have c:0<(Zhp 10 l).length:=List.length_pos_iff.2 a;rcases X5J (mkB l) (Zhp 10 l) (by omega) (fun w d=>by have:=X2t 10 l w d;omega) ((Zhp 10 l).length-1) 0 [] [] (by omega) (by simp) (by simp)with q|⟨es,ds,q⟩
  ·exact q
  ·rw[q,X6m _ _ _ _ _ (by omega) (by omega)]
   exact(X6B l (b _)).2
theorem X6i (l:List UInt8) (a:2000<l.length):X1P (mkB l)=some (CoRecord.mk [] [],3)/\X1U (mkB l)=some (CoRecord.mk [] [],3):=by
 have c0:decide ((l.length:Int)>2000)=true:=by simp;omega
 constructor
 ·rw[X37,X0,c0,jB]
 ·rw[X3v];unfold X1l;rw[X0,c0,jB]
end Nore
set_option maxHeartbeats 1000000
open Go Go.Ab
namespace Nore
def X12:List UInt8->Option (List UInt8×List UInt8)
 | []=>none
 | c::l=>match X12 l with
  | some p=>some (c::p.1,p.2)
  | none=>if c=32 then some ([],l)else none
theorem X3m:∀{l:List UInt8},32∉l->X12 l=none
 | [],_=>rfl
 | c::l,h=>by
  simp only[jv,not_or]at h;unfold X12;rw[X3m h.2];simp only;rw[if_neg (fun e=>h.1 e.symm)]
theorem X5s:∀{a b:List UInt8},32∉b->X12 (a++32::b)=some (a,b)
 | [],b,h=>by
  rw[List.nil_append];unfold X12;rw[X3m h];rfl
 | c::a,b,h=>by
  rw[List.cons_append];unfold X12;rw[X5s h]
def X3i:Int->Nat->List (List UInt8)->Int×Int
 | _,_,[]=>(0,4)
 | s,n,w::ws=>if ws=[]then(if w=[]then(0,4)else(((n+1:Nat):Int),0))else match X12 w with
  | none=>(((n+1:Nat):Int),0)
  | some p=>if p.2=dg (XB s p.1).toNat then X3i (XB s p.1) (n+1) ws else(((n+1:Nat):Int),0)
noncomputable def X6p:(((ByteArray×Int×Int×Int×Int)⊕(ByteArray×Int×Int×Int×Int)⊕(ByteArray×Int×Int×Int×Int)⊕(ByteArray×Int×Int×Int×Int)⊕(ByteArray×Int×Int)))->Option (Int×Int):=fun o263↦Sum.elim (fun y264↦some (y264.snd.snd.snd.fst,y264.snd.fst)) (fun y265↦Sum.elim (fun y266↦some (y266.snd.snd.snd.fst,y266.snd.fst)) (fun y267↦Sum.elim (fun y268↦some (y268.snd.snd.snd.fst,y268.snd.fst)) (fun y269↦Sum.elim (fun y270↦some (y270.snd.snd.snd.fst,y270.snd.fst)) (fun y271↦some (0,4)) y269) y267) y265) o263
noncomputable def Bc (x:ByteArray) (s:Int) (n:Nat):Option (Int×Int):=Option.bind (XR (x,s,(n:Int))) X6p
theorem X6T (s:Int) (n:Nat):Bc (mkB []) s n=some (0,4):=by
 unfold Bc XR;rw[X1F];simp only[W1,XF];have c0:decide (((mkB []).size:Int)>0)=false:=by decide
 simp only[c0,jA,jS,jy,X6p]
theorem X6S (a:List UInt8) (d:10∉a) (c:a≠[]) (g:a.length<=2000) (s:Int) (n:Nat) (i:n<=100000):Bc (mkB a) s n=some (((n+1:Nat):Int),0):=by
 unfold Bc XR;rw[X1F];simp only[W1,XF];have f:0<a.length:=List.length_pos_iff.2 c;have c0:decide (((mkB a).size:Int)>0)=true:=by rw[X0];simp;omega
 have c1:decide ((-1:Int)>=0)=false:=by decide
 have w3:=wS n (by omega)
 have e3:XP (mkB a) (mkB [10])=some (mkB a,false):=by
  rw[X5P _ _ (by omega),if_neg]
  intro h;exact d (List.mem_of_getLast? h)
 simp only[c0,jB,X4A,X39 d,jS,c1,jA,ten,e3,w3];have b:∃v,Xs (mkB a) 32=some v:=by
  rcases X6c 32 a with h|⟨p,q,e,h⟩
  ·exact⟨_,(X4B a (by omega)).1 h⟩
  ·exact⟨_,(X4B a (by omega)).2 p q e h⟩
 obtain⟨v,hv⟩:=b;simp only[hv,jS,Bool.not_false,jB,jy,X6p];rfl
theorem X6M (a rest:List UInt8) (g:10∉a) (i:(a++10::rest).length<=2000) (s:Int) (n:Nat) (j:n<=100000) (c:0<=s/\s<65521):Bc (mkB (a++10::rest)) s n=match X12 a with
  | none=>some (((n+1:Nat):Int),0)
  | some p=>if p.2=dg (XB s p.1).toNat then Bc (mkB rest) (XB s p.1) (n+1)else some (((n+1:Nat):Int),0):=by
 unfold Bc XR;rw[X1F];simp only[W1,XF];have b:(a++10::rest).length=a.length+rest.length+1:=by simp;omega
 have c0:decide (((mkB (a++10::rest)).size:Int)>0)=true:=by rw[X0,b];simp;omega
 have w1:IntKind.wrap .i64 ((a.length:Int)+1)=((a.length+1:Nat):Int):=by rw[w64]<;>omega
 have w3:=wS n (by omega)
 have c1:decide ((a.length:Int)>=0)=true:=by simp
 have c2:decide ((0:Int)<=((a.length+1:Nat):Int))=true:=by simp;omega
 have c3:decide (((a.length+1:Nat):Int)<=((mkB (a++10::rest)).size:Int))=true:=by rw[X0,b];simp;omega
 have e1:(mkB (a++10::rest)).extract 0 (a.length+1)=mkB (a++[10]):=by
  rw[X21,List.drop_zero];congr 2;rw[show a++10::rest=(a++[10])++rest by simp,List.take_left' (by simp)]
 have e2:(mkB (a++10::rest)).extract (a.length+1) (mkB (a++10::rest)).size=mkB rest:=by
  rw[X21,X0,List.take_length];congr 2;rw[show a++10::rest=(a++[10])++rest by simp,List.drop_left' (by simp)]
 have e3:XP (mkB (a++[10])) (mkB [10])=some (mkB a,true):=by
  rw[X5P _ _ (by simp;omega),if_pos (by simp)]
  simp
 simp only[c0,jB,X4A,X3I g,jS,c1,w1,c2,c3,ju,kS,e1,e2,ten,e3,w3,Bool.not_true,jA];rcases X6c 32 a with h|⟨p,q,e,h⟩
 ·rw[(X4B a (by omega)).1 h,X3m h]
  have c5:decide ((-1:Int)<0)=true:=by decide
  simp only[jS,c5,jB,jy,X6p];rfl
 ·rw[(X4B a (by omega)).2 p q e h]
  have d:a.length=p.length+q.length+1:=by rw[e];simp;omega
  have c5:decide ((p.length:Int)<0)=false:=by simp
  have c6:decide ((0:Int)<=(p.length:Int))=true:=by simp
  have c7:decide ((p.length:Int)<=((mkB a).size:Int))=true:=by rw[X0,d];simp;omega
  have w4:IntKind.wrap .i64 ((p.length:Int)+1)=((p.length+1:Nat):Int):=by rw[w64]<;>omega
  have c8:decide ((0:Int)<=((p.length+1:Nat):Int))=true:=by simp;omega
  have c9:decide (((p.length+1:Nat):Int)<=((mkB a).size:Int))=true:=by rw[X0,d];simp;omega
  have x1:(mkB a).extract 0 p.length=mkB p:=by
   rw[X21,List.drop_zero,e,List.take_left' rfl]
  have x2:(mkB a).extract (p.length+1) (mkB a).size=mkB q:=by
   rw[X21,X0,List.take_length];congr 2;rw[e,show p++32::q=(p++[32])++q by simp,List.drop_left' (by simp)]
  have f:=XI p s c.1 c.2;have hit:=(X3L (w:=p) c).itoa;simp only[jS,c5,jA,c6,c7,ju,jB,kS,x1,X4M p s (by omega) c.1 c.2,w4,c8,c9,x2,hit,X55,X3m]
  rw[e,X5s h];simp only
  by_cases hq:q=dg (XB s p).toNat
  ·rw[if_pos hq];simp only[hq,decide_true,Bool.not_true,jA,jS,jw]
  ·rw[if_neg hq];simp only[hq,decide_false,Bool.not_false,jB,jS,jy,X6p];rfl
theorem X6k:∀(m:Nat) (x:List UInt8) (s:Int) (n:Nat),x.length<=m->x.length<=2000->n+x.length<=100000->0<=s/\s<65521->Bc (mkB x) s n=some (X3i s n (Zhp 10 x))
 | m,[],s,n,_,_,_,_=>by rw[X6T];rfl
 | 0,y::ys,s,n,h,_,_,_=>by simp at h
 | m+1,y::ys,s,n,h,h2,h3,hs=>by
  rcases X3Y 10 (y::ys)with b|⟨a,rest,e,b⟩
  ·rw[X6S _ b (by simp) h2 s n (by omega),X35 b]
   rfl
  ·rw[e]at h h2 h3⊢;rw[X6M a rest b h2 s n (by omega) hs,X17 b]
   have c:(a++10::rest).length=a.length+rest.length+1:=by simp;omega
   unfold X3i;rw[if_neg (X54 10 rest)];cases hq:X12 a with
   | none=>rfl
   | some p =>
    simp only
    by_cases hp:p.2=dg (XB s p.1).toNat
    ·rw[if_pos hp,if_pos hp];exact X6k m rest _ (n+1) (by omega) (by omega) (by omega) (XI p.1 s hs.1 hs.2)
    ·rw[if_neg hp,if_neg hp]
theorem X4J (l:List UInt8) (a:l.length<=2000):X1Z (mkB l)=some (X3i 0 0 (Zhp 10 l)):=by
 rw[X2U];unfold Wp;have c0:decide (((mkB l).size:Int)>2000)=false:=by rw[X0];simp;omega
 rw[c0,jA];exact X6k l.length l 0 0 (Nat.le_refl _) a (by omega) (by decide)
theorem X5V (l:List UInt8) (d:l.length<1000000) {β:Type} (k:Int->Option β) :
  Option.bind (X1h (mkB l) (-1,0)) k=k (match X12 l with|some p=>(p.1.length:Int)|none => -1):=by
 unfold X1h;have key:=Xp (W7 (mkB l)) k l.length (fun i (a:Int)=>(a,(i:Int))) (fun _ _=>True)
  (fun i a=>k (match X12 (l.drop i)with|some p=>((i+p.1.length:Nat):Int)|none=>a))
  (by
   intro a _ R;have c1:decide ((l.length:Int)<((mkB l).size:Int))=false:=by rw[X0];simp
   simp only[W7,Wf,c1,jA,jS,jy,List.drop_length];rfl)
  (by
   intro i a hi _ R c;have c1:decide ((i:Int)<((mkB l).size:Int))=true:=by rw[X0];simp;omega
   have c2:decide ((0:Int)<=(i:Int))=true:=by simp
   have w3:=wS i (by omega)
   simp only[W7,Wf,c1,c2,ju,jB,X2,kS,Xo _ _ _ hi,w3];have b:X12 (l.drop i)=match X12 (l.drop (i+1))with
     | some p=>some (l[i]::p.1,p.2)
     | none=>if l[i]=32 then some ([],l.drop (i+1))else none:=by
    rw[Zhs hi];rfl
   by_cases hc:l[i]=32
   ·have q:((l[i].toNat:Int)==32)=true:=by rw[hc];rfl
    simp only[q,jB,jS,jw];rw[c (i:Int) trivial,b];cases X12 (l.drop (i+1))with
    | none=>simp[hc]
    | some p=>simp;congr 1;omega
   ·have q:((l[i].toNat:Int)==32)=false:=by
     rw[beq_eq_false_iff_ne];intro e;exact hc (UInt8.toNat_inj.1 (by have:(32:UInt8).toNat=32:=rfl;omega))
    simp only[q,jA,jS,jw];rw[c a trivial,b];cases X12 (l.drop (i+1))with
    | none=>simp[hc]
    | some p=>simp;congr 1;omega)
 have:=key 0 (-1) (by omega) trivial
 simpa using this
def X2B (l:List UInt8):Int×ByteArray×Bool:=match X12 l with
 | none=>(0,mkB [],false)
 | some p=>if X31 p.2<0\/65521<=X31 p.2 then(0,mkB p.1,false)else(X31 p.2,mkB p.1,true)
theorem X3Z:∀{l:List UInt8} {p:List UInt8×List UInt8},X12 l=some p->l=p.1++32::p.2
 | [],p,h=>by cases h
 | c::l,p,h=>by
  unfold X12 at h;cases hq:X12 l with
  | some q =>
   rw[hq]at h;cases h;simp only[List.cons_append];rw[<-X3Z hq]
  | none =>
   rw[hq]at h;simp only at h;split at h
   ·rename_i e;cases h;rw[e];rfl
   ·cases h
theorem X62 (l:List UInt8) (b:l.length<1000000):X33 (mkB l)=some (X2B l):=by
 rw[X3O];unfold X1m;rw[X5V l b];unfold X2B;cases hq:X12 l with
 | none=>rfl
 | some p =>
  have e:=X3Z hq;have a:l.length=p.1.length+p.2.length+1:=by rw[e];simp;omega
  simp only;have c5:decide ((p.1.length:Int)<0)=false:=by simp
  have c6:decide ((0:Int)<=(p.1.length:Int))=true:=by simp
  have c7:decide ((p.1.length:Int)<=((mkB l).size:Int))=true:=by rw[X0,a];simp;omega
  have w4:IntKind.wrap .i64 ((p.1.length:Int)+1)=((p.1.length+1:Nat):Int):=by rw[w64]<;>omega
  have c8:decide ((0:Int)<=((p.1.length+1:Nat):Int))=true:=by simp;omega
  have c9:decide (((p.1.length+1:Nat):Int)<=((mkB l).size:Int))=true:=by rw[X0,a];simp;omega
  have x1:(mkB l).extract 0 p.1.length=mkB p.1:=by
   rw[X21,List.drop_zero,e,List.take_left' rfl]
  have x2:(mkB l).extract (p.1.length+1) (mkB l).size=mkB p.2:=by
   rw[X21,X0,List.take_length];congr 2;rw[e,show p.1++32::p.2=(p.1++[32])++p.2 by simp,List.drop_left' (by simp)]
  simp only[c5,jA,w4,c8,c9,ju,jB,kS,x2,X4X p.2 (by omega),jS,c6,c7,x1]
  by_cases h1:X31 p.2<0
  ·rw[if_pos (.inl h1)];simp[h1]
  ·by_cases h2:65521<=X31 p.2
   ·rw[if_pos (.inr h2)];simp[h1,h2]
   ·rw[if_neg (by omega)]
    have:decide (X31 p.2>=65521)=false:=by simp;omega
    simp[h1,this]
theorem X63 {l:List UInt8} {p:List UInt8×List UInt8} (h:X12 l=some p) {s:Int} (a:0<=s/\s<65521) :
  (p.2=dg (XB s p.1).toNat->X2B l=(XB s p.1,mkB p.1,true))/\(p.2≠dg (XB s p.1).toNat->(X2B l).2.2=false\/((X2B l).2.1=mkB p.1/\(X2B l).1≠XB s p.1)):=by
 have hr:=XI p.1 s a.1 a.2;have b:=X3L (w:=p.1) a;unfold X2B;rw[h];simp only;constructor
 ·intro e;have:X31 p.2=XB s p.1:=by rw[e,b.d]
  rw[if_neg (by rw[this];omega),this]
 ·intro e
  by_cases q:X31 p.2<0\/65521<=X31 p.2
  ·rw[if_pos q];exact .inl rfl
  ·rw[if_neg q];refine .inr ⟨rfl,fun e2=>e ?_⟩;simp only at e2;rw[<-e2];exact X6P (by omega)
noncomputable def X4F:(((Int×Int)⊕Unit⊕(Int×Int)⊕Unit))->Option (Int×Int):=fun o278↦Sum.elim (fun y279↦some (y279.snd,y279.fst)) (fun y280↦Sum.elim (fun y281↦some (0,4)) (fun y282↦Sum.elim (fun y283↦some (y283.snd,y283.fst)) (fun y284↦some (0,4)) y282) y280) o278
theorem X53 (rows:List (List UInt8)) (hr:rows.length<=10000) (k:∀w∈rows,w.length<=10000) (l:rows≠[]) :
  Option.bind (X1g (rows.map mkB) (0,0)) X4F=some (X3i 0 0 rows):=by
 unfold X1g;have key:=Xp (W6 (rows.map mkB)) X4F rows.length (fun i (s:Int)=>(s,(i:Int))) (fun _ s=>0<=s/\s<65521)
  (fun i s=>some (X3i s i (rows.drop i)))
  (by
   intro s _ R;have c1:decide ((rows.length:Int)<((rows.map mkB).length:Int))=false:=by simp
   simp only[W6,We,c1,jA,jS,jy,X4F,List.drop_length];rfl)
  (by
   intro i s hi a R n;have f:i<(rows.map mkB).length:=by simpa using hi
   have c1:decide ((i:Int)<((rows.map mkB).length:Int))=true:=by simp;omega
   have c2:decide ((0:Int)<=(i:Int))=true:=by simp
   have w3:=wS i (by omega)
   have w4:IntKind.wrap .i64 (((rows.map mkB).length:Int)-1)=(rows.length:Int)-1:=by rw[List.length_map,w64]<;>omega
   have h:=k _ (jl hi);simp only[W6,We,c1,c2,ju,jB,kS,Xo _ _ _ f,List.getElem_map,w3,w4];rw[Zhs hi];unfold X3i
   by_cases hlast:i+1=rows.length
   ·have q:((i:Int)==(rows.length:Int)-1)=true:=by rw[beq_iff_eq];omega
    have b:rows.drop (i+1)=[]:=jd (by omega)
    rw[b,if_pos rfl];have e0:(⟨#[]⟩:ByteArray)=mkB []:=rfl;simp only[q,jB,e0,X55]
    by_cases hz:rows[i]=[]
    ·rw[if_pos hz];simp[hz,X4F]
    ·rw[if_neg hz];simp[hz,X4F]
   ·have q:((i:Int)==(rows.length:Int)-1)=false:=by rw[beq_eq_false_iff_ne];omega
    have g:rows.drop (i+1)≠[]:=by
     intro m;have:=congrArg List.length m;simp at this;omega
    rw[if_neg g];simp only[q,jA,X62 rows[i] (by omega),jS]
    cases hq:X12 rows[i]with
    | none =>
     have:X2B rows[i]=(0,mkB [],false):=by unfold X2B;rw[hq]
     rw[this];simp[X4F]
    | some p =>
     obtain⟨j1,j2⟩:=X63 hq a;have c:p.1.length<1000000:=by
      have:=congrArg List.length (X3Z hq);simp at this;omega
     simp only
     by_cases d:p.2=dg (XB s p.1).toNat
     ·rw[j1 d,if_pos d];simp only[Bool.not_true,jA,X4T p.1 s c a.1 a.2,jS];have:(XB s p.1 != XB s p.1)=false:=by simp
      simp only[this,jA,jS,jw];exact n _ (XI p.1 s a.1 a.2)
     ·rw[if_neg d];rcases j2 d with j|⟨j,j3⟩
      ·simp only[j,Bool.not_false,jB,jS,jy,X4F];rfl
      ·by_cases e:(X2B rows[i]).2.2=true
       ·simp only[e,Bool.not_true,jA,j,X4T p.1 s c a.1 a.2,jS,X4x j3,jB,jy,X4F];rfl
       ·have e:(X2B rows[i]).2.2=false:=by simpa using e
        simp only[e,Bool.not_false,jB,jS,jy,X4F];rfl)
 have:=key 0 0 (by omega) (by decide)
 simpa using this
theorem X4S (l:List UInt8) (c:l.length<=2000):X24 (mkB l)=some (X3i 0 0 (Zhp 10 l)):=by
 rw[X2W];unfold Wz;have c0:decide (((mkB l).size:Int)>2000)=false:=by rw[X0];simp;omega
 rw[c0,jA,X5E l 10 10 rfl (by omega)]
 have b:=X48 10 l;exact X53 (Zhp 10 l) (by omega) (fun w a=>by have:=X2t 10 l w a;omega) (X54 10 l)
theorem X5M (l:List UInt8) (a:2000<l.length):X1Z (mkB l)=some (0,3)/\X24 (mkB l)=some (0,3):=by
 have c0:decide (((mkB l).size:Int)>2000)=true:=by rw[X0];simp;omega
 constructor
 ·rw[X2U];unfold Wp;rw[c0,jB]
 ·rw[X2W];unfold Wz;rw[c0,jB]
end Nore
set_option maxHeartbeats 1000000
open Go Go.Ab
namespace Nore
theorem X6O (a:ByteArray):(a==a)=true:=by rw[Z9E];exact beq_self_eq_true _
theorem X6J (r:CoRecord) (d:r.Devices.length<=100000) (b:r.Entries.length<=100000):X3J r r=some true:=by
 rw[X4n];unfold X1V;have c1:((r.Devices.length:Int) != (r.Devices.length:Int))=false:=by simp
 have c2:((r.Entries.length:Int) != (r.Entries.length:Int))=false:=by simp
 rw[c1,c2,jA,jA];unfold X2x X2y;have k1:∀k:Bool⊕Unit->Option Bool,Option.bind (Z9a (XH r r) 0) k=k (.inr ()):=fun k=>by
  have key:=Xp (XH r r) k r.Entries.length (fun i (_:Unit)=>(i:Int)) (fun _ _=>True) (fun _ _=>k (.inr ()))
   (by
    intro _ _ R;have c:decide ((r.Entries.length:Int)<(r.Entries.length:Int))=false:=by simp
    simp only[XH,WQ,c,jA,jS,jy])
   (by
    intro i _ hi _ R a;have c2:decide ((0:Int)<=(i:Int))=true:=by simp
    have c3:decide ((i:Int)<(r.Entries.length:Int))=true:=by simp;omega
    have w3:=wS i (by omega)
    simp only[XH,WQ,c2,c3,ju,jB,beq_self_eq_true,Bool.not_true,jA,w3,jS,jw];exact a () trivial)
  exact key 0 () (by omega) trivial
 have key:=Xp (WA r r) (fun o242=>Sum.elim (fun y243=>some y243) (fun y244=>Option.bind (Z9a (XH r r) 0) fun o245=>Sum.elim (fun y246=>some y246) (fun y247=>some true) o245) o242) r.Devices.length (fun i (_:Unit)=>(i:Int)) (fun _ _=>True) (fun _ _=>some true)
  (by
   intro _ _ R;have c:decide ((r.Devices.length:Int)<(r.Devices.length:Int))=false:=by simp
   simp only[WA,WP,c,jA,jS,jy];rw[k1];rfl)
  (by
   intro i _ hi _ R a;have c2:decide ((0:Int)<=(i:Int))=true:=by simp
   have c3:decide ((i:Int)<(r.Devices.length:Int))=true:=by simp;omega
   have w3:=wS i (by omega)
   simp only[WA,WP,c2,c3,ju,jB,X6O,beq_self_eq_true,Bool.not_true,jA,w3,jS,jw];exact a () trivial)
 exact key 0 () (by omega) trivial
def X64 (r:CoRecord):ByteArray×Int:=if(X11 r).2.2=0 then(mkB (X2d r),0)else(mkB [],(X11 r).2.2)
theorem X5B (r:CoRecord):X3k r=some (X64 r)/\X3s r=some (X64 r):=by
 rw[X3V,X45];unfold X1B X1E X64;rw[X2V,X2X];simp only[jS]
 by_cases h:(X11 r).2.2=0
 ·have a:((X11 r).2.2 != 0)=false:=by rw[h];rfl
  rw[if_pos h,a];simp only[jA,X38 (X3n h),X3f (X3n h),jS];exact⟨trivial,trivial⟩
 ·rw[if_neg h,X4x h];exact⟨rfl,rfl⟩
theorem X6h (l:List UInt8):∃p:CoRecord×Int,X1P (mkB l)=some p/\X1U (mkB l)=some p/\p.1.Devices.length<=100000/\p.1.Entries.length<=100000 ∧
  ((p.2≠0/\p.1=CoRecord.mk [] [])\/(p.2=0/\X56 p.1/\X2d p.1=l)):=by
 by_cases hl:2000<l.length
 ·obtain⟨b,a⟩:=X6i l hl;exact⟨_,b,a,by simp,by simp,.inl ⟨by simp,rfl⟩⟩
 ·by_cases h:∃r,X56 r/\X2d r=l
  ·obtain⟨r,hv,ht⟩:=h;obtain⟨b,a⟩:=X6F hv l ht (by omega)
   have hT:=X3n hv;have a1:=hT.few;have a2:=hT.many;exact⟨_,b,a,by simp only;omega,by simp only;omega,.inr ⟨rfl,hv,ht⟩⟩
  ·obtain⟨b,a⟩:=X6Q l (by omega) (fun r hv ht=>h ⟨r,hv,ht⟩)
   exact⟨_,b,a,by simp,by simp,.inl ⟨by simp,rfl⟩⟩
theorem X5L (l:List UInt8):∃p:Int×Int,X1Z (mkB l)=some p/\X24 (mkB l)=some p:=by
 by_cases hl:2000<l.length
 ·exact⟨_,X5M l hl⟩
 ·exact⟨_,X4J l (by omega),X4S l (by omega)⟩
theorem X51 (r:CoRecord) (x:ByteArray):X20 r x=some true:=by
 rw[X2Y];unfold Wc;rw[show x=mkB x.toList from(X4O x).symm];obtain⟨p,p1,p2,p3,p4,_⟩:=X6h x.toList;obtain⟨q,q1,q2⟩:=X5L x.toList;rw[(X5B r).1,(X5B r).2,p1,p2,q1,q2];simp only[jS,beq_self_eq_true,Bool.not_true,jA,bne_self_eq_false,X6J p.1 p3 p4,jB]
end Nore
