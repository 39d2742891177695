/- The plain functions of the program and of the document answer alike. -/
import Derived.Test.YtaaalkppbbpacaaGreatDoorD
import Derived.Test.YtaaalkppbbpacaaGreatDoorY
set_option linter.unusedSectionVars false
set_option linter.unusedVariables false
set_option linter.unusedSimpArgs false
open Go Go.Ab
namespace Nore
theorem w64 {x:Int} (a : -9223372036854775808<=x) (b:x<=9223372036854775807):IntKind.wrap .i64 x=x:=by
 simp only[IntKind.wrap,IntKind.signed,IntKind.bits];simp;omega
theorem jS {α β:Type} (a:α) (f:α->Option β):Option.bind (some a) f=f a:=rfl
theorem kS (n:Nat):Int.toNat (n:Int)=n:=rfl
theorem wS (i:Nat) (h:i<9223372036854775807):IntKind.wrap .i64 ((i:Int)+1)=((i+1:Nat):Int):=by rw[w64]<;>omega
theorem z0S (i:Nat):decide ((0:Int)<=↑i)=true:=by simp
theorem X2o {σ ω γ:Type} (st:σ->Option (σ⊕ω)) (k:ω->Option γ) (s:σ):Option.bind (Z9t st s) k=Option.bind (st s) (Sum.elim (fun s'=>Option.bind (Z9t st s') k) k):=by
 rw[Zio];cases st s with
 | none=>rfl
 | some r=>cases r<;>rfl
theorem X5 {β σ ω γ:Type} (st:σ->Option (σ⊕ω)) (k:ω->Option γ) (n:Nat) (emb:Nat->β->σ) (P:Nat->β->Prop) (nice:Nat->β->Option γ)
  (d:∀b,P n b->∀R:σ->Option γ,Option.bind (st (emb n b)) (Sum.elim R k)=nice n b)
  (e:∀i b,i<n->P i b->∀R:σ->Option γ,(∀b',P (i+1) b'->R (emb (i+1) b')=nice (i+1) b')->Option.bind (st (emb i b)) (Sum.elim R k)=nice i b) :
  ∀i b,i<=n->P i b->Option.bind (Z9t st (emb i b)) k=nice i b:=by
 intro i b hi c
 induction hj:n-i generalizing i b with
 | zero =>
  have:i=n:=by omega
  subst this;rw[X2o];exact d b c _
 | succ j ih =>
  rw[X2o];exact e i b (by omega) c _ fun b' a=>ih (i+1) b' (by omega) a (by omega)
theorem X1n {γ:Type} (o:Option γ):Option.bind o (fun x=>some x)=o:=by cases o<;>rfl
theorem X6d {β σ ω:Type} (st:σ->Option (σ⊕ω)) (n:Nat) (emb:Nat->β->σ) (P:Nat->β->Prop) (nice:Nat->β->Option ω)
  (c:∀b,P n b->∀R:σ->Option ω,Option.bind (st (emb n b)) (Sum.elim R some)=nice n b)
  (d:∀i b,i<n->P i b->∀R:σ->Option ω,(∀b',P (i+1) b'->R (emb (i+1) b')=nice (i+1) b')->Option.bind (st (emb i b)) (Sum.elim R some)=nice i b)
  (i:Nat) (b:β) (hi:i<=n) (a:P i b):Z9t st (emb i b)=nice i b:=by
 rw[<-X1n (Z9t st (emb i b))];exact X5 st some n emb P nice c d i b hi a
theorem X3v {a b:Int} (h:¬a=b):(a==b)=false:=beq_eq_false_iff_ne.2 h
theorem Wk {a b:Int} (h:¬a=b):(a != b)=true:=bne_iff_ne.2 h
theorem X0 {α:Type} (l:List α) (i:Nat) (d:α) (h:i<l.length):l.getD i d=l[i]:=by simp[List.getD,h]
def X4 (lo hi:Int) (l:List Int):Bool:=l.any fun n=>decide (n<lo)||decide (n>hi)
@[simp] theorem X77 (lo hi:Int):X4 lo hi []=false:=rfl
@[simp] theorem X4F (lo hi n:Int) (l:List Int):X4 lo hi (n::l)=(decide (n<lo)||decide (n>hi)||X4 lo hi l):=rfl
def inN (n lo hi:Int):Bool:=decide (lo<=n)&&decide (n<=hi)
theorem X1g (lo up:Int) (l:List Int) (g:l.length<1000000):X1K lo up l=some (X4 lo up l):=by
 have key:=X5 (X1L (↑l.length) l up lo) (fun o3=>Sum.elim (fun y4:Int=>some (decide (y4>=0))) (fun _=>some (decide ((-1:Int)>=0))) o3) l.length (fun i (_:Unit)=>(i:Int)) (fun _ _=>True) (fun i _=>some (X4 lo up (l.drop i)))
  (by
   intro b _ R;simp[X1L,X1Q])
  (by
   intro i b hi _ R d;have a:=d () trivial;simp only[X1L,X1Q];rw[jb hi];simp only[kS,X0 _ _ _ hi,X4F];have e:=wS i (by omega)
   rw[e];have c:decide ((i:Int)<↑l.length)=true:=by simp[hi]
   have f:=z0S i;simp only[c,f,ju,jB]
   by_cases h3:l[i]<lo
   ·simp[h3]
   ·by_cases h4:l[i]>up
    ·simp[h3,h4]
    ·simp[h3,h4];exact a)
 exact(key 0 () (by omega) trivial).trans (by simp)
theorem Wz (n lo hi:Int):X1a n lo hi=some (inN n lo hi):=by
 unfold X1a inN
 by_cases h:lo<=n<;>simp[h]
end Nore
open Go Go.Ab
namespace Nore
def X75:Int->List UInt8->Option Int
 | last,[]=>some last
 | last,c::l=>if 97<=(c.toNat:Int)/\(c.toNat:Int)<=122 then X75 c.toNat l else if(c.toNat:Int)≠45\/last=45 then none else X75 c.toNat l
def X5Q:Option Int->Bool
 | none=>false
 | some last=>last != 45
def X76 (s:ByteArray):Bool:=decide (s.size<=14)&&X5Q (X75 45 s.toList)
theorem XaB (s:ByteArray) (i:Nat) (h:(s.get! i).toNat<128):Utf8.decode s i=((s.get! i).toNat,1):=by
 unfold Utf8.decode;simp only[Nat.add_zero];rw[if_pos h]
theorem XaA (s:ByteArray) (i:Nat) (h:¬(s.get! i).toNat<128):128<=(Utf8.decode s i).1:=by
 unfold Utf8.decode;simp only[Nat.add_zero,Utf8.runeError];rw[if_neg h]
 repeat' split
 all_goals simp_all
 all_goals omega
theorem X2q (s:ByteArray):s.toList.length=s.size:=by rw[ByteArray.toList_eq];rfl
theorem X9Q (s:ByteArray) (i:Nat) (h:i<s.toList.length):s.get! i=s.toList[i]:=by
 have b:i<s.size:=by rw[<-X2q];exact h
 simp only[ByteArray.toList_eq];show s.data[i]! =_;have a:i<s.data.size:=b;rw[getElem!_pos s.data i a];rfl
theorem X5Z (s:ByteArray):X3K s=some (X76 s):=by
 have key:=X5 (X1k s s) (fun o0=>Sum.elim (fun y1:Bool×Nat=>some y1.fst) (fun y2:Int×Nat=>bif decide ((↑(ByteArray.size s):Int)<=14)then some (y2.fst != 45)else some false) o0) s.toList.length (fun i (b:Int)=>(b,i)) (fun _ _=>True) (fun i b=>some (decide (s.size<=14)&&X5Q (X75 b (s.toList.drop i))))
  (by
   intro b _ R;have hh:(decide ((↑s.size:Int)<=14))=decide (s.size<=14):=by rw[decide_eq_decide];omega
   have k:s.toList.drop s.size=[]:=jd (by rw[X2q];exact Nat.le_refl _)
   simp only[k,X75,X5Q,X1k,X1o,X2q,hh,Nat.lt_irrefl,decide_false,jA,jS,jw];cases decide (s.size<=14)<;>simp)
  (by
   intro i b hi _ R j;have g:i<s.size:=by rw[<-X2q];exact hi
   have f:=X9Q s i hi;simp only[X1k,X1o];rw[jb hi];simp only[X75]
   by_cases h:(s.get! i).toNat<128
   ·rw[XaB s i h];have e:=j ((s.get! i).toNat:Int) trivial;rw[f]at *;generalize s.toList[i]=c at *;simp only[g,decide_true,jB]
    by_cases h1:97<=(c.toNat:Int)
    ·have q1:decide ((c.toNat:Int)>=97)=true:=decide_eq_true h1
     by_cases h2:(c.toNat:Int)<=122
     ·have q2:decide ((c.toNat:Int)<=122)=true:=decide_eq_true h2;simp only[decide_true,decide_false,q1,q2,jB,jS,jz,h1,h2,and_self,if_true];exact e
     ·have q2:decide ((c.toNat:Int)<=122)=false:=decide_eq_false h2;have a:¬((c.toNat:Int)=45):=by omega
      have q3:((c.toNat:Int) != 45)=true:=bne_iff_ne.2 a;simp only[decide_true,decide_false,q1,q2,q3,jB,jA,jS,jz,jw,h2,and_false,if_false,ne_eq,a,not_false_iff,true_or,if_true,X5Q,Bool.and_false]
    ·have q1:decide ((c.toNat:Int)>=97)=false:=decide_eq_false h1
     by_cases a:(c.toNat:Int)=45
     ·have q3:((c.toNat:Int) != 45)=false:=by rw[a];rfl
      by_cases h4:b=45
      ·have q4:(b==45)=true:=by rw[h4];rfl
       rw[q1,q3,q4,if_neg (fun hc=>h1 hc.1),if_pos (Or.inr h4)];simp[X5Q]
      ·have q4:(b==45)=false:=beq_eq_false_iff_ne.2 h4;simp only[decide_true,decide_false,q1,q3,q4,jB,jA,jS,jz,jw,h1,false_and,if_false,h4,ne_eq,a,not_true,or_self,if_true];rw[a]at e;exact e
     ·have q3:((c.toNat:Int) != 45)=true:=bne_iff_ne.2 a;simp only[decide_true,decide_false,q1,q3,jB,jA,jS,jz,jw,h1,false_and,if_false,ne_eq,a,not_false_iff,true_or,if_true,X5Q,Bool.and_false]
   ·have h':=XaA s i h;rw[f]at h;generalize s.toList[i]=c at *;simp only[g,decide_true,jB];generalize (Utf8.decode s i)=d at *;have e1:((d.1:Nat):Int)>=97:=by omega
    have e2:¬((d.1:Nat):Int)<=122:=by omega
    have e3:¬((d.1:Nat):Int)=45:=by omega
    have e4:¬((c.toNat:Int)<=122):=by omega
    have e5:¬((c.toNat:Int)=45):=by omega
    have q1:decide (((d.1:Nat):Int)>=97)=true:=decide_eq_true e1;have q2:decide (((d.1:Nat):Int)<=122)=false:=decide_eq_false e2;have q3:(((d.1:Nat):Int) != 45)=true:=bne_iff_ne.2 e3;simp only[decide_true,decide_false,q1,q2,q3,jB,jA,jS,jz,jw,e4,and_false,if_false,ne_eq,e5,not_false_iff,true_or,if_true,X5Q,Bool.and_false])
 exact(key 0 45 (by omega) trivial).trans (by simp[X76])
theorem X95 (s:ByteArray):X5D s=some (X76 s):=by
 unfold X5D;rw[Wz];simp only[jS]
 by_cases hsz:1<=s.size/\s.size<=14
 ·have e1:inN (↑s.size) 1 14=true:=by simp[inN];omega
  rw[e1];simp only[Bool.not_true,jA];have o:=X2q s;have key:=X5 (X1m s) (fun o0=>Sum.elim (fun y76:Bool=>some y76) (fun _:Unit=>some true) o0) s.toList.length (fun i (_:Int)=>(i:Int)) (fun i b=>b=if i=0 then 45 else((s.toList.getD (i-1) 0).toNat:Int)) (fun i b=>some (if i<s.toList.length then X5Q (X75 b (s.toList.drop i))else true))
   (by
    intro b _ R;simp[X1m,X1w,X2q])
   (by
    intro i b hi e R m;have k:i<s.size:=by rw[<-X2q];exact hi
    simp only[X1m,X1w];rw[jb hi];have a:=m ((s.toList[i]).toNat:Int) (by simp[List.getD,hi])
    have n:=wS i (by omega)
    have d:IntKind.wrap .i64 ((i:Int)-1)=((i:Int)-1):=by rw[w64]<;>omega
    have j:IntKind.wrap .i64 ((s.size:Int)-1)=((s.size:Int)-1):=by rw[w64]<;>omega
    simp only[X75,kS,X0 _ _ _ hi,n,d,j];have d1:decide ((i:Int)<↑s.size)=true:=by simp[k]
    have d2:=z0S i;simp only[d1,d2,ju,jB,hi,if_true];generalize hc:s.toList[i]=c at *
    by_cases h1:97<=(c.toNat:Int)/\(c.toNat:Int)<=122
    ·have q1:decide ((c.toNat:Int)>=97)=true:=decide_eq_true h1.1;have q2:decide ((c.toNat:Int)<=122)=true:=decide_eq_true h1.2;simp only[decide_true,decide_false,q1,q2,jB,jS,jz,h1,and_self,if_true];have f:¬((c.toNat:Int)=45):=by omega
     rw[a]
     by_cases hi2:i+1<s.toList.length
     ·simp[hi2]
     ·have:s.toList.drop (i+1)=[]:=jd (by omega)
      simp[hi2,this,X75,X5Q,f]
    ·have g:(bif decide ((c.toNat:Int)>=97)then bif decide ((c.toNat:Int)<=122)then true else false else false)=false:=by
      by_cases a1:(c.toNat:Int)>=97
      ·by_cases a2:(c.toNat:Int)<=122
       ·exact absurd ⟨a1,a2⟩ h1
       ·simp[a1,a2]
      ·simp[a1]
     have g2:∀(Z:Type) (x y:Z),(bif decide ((c.toNat:Int)>=97)then bif decide ((c.toNat:Int)<=122)then x else y else y)=y:=by
      intro Z x y
      by_cases a1:(c.toNat:Int)>=97
      ·by_cases a2:(c.toNat:Int)<=122
       ·exact absurd ⟨a1,a2⟩ h1
       ·simp[a1,a2]
      ·simp[a1]
     rw[g2,if_neg h1]
     by_cases h2:(c.toNat:Int)=45
     ·simp only[h2,jk,jA]
      by_cases h3:i=0
      ·subst h3;simp[e,X5Q]
      ·by_cases h4:i+1=s.size
       ·have:s.toList.drop (i+1)=[]:=jd (by omega)
        have e5:(i:Int)=(s.size:Int)-1:=by omega
        have e6:((s.size:Int)-1==0)=false:=by simp;omega
        simp only[e5,e6,this,X75]
        by_cases h5:b=45<;>simp[h5,X5Q]
       ·have e5:((i:Int)==(s.size:Int)-1)=false:=by simp;omega
        have e6:((i:Int)==0)=false:=by simp;omega
        have e7:(0:Int)<=(i:Int)-1:=by omega
        have e8:(i:Int)-1<(s.size:Int):=by omega
        have e9:((i:Int)-1).toNat=i-1:=by omega
        simp only[e5,e6,e7,e8,e9,jA,decide_true,ju,jB];simp only[h3,if_false]at e;rw[<-e]
        by_cases h5:b=45
        ·simp[h5,X5Q]
        ·have q5:(b==45)=false:=beq_eq_false_iff_ne.2 h5;rw[h2]at a;rw[q5];simp only[jA,jS,jz,ne_eq,not_true,false_or,h5,if_false];rw[a];simp[show i+1<s.toList.length by omega]
     ·have:((c.toNat:Int) != 45)=true:=by simp[h2]
      simp[this,h2,X5Q])
  have:=key 0 45 (by omega) (by simp)
  refine this.trans ?_;simp[X76,show 0<s.toList.length by omega,hsz.2]
 ·have e1:inN (↑s.size) 1 14=false:=by
   simp[inN];omega
  rw[e1];simp only[Bool.not_false,jB,X76]
  by_cases h:s.size<=14
  ·have l:s.toList=[]:=by
    apply List.eq_nil_of_length_eq_zero;rw[X2q];omega
   simp[l,X75,X5Q]
  ·simp[h]
end Nore
open Go Go.Ab
namespace Nore
def X3g (m:Int) (p:Point):Bool:=X4 (-m) m [p.X,p.Y]
def X5R:Int->List Zr->Int
 | _,[]=>0
 | last,p::l=>if X4 0 40000 [p.Day]||X4 0 4 [p.Hz4]then 7 else if p.Day<=last then 2 else X5R p.Day l
def X4m (l:List Zr):Int:=if X4 1 4 [(l.length:Int)]then 3 else X5R (-1) l
def X6M (b:ZF) (m w:Int):Int:=if X4 (-m) m [b.X.Lo,b.X.Hi,b.Y.Lo,b.Y.Hi]then 7 else if X4 0 w [b.X.Hi-b.X.Lo,b.Y.Hi-b.Y.Lo]then 2 else 0
theorem X1E (n lo hi:Int):inN n lo hi = !X4 lo hi [n]:=by
 simp only[inN,X4F,X77,Bool.or_false,Bool.not_or];congr 1<;>rw[<-decide_not,decide_eq_decide]<;>omega
theorem X5d (m:Int) (j:0<=m/\m<=1000000) (l:List Point) (h:l.length<1000000):X4w m l=some (l.any (X3g m)):=by
 have a:IntKind.wrap .i64 (0-m) = -m:=by rw[w64]<;>omega
 have key:=X5 (X1J (↑l.length) l m) (fun o7=>Sum.elim (fun y8:Int×Point×(List Int)=>some (decide (y8.fst>=0))) (fun _=>some (decide ((-1:Int)>=0))) o7) l.length (fun i (_:Unit)=>(i:Int)) (fun _ _=>True) (fun i _=>some ((l.drop i).any (X3g m)))
  (by
   intro b _ R;simp[X1J,X1P])
  (by
   intro i b hi _ R e;have c:=e () trivial;simp only[X1J,X1P];rw[jb hi];have f:=wS i (by omega)
   simp only[kS,X0 _ _ _ hi,List.any_cons,a,f];rw[X1g _ _ _ (by simp)]
   have d:decide ((i:Int)<↑l.length)=true:=by simp[hi]
   have g:=z0S i;simp only[d,g,ju,jB,jS];change Option.bind (bif X3g m l[i]then _ else _) _=_;cases h3:X3g m l[i]
   ·simp;exact c
   ·simp)
 exact(key 0 () (by omega) trivial).trans (by simp)
theorem X4W (p:Point) (m:Int) (b:0<=m/\m<=1000000):X2B p m=some (!X3g m p):=by
 have a:IntKind.wrap .i64 (0-m) = -m:=by rw[w64]<;>omega
 unfold X2B;rw[Wz,Wz,a,X1E,X1E];simp only[jS,X3g,X4F,X77,Bool.or_false];cases(decide (p.X < -m)||decide (p.X>m))<;>simp
theorem X8w (l:List Zr):X41 l=some (X4m l):=by
 unfold X41 X4m;rw[X1g _ _ _ (by simp)]
 simp only[jS];cases hb:X4 1 4 [(l.length:Int)]
 ·simp only[jA,jg,if_false];have g:1<=l.length/\l.length<=4:=by simp at hb;omega
  exact X5 (Wb (↑l.length) l [↑l.length]) _ l.length (fun i (b:Int)=>(b,(i:Int))) (fun _ _=>True) (fun i b=>some (X5R b (l.drop i)))
   (by
    intro b _ R;simp[Wb,Wt,X5R])
   (by
    intro i b hi _ R f;have a:=f (l[i].Day) trivial;simp only[Wb,Wt];rw[jb hi];have d:=wS i (by omega)
    simp only[kS,X0 _ _ _ hi,X5R,d];rw[X1g _ _ _ (by simp),X1g _ _ _ (by simp)]
    have c:decide ((i:Int)<↑l.length)=true:=by simp[hi]
    have e:=z0S i;simp only[c,e,ju,jB,jS];cases h3:X4 0 40000 [l[i].Day]
    ·cases h4:X4 0 4 [l[i].Hz4]
     ·by_cases h5:l[i].Day<=b
      ·simp[h5]
      ·simp[h5];exact a
     ·simp
    ·simp) 0 (-1) (by omega) trivial
 ·simp
theorem X8y (l:List Zr):X3j l=some (X4m l):=by
 unfold X3j X4m;rw[Wz,X1E];simp only[jS];cases hb:X4 1 4 [(l.length:Int)]
 ·simp only[Bool.not_false,Bool.not_true,jA,jg,if_false];have k:1<=l.length/\l.length<=4:=by simp at hb;omega
  exact X5 (Wh l) _ l.length (fun i (_:Int)=>(i:Int)) (fun i b=>b=if i=0 then -1 else(l.getD (i-1) ⟨0,0⟩).Day) (fun i b=>some (X5R b (l.drop i)))
   (by
    intro b _ R;simp[Wh,WA,X5R])
   (by
    intro i b hi d R g;have a:=g (l[i].Day) (by simp[List.getD,hi])
    simp only[Wh,WA];rw[jb hi];have h:=wS i (by omega)
    have e:IntKind.wrap .i64 ((i:Int)-1)=((i:Int)-1):=by rw[w64]<;>omega
    simp only[kS,X0 _ _ _ hi,X5R,h,e];rw[Wz,Wz,X1E,X1E];have f:decide ((i:Int)<↑l.length)=true:=by simp[hi]
    have j:=z0S i;simp only[f,j,ju,jB,jS];cases h3:X4 0 40000 [l[i].Day]
    ·cases h4:X4 0 4 [l[i].Hz4]
     ·by_cases h0:i=0
      ·subst h0;simp at d h3;have c:¬l[0].Day<=b:=by omega
       simp[c];simpa using a
      ·have e7:(0:Int)<=(i:Int)-1:=by omega
       have e8:(i:Int)-1<(l.length:Int):=by omega
       have e9:((i:Int)-1).toNat=i-1:=by omega
       have e10:(i:Int)>0:=by omega
       simp only[e7,e8,e9,e10,decide_true,ju,jB];simp only[h0,if_false]at d;rw[<-d]
       by_cases c:l[i].Day<=b
       ·simp[c]
       ·simp[c];exact a
     ·simp
    ·simp) 0 (-1) (by omega) (by simp)
 ·simp
theorem X7M (b:ZF) (m:Int) (e:0<=m/\m<=1000000):X5g b m=some (X6M b m 40):=by
 have a:IntKind.wrap .i64 (0-m) = -m:=by rw[w64]<;>omega
 unfold X5g X6M;rw[X1g _ _ _ (by simp),a]
 simp only[jS];cases hb:X4 (-m) m [b.X.Lo,b.X.Hi,b.Y.Lo,b.Y.Hi]
 ·simp at hb;have c:IntKind.wrap .i64 (b.X.Hi-b.X.Lo)=b.X.Hi-b.X.Lo:=by rw[w64]<;>omega
  have d:IntKind.wrap .i64 (b.Y.Hi-b.Y.Lo)=b.Y.Hi-b.Y.Lo:=by rw[w64]<;>omega
  rw[c,d,X1g _ _ _ (by simp)]
  simp only[jS,jA,jg,if_false];cases X4 0 40 [b.X.Hi-b.X.Lo,b.Y.Hi-b.Y.Lo]<;>simp
 ·simp
def X3k (lo hi:Int):Int->List ZN->Int
 | e,[]=>e
 | e,s::l=>if X4 lo hi [s.Lo,s.Hi]then 7 else X3k lo hi (if s.Lo>s.Hi then 2 else e) l
theorem X3I (l:List ZN) (lo hi:Int) (h:l.length<1000000):X2A l lo hi=some (X3k lo hi 0 l):=by
 unfold X2A;exact X5 (Wf lo l hi) _ l.length (fun i (b:Int)=>(b,(i:Int))) (fun _ _=>True) (fun i b=>some (X3k lo hi b (l.drop i)))
   (by
    intro b _ R;simp[Wf,Wx,X3k])
   (by
    intro i b c _ R d;simp only[Wf,Wx];rw[jb c];have f:=wS i (by omega)
    simp only[kS,X0 _ _ _ c,X3k,f];rw[Wz,Wz,X1E,X1E];have e:decide ((i:Int)<↑l.length)=true:=by simp[c]
    have g:=z0S i;simp only[e,g,ju,jB,jS];have a:X4 lo hi [l[i].Lo,l[i].Hi]=(X4 lo hi [l[i].Lo]||X4 lo hi [l[i].Hi]):=by simp
    rw[a];cases h3:X4 lo hi [l[i].Lo]
    ·cases h4:X4 lo hi [l[i].Hi]
     ·by_cases h5:l[i].Lo>l[i].Hi
      ·have:=d 2 trivial;simp only[h5];simp;simpa using this
      ·have:=d b trivial;simp only[h5];simp;simpa using this
     ·simp
    ·simp) 0 0 (by omega) trivial
theorem Xa4 (b:ZF) (m w:Int) (a:0<=w):(let e:=X3k (-m) m 0 [b.X,b.Y];if e=0 then(if b.X.Hi-b.X.Lo>w then 2 else if b.Y.Hi-b.Y.Lo>w then 2 else 0)else e)=X6M b m w:=by
 simp only[X3k,X6M,X4F,X77,Bool.or_false];generalize b.X.Lo=x,b.X.Hi=X,b.Y.Lo=y,b.Y.Hi=Y
 by_cases a1:x < -m\/x>m\/X < -m\/X>m
 ·have e1:(decide (x < -m)||decide (x>m)||(decide (X < -m)||decide (X>m)))=true:=by simp;omega
  have e2:(decide (x < -m)||decide (x>m)||(decide (X < -m)||decide (X>m)||(decide (y < -m)||decide (y>m)||(decide (Y < -m)||decide (Y>m)))))=true:=by simp;omega
  rw[e1,e2];simp
 ·have e1:(decide (x < -m)||decide (x>m)||(decide (X < -m)||decide (X>m)))=false:=by simp;omega
  rw[e1]
  by_cases a2:y < -m\/y>m\/Y < -m\/Y>m
  ·have e2:(decide (y < -m)||decide (y>m)||(decide (Y < -m)||decide (Y>m)))=true:=by simp;omega
   have e3:(decide (x < -m)||decide (x>m)||(decide (X < -m)||decide (X>m)||(decide (y < -m)||decide (y>m)||(decide (Y < -m)||decide (Y>m)))))=true:=by simp;omega
   rw[e3,e2];simp
  ·have e2:(decide (y < -m)||decide (y>m)||(decide (Y < -m)||decide (Y>m)))=false:=by simp;omega
   have e3:(decide (x < -m)||decide (x>m)||(decide (X < -m)||decide (X>m)||(decide (y < -m)||decide (y>m)||(decide (Y < -m)||decide (Y>m)))))=false:=by simp;omega
   rw[e3,e2];simp only[jg,if_false]
   by_cases b1:Y<y
   ·have e4:(decide (X-x<0)||decide (X-x>w)||(decide (Y-y<0)||decide (Y-y>w)))=true:=by simp;omega
    rw[e4];simp[b1]
   ·by_cases b2:X<x
    ·have e4:(decide (X-x<0)||decide (X-x>w)||(decide (Y-y<0)||decide (Y-y>w)))=true:=by simp;omega
     rw[e4];simp[b1,b2]
    ·simp only[gt_iff_lt,b1,b2,if_false]
     by_cases b3:X-x>w
     ·have e4:(decide (X-x<0)||decide (w<X-x)||(decide (Y-y<0)||decide (w<Y-y)))=true:=by simp;omega
      rw[e4];simp;omega
     ·by_cases b4:Y-y>w
      ·have e4:(decide (X-x<0)||decide (w<X-x)||(decide (Y-y<0)||decide (w<Y-y)))=true:=by simp;omega
       rw[e4];simp;omega
      ·have e4:(decide (X-x<0)||decide (w<X-x)||(decide (Y-y<0)||decide (w<Y-y)))=false:=by simp;omega
       rw[e4];simp;omega
theorem XaK (lo hi:Int) (b:ZF) (h:X3k lo hi 0 [b.X,b.Y]=0):lo<=b.X.Lo/\b.X.Hi<=hi/\b.X.Lo<=b.X.Hi/\lo<=b.Y.Lo/\b.Y.Hi<=hi/\b.Y.Lo<=b.Y.Hi:=by
 simp only[X3k,X4F,X77,Bool.or_false]at h;split at h
 ·simp at h
 ·split at h
  ·simp at h
  ·rename_i a c;simp at a c;split at h
   ·simp at h
   ·split at h
    ·simp at h
    ·omega
theorem X83 (b:ZF) (m:Int) (d:0<=m/\m<=1000000):X5h b (-m) m=some (X6M b m 40):=by
 unfold X5h;rw[X3I _ _ _ (by simp)]
 rw[<-Xa4 b m 40 (by omega)]
 simp only[jS]
 by_cases h:X3k (-m) m 0 [b.X,b.Y]=0
 ·have e:=XaK _ _ _ h;have a:IntKind.wrap .i64 (b.X.Hi-b.X.Lo)=b.X.Hi-b.X.Lo:=by rw[w64]<;>omega
  have c:IntKind.wrap .i64 (b.Y.Hi-b.Y.Lo)=b.Y.Hi-b.Y.Lo:=by rw[w64]<;>omega
  rw[a,c,h]
  by_cases h3:b.X.Hi-b.X.Lo>40
  ·simp[h3]
  ·by_cases h4:b.Y.Hi-b.Y.Lo>40<;>simp[h3,h4]
 ·have h':(X3k (-m) m 0 [b.X,b.Y]==0)=false:=beq_eq_false_iff_ne.2 h;rw[h',if_neg h];rfl
end Nore
open Go Go.Ab
namespace Nore
theorem X1I {a b:Int} (A B:Int) (c : -A<=a) (d:a<=A) (e : -B<=b) (f:b<=B) : -(A*B)<=a*b/\a*b<=A*B:=by
 have p1:=Int.mul_nonneg (show 0<=A-a by omega) (show 0<=B+b by omega)
 have p2:=Int.mul_nonneg (show 0<=A+a by omega) (show 0<=B-b by omega)
 have p3:=Int.mul_nonneg (show 0<=A-a by omega) (show 0<=B-b by omega)
 have p4:=Int.mul_nonneg (show 0<=A+a by omega) (show 0<=B+b by omega)
 constructor<;>grind
def X1C (p:Nat->Bool):Nat->Nat->Bool
 | _,0=>true
 | i,k+1=>p i&&X1C p (i+1) k
theorem X6K (p:Nat->Bool) (k i:Nat):X1C p i k=true↔∀j,i<=j->j<i+k->p j=true:=by
 induction k generalizing i with
 | zero=>simp[X1C];intro j a b;omega
 | succ k ih =>
  simp only[X1C,jn,ih];constructor
  ·rintro⟨a,b⟩ j c d
   by_cases h:j=i
   ·subst h;exact a
   ·exact b j (by omega) (by omega)
  ·intro h;exact⟨h i (by omega) (by omega),fun j a b=>h j (by omega) (by omega)⟩
def X1 (a b:Point):Point:=⟨a.X-b.X,a.Y-b.Y⟩
def Xj (a b:Point):Int:=a.X*b.Y-a.Y*b.X
def P0:Point:=⟨0,0⟩
def X9h (l:List Point) (i:Nat):Bool :=
 X1C (fun m=>m==i||m==(i+1) % l.length||decide (0<Xj (X1 (l.getD ((i+1) % l.length) P0) (l.getD i P0)) (X1 (l.getD m P0) (l.getD i P0)))) 0 l.length
def X7J (l:List Point):Bool:=X1C (X9h l) 0 l.length
def X7h (s:CtSand):Int :=
 if X4 3 8 [(s.Hz2.length:Int)]then 3 else if s.Hz2.any (X3g 10000)then 7 else if X6M s.Hzc 500 40=0 then(if X7J s.Hz2 then 0 else 9)else X6M s.Hzc 500 40
def Bd (A:Int) (p:Point):Prop := -A<=p.X/\p.X<=A /\ -A<=p.Y/\p.Y<=A
theorem X5M (A:Int) (p:Point):X3g A p=false↔Bd A p:=by
 simp[X3g,Bd];omega
theorem X3G {A:Int} {l:List Point} (h:l.any (X3g A)=false) (i:Nat) (hi:i<l.length):Bd A l[i]:=by
 rw[List.any_eq_false]at h;rw[<-X5M];simpa using h l[i] (jo hi)
theorem X2p {a b:Int} (A:Int) (e:A<=1000000) (c : -A<=a/\a<=A) (d : -A<=b/\b<=A):IntKind.wrap .i64 (a-b)=a-b:=by rw[w64]<;>omega
theorem X8c {a b c d:Int} (A:Int) (i:A=2000000) (e : -A<=a/\a<=A) (f : -A<=b/\b<=A) (g : -A<=c/\c<=A) (h : -A<=d/\d<=A):IntKind.wrap .i64 (IntKind.wrap .i64 (a*b)-IntKind.wrap .i64 (c*d))=a*b-c*d:=by
 subst i;have p:=X1I _ _ e.1 e.2 f.1 f.2;have q:=X1I _ _ g.1 g.2 h.1 h.2;rw[w64 (x:=a*b),w64 (x:=c*d),w64]<;>omega
theorem X98 (l:List Point) (h:3<=l.length/\l.length<=8) (d:l.any (X3g 10000)=false) (i:Nat) (hi:i<l.length) :
  X2C (i:Int) l (((i+1) % l.length:Nat):Int) 0=some (if X9h l i then .inr ()else .inl false):=by
 have c:(i+1) % l.length<l.length:=Nat.mod_lt _ (by omega)
 unfold X9h;generalize hkk:(i+1) % l.length=k at *;have key:=X6d (WS (i:Int) l (k:Int)) l.length (fun j (_:Unit)=>(j:Int)) (fun _ _=>True) (fun j _=>some (if X1C (fun m=>m==i||m==k||decide (0<Xj (X1 (l.getD k P0) (l.getD i P0)) (X1 (l.getD m P0) (l.getD i P0)))) j (l.length-j)then .inr ()else .inl false))
  (by
   intro b _ R;simp[WS,X1c,X1C])
  (by
   intro m b e _ R f;have a:=f () trivial;rw[show l.length-m=(l.length-(m+1))+1 by omega]
   simp only[X1C];simp only[WS,X1c];have g:=wS m (by omega)
   simp only[kS,X0 _ _ _ e,X0 _ _ _ hi,X0 _ _ _ c,g];have b1:=X3G d m e;have b2:=X3G d i hi;have b3:=X3G d k c;unfold Bd at b1 b2 b3;rw[X2p 10000 (by omega) ⟨b3.1,b3.2.1⟩ ⟨b2.1,b2.2.1⟩,X2p 10000 (by omega) b1.2.2 b2.2.2,X2p 10000 (by omega) b3.2.2 b2.2.2,X2p 10000 (by omega) ⟨b1.1,b1.2.1⟩ ⟨b2.1,b2.2.1⟩]
   rw[X8c 2000000 rfl (by omega) (by omega) (by omega) (by omega)]
   have d1:decide ((m:Int)<↑l.length)=true:=by simp[e]
   have d2:=z0S m;have d3:decide ((i:Int)<↑l.length)=true:=by simp[hi]
   have d4:=z0S i;have d5:decide ((k:Int)<↑l.length)=true:=by simp[c]
   have d6:=z0S k;simp only[d1,d2,d3,d4,d5,d6,ju,jB];change Option.bind (bif((m:Int) != ↑i)then bif((m:Int) != ↑k)then bif decide (Xj (X1 l[k] l[i]) (X1 l[m] l[i])<=0)then _ else _ else _ else _) _=_
   by_cases e1:m=i
   ·have:((m:Int) != (i:Int))=false:=by simp[e1]
    rw[this];simp[e1];simpa[e1,hi,c]using a
   ·have t1:((m:Int) != (i:Int))=true:=by simp;omega
    by_cases e2:m=k
    ·have:((m:Int) != (k:Int))=false:=by simp[e2]
     rw[t1,this];simp[e2];simpa[e2,hi,c]using a
    ·have t2:((m:Int) != (k:Int))=true:=by simp;omega
     rw[t1,t2]
     by_cases e3:Xj (X1 l[k] l[i]) (X1 l[m] l[i])<=0
     ·have t3:¬0<Xj (X1 l[k] l[i]) (X1 l[m] l[i]):=by omega
      simp[e1,e2,e3,t3]
     ·have t3:0<Xj (X1 l[k] l[i]) (X1 l[m] l[i]):=by omega
      simp[e1,e2,e3,t3];simpa[hi,c]using a)
 have:=key 0 () (by omega) trivial
 simpa[X2C]using this
theorem X8T (l:List Point) (c:3<=l.length/\l.length<=8) (f:l.any (X3g 10000)=false):X4N l=some (X7J l):=by
 unfold X4N X7J;have key:=X5 (WR l) (fun o103=>Sum.elim (fun y104:Bool=>some y104) (fun _:Unit=>some true) o103) l.length (fun i (_:Unit)=>(i:Int)) (fun _ _=>True) (fun i _=>some (X1C (X9h l) i (l.length-i)))
  (by
   intro b _ R;simp[WR,X1b,X1C])
  (by
   intro i b hi _ R d;have a:=d () trivial;rw[show l.length-i=(l.length-(i+1))+1 by omega]
   simp only[X1C];simp only[WR,X1b];have e:=wS i (by omega)
   have g:Int.tmod ((i+1:Nat):Int) (l.length:Int)=(((i+1) % l.length:Nat):Int):=rfl;have d1:decide ((i:Int)<↑l.length)=true:=by simp[hi]
   have d2:((l.length:Int)==0)=false:=by simp;intro h;simp[h]at c
   simp only[e,g,d1,d2,jB,jA];rw[X98 l c f i hi];simp only[jS];cases h:X9h l i
   ·simp
   ·simp;simpa using a)
 exact(key 0 () (by omega) trivial).trans (by simp)
theorem X96 (s:CtSand):X5F s=some (X7h s):=by
 unfold X5F X7h;rw[Wz,X1E];simp only[jS];cases hb:X4 3 8 [(s.Hz2.length:Int)]
 ·have d:3<=s.Hz2.length/\s.Hz2.length<=8:=by simp at hb;omega
  simp only[Bool.not_false,Bool.not_true,jA,jg,if_false];have key:=X6d (Wi s) s.Hz2.length (fun i (_:Unit)=>(i:Int)) (fun _ _=>True) (fun i _=>some (if(s.Hz2.drop i).any (X3g 10000)then .inl 7 else .inr ()))
   (by
    intro b _ R;simp[Wi,X1x])
   (by
    intro i b hi _ R f;have a:=f () trivial;simp only[Wi,X1x];rw[jb hi];have g:=wS i (by omega)
    simp only[kS,X0 _ _ _ hi,List.any_cons,g];rw[X4W _ _ (by omega)]
    have c:decide ((i:Int)<↑s.Hz2.length)=true:=by simp[hi]
    have e:=z0S i;simp only[c,e,ju,jB,jS]
    by_cases h3:X3g 10000 s.Hz2[i]=true
    ·simp[h3]
    ·simp[h3];simpa using a)
  have k0:=key 0 () (by omega) trivial
  simp only[List.drop_zero,Int.natCast_zero]at k0;unfold X4o;have k0':Z9t (Wi s) 0=some (if s.Hz2.any (X3g 10000)then .inl 7 else .inr ()):=k0;rw[k0'];simp only[jS];cases hf:s.Hz2.any (X3g 10000)
  ·simp only[jg,if_false,jw];rw[X83 _ _ (by omega),X8T _ d hf]
   simp only[jS]
   by_cases h:X6M s.Hzc 500 40=0
   ·rw[h];cases X7J s.Hz2<;>simp
   ·simp[h,X3v h]
  ·simp
 ·simp
end Nore
open Go Go.Ab
namespace Nore
theorem Xbn {α:Type} (P:α->Bool) (l:List α):l.countP P=0↔∀m,(h:m<l.length)->P l[m]=false:=by
 rw[List.countP_eq_zero];constructor
 ·intro h m b;simpa using h l[m] (jo b)
 ·intro h a c;obtain⟨m,b,rfl⟩:=List.getElem_of_mem c;simp[h m b]
theorem Xbk {α:Type} (P:α->Bool) (l:List α):∀i,(hi:i<l.length)->P l[i]=true->(l.countP P=1↔∀m,(h:m<l.length)->m≠i->P l[m]=false):=by
 induction l with
 | nil=>intro i hi;simp at hi
 | cons a t ih =>
  intro i hi d;cases i with
  | zero =>
   simp only[List.getElem_cons_zero]at d;rw[List.countP_cons_of_pos d];rw[show(t.countP P+1=1)↔t.countP P=0 by omega,Xbn]
   constructor
   ·intro h m b c;cases m with
    | zero=>exact absurd rfl c
    | succ m=>simpa using h m (by simpa using b)
   ·intro h m b;exact h (m+1) (by simpa using b) (by omega)
  | succ i =>
   simp only[List.getElem_cons_succ]at d;have e:i<t.length:=by simpa using hi
   have f:0<t.countP P:=by
    rw[List.countP_pos_iff];exact⟨t[i],jo e,d⟩
   have ih':=ih i e d;cases ha:P a
   ·rw[List.countP_cons_of_neg (by simp[ha]),ih']
    constructor
    ·intro h m b c;cases m with
     | zero=>simpa using ha
     | succ m=>simpa using h m (by simpa using b) (by omega)
    ·intro h m b c;exact h (m+1) (by simpa using b) (by omega)
   ·rw[List.countP_cons_of_pos ha];constructor
    ·intro h;omega
    ·intro h;have:=h 0 (by simp) (by omega)
     simp[ha]at this
theorem Xbl {α:Type} (P:α->Bool) (l:List α):∀i k,(hi:i<l.length)->(p:k<l.length)->i<k->P l[i]=true->P l[k]=true->(l.countP P=2↔∀m,(h:m<l.length)->m≠i->m≠k->P l[m]=false):=by
 induction l with
 | nil=>intro i k hi;simp at hi
 | cons a t ih =>
  intro i k hi p r j n;cases k with
  | zero=>omega
  | succ k =>
   simp only[List.getElem_cons_succ]at n;have g:k<t.length:=by simpa using p
   cases i with
   | zero =>
    simp only[List.getElem_cons_zero]at j;rw[List.countP_cons_of_pos j];rw[show(t.countP P+1=2)↔t.countP P=1 by omega,Xbk P t k g n]
    constructor
    ·intro h m f b c;cases m with
     | zero=>exact absurd rfl b
     | succ m=>simpa using h m (by simpa using f) (by omega)
    ·intro h m f b;exact h (m+1) (by simpa using f) (by omega) (by omega)
   | succ i =>
    simp only[List.getElem_cons_succ]at j;have d:i<t.length:=by simpa using hi
    have ih':=ih i k d g (by omega) j n
    cases ha:P a
    ·rw[List.countP_cons_of_neg (by simp[ha]),ih']
     constructor
     ·intro h m f b c;cases m with
      | zero=>simpa using ha
      | succ m=>simpa using h m (by simpa using f) (by omega) (by omega)
     ·intro h m f b c;exact h (m+1) (by simpa using f) (by omega) (by omega)
    ·have o:2<=t.countP P:=by
      have q:=Xbk P t i d j;have:0<t.countP P:=by
       rw[List.countP_pos_iff];exact⟨t[i],jo d,j⟩
      by_cases e:t.countP P=1
      ·have:=q.1 e k g (by omega)
       simp[n]at this
      ·omega
     rw[List.countP_cons_of_pos ha];constructor
     ·intro h;omega
     ·intro h;have:=h 0 (by simp) (by omega) (by omega)
      simp[ha]at this
def X5v (l:List Point) (a b:Point):Bool :=
 (l.countP fun p=>decide (Xj (X1 b a) (X1 p a)<=0))==2 && !((b.X-a.X==0)&&(b.Y-a.Y==0))
def X60 (l:List Point):Point->List Point->Bool
 | _,[]=>true
 | last,p::r=>X5v l last p&&X60 l p r
theorem XaC (a b:Point):Xj (X1 b a) (X1 b a)=0:=by simp[Xj,Int.mul_comm]
theorem XaD (a b:Point):Xj (X1 b a) (X1 a a)=0:=by simp[Xj,X1]
theorem X9l (l:List Point) (n:3<=l.length) (i k:Nat) (hi:i<l.length) (e:k<l.length) (j:i≠k) :
  X5v l l[i] l[k]=X1C (fun m=>m==i||m==k||decide (0<Xj (X1 (l.getD k P0) (l.getD i P0)) (X1 (l.getD m P0) (l.getD i P0)))) 0 l.length:=by
 rw[Bool.eq_iff_iff,X6K];have b:decide (Xj (X1 l[k] l[i]) (X1 l[i] l[i])<=0)=true:=by rw[XaD];rfl
 have d:decide (Xj (X1 l[k] l[i]) (X1 l[k] l[i])<=0)=true:=by rw[XaC];rfl
 have hc:(l.countP fun p=>decide (Xj (X1 l[k] l[i]) (X1 p l[i])<=0))=2↔∀m,(h:m<l.length)->m≠i->m≠k->decide (Xj (X1 l[k] l[i]) (X1 l[m] l[i])<=0)=false:=by
  by_cases hik:i<k
  ·exact Xbl (fun p=>decide (Xj (X1 l[k] l[i]) (X1 p l[i])<=0)) l i k hi e hik b d
  ·have:=Xbl (fun p=>decide (Xj (X1 l[k] l[i]) (X1 p l[i])<=0)) l k i e hi (by omega) d b
   rw[this];constructor
   ·intro h m a f g;exact h m a g f
   ·intro h m a f g;exact h m a g f
 simp only[X5v,jn,beq_iff_eq,hc];constructor
 ·rintro⟨h,_⟩ m _ a;have c:m<l.length:=by omega
  by_cases e1:m=i
  ·simp[e1]
  ·by_cases e2:m=k
   ·simp[e2]
   ·have:=h m c e1 e2;simp only[X0 _ _ _ c,X0 _ _ _ hi,X0 _ _ _ e];simp at this;simp[this]
 ·intro h;have h':∀m,(a:m<l.length)->m≠i->m≠k->0<Xj (X1 l[k] l[i]) (X1 l[m] l[i]):=fun m a e1 e2=>by
   have:=h m (by omega) (by omega)
   simp only[X0 _ _ _ a,X0 _ _ _ hi,X0 _ _ _ e]at this;simpa[e1,e2]using this
  refine⟨fun m a e1 e2=>?_,?_⟩
  ·have:=h' m a e1 e2;simp;omega
  ·have:∃m,m<l.length/\m≠i/\m≠k:=by
    by_cases a0:0≠i/\0≠k
    ·exact⟨0,by omega,a0⟩
    ·by_cases a1:1≠i/\1≠k
     ·exact⟨1,by omega,a1⟩
     ·exact⟨2,by omega,by omega,by omega⟩
   obtain⟨m,a,e1,e2⟩:=this;have:=h' m a e1 e2;rw[Bool.not_eq_true',Bool.eq_false_iff];intro hz;simp only[jn,beq_iff_eq]at hz;simp[Xj,X1,hz.1,hz.2]at this
theorem Xa3 (l:List Point):∀k i,i+k=l.length->1<=i->(hi:i-1<l.length)->(X60 l l[i-1] (l.drop i)=true↔∀j,(d:i<=j)->(f:j<l.length)->X5v l l[j-1] l[j]=true):=by
 intro k
 induction k with
 | zero =>
  intro i m d hi;rw[jd (by omega)]
  simp[X60];intro j d f;omega
 | succ k ih =>
  intro i m d hi;have c:i<l.length:=by omega
  rw[jb c];simp only[X60,jn];have:=ih (i+1) (by omega) (by omega) (by omega)
  simp only[Nat.add_sub_cancel]at this;rw[this];constructor
  ·rintro⟨g,h⟩ j a b
   by_cases e:j=i
   ·subst e;exact g
   ·exact h j (by omega) b
  ·intro h;exact⟨h i (by omega) c,fun j a b=>h j (by omega) b⟩
theorem X9K (l:List Point) (f:3<=l.length):X60 l (l.getD (l.length-1) P0) l=X7J l:=by
 rw[Bool.eq_iff_iff];have e:X60 l (l.getD (l.length-1) P0) l=(X5v l l[l.length-1] l[0]&&X60 l l[1-1] (l.drop 1)):=by
  conv=>lhs;rw[show l=l[0]::l.drop 1 by rw[<-jb (by omega)];rfl]
  rw[<-show l=l[0]::l.drop 1 by rw[<-jb (by omega)];rfl]
  rw[X0 _ _ _ (by omega)]
  conv=>lhs;arg 3;rw[show l=l[0]::l.drop 1 by rw[<-jb (by omega)];rfl]
  rfl
 rw[e];simp only[jn];rw[Xa3 l (l.length-1) 1 (by omega) (by omega) (by omega)]
 unfold X7J;rw[X6K];have a:∀i,(hi:i<l.length)->X9h l i=X5v l l[i] (l[(i+1) % l.length]'(Nat.mod_lt _ (by omega))):=fun i hi=>by
  have k:(i+1) % l.length<l.length:=Nat.mod_lt _ (by omega)
  have c:i≠(i+1) % l.length:=by
   by_cases h:i+1<l.length
   ·rw[Nat.mod_eq_of_lt h];omega
   ·have:i+1=l.length:=by omega
    rw[this,Nat.mod_self];omega
  rw[X9l l f i _ hi k c];rfl
 constructor
 ·rintro⟨d,h⟩ i _ hi;have b:i<l.length:=by omega
  rw[a i b]
  by_cases hh:i+1<l.length
  ·have:=h (i+1) (by omega) hh
   simp only[Nat.mod_eq_of_lt hh];simpa using this
  ·have e1:i=l.length-1:=by omega
   subst e1;simp only[show l.length-1+1=l.length by omega,Nat.mod_self]
   exact d
 ·intro h;constructor
  ·have:=h (l.length-1) (by omega) (by omega)
   rw[a _ (by omega)]at this
   simpa only[show l.length-1+1=l.length by omega,Nat.mod_self]using this
  ·intro j m g;have:=h (j-1) (by omega) (by omega)
   rw[a _ (by omega)]at this
   simpa only[show j-1+1=j by omega,Nat.mod_eq_of_lt g]using this
theorem X8v (l:List Point) (q:l.length<=8) (m:l.any (X3g 10000)=false) (x4:Zf) (x5:Bool) (x6:Int) (x7:Bool) (x8:Zf) (x9:Bool) (x10:Int) (x11:Zf) (s:Ze) (a b:Point) (d:Bd 10000 a) (j:Bd 10000 b) (o:s=⟨a,X1 b a⟩) :
  WE (↑l.length) l x4 x5 x6 x7 x8 x9 x10 x11 s (0,0)=some ((l.countP fun p=>decide (Xj (X1 b a) (X1 p a)<=0):Nat):Int):=by
 subst o;unfold Bd at d j;have key:=X6d (Xl (↑l.length) l x4 x5 x6 x7 x8 x9 x10 x11 ⟨a,X1 b a⟩) l.length (fun i (c:Nat)=>((c:Int),(i:Int))) (fun i c=>c<=i) (fun i c=>some (((c+(l.drop i).countP fun p=>decide (Xj (X1 b a) (X1 p a)<=0):Nat)):Int))
  (by
   intro b _ R;simp[Xl,Xx])
  (by
   intro i c hi hc R f;simp only[Xl,Xx];rw[jb hi];have k:=wS i (by omega)
   have e:=wS c (by omega)
   have bp:=X3G m i hi;unfold Bd at bp;simp only[kS,X0 _ _ _ hi,k,e,X1];rw[X2p 10000 (by omega) bp.2.2 d.2.2,X2p 10000 (by omega) ⟨bp.1,bp.2.1⟩ ⟨d.1,d.2.1⟩]
   rw[X8c 2000000 rfl (by omega) (by omega) (by omega) (by omega)]
   have g:decide ((i:Int)<↑l.length)=true:=by simp[hi]
   have n:=z0S i;simp only[g,n,ju,jB];change Option.bind (bif decide (Xj (X1 b a) (X1 l[i] a)<=0)then _ else _) _=_;change _=some (((c+List.countP (fun p=>decide (Xj (X1 b a) (X1 p a)<=0)) (l[i]::List.drop (i+1) l):Nat)):Int)
   by_cases h:Xj (X1 b a) (X1 l[i] a)<=0
   ·rw[List.countP_cons_of_pos (by simpa using h)]
    simp only[h,decide_true,jB,jS,jz];rw[f (c+1) (by omega)]
    congr 1;show((_:Nat):Int)=((_:Nat):Int);congr 1;show c+1+_=c+(_+1);simp only[X1];omega
   ·rw[List.countP_cons_of_neg (by simpa using h)]
    simp only[h,decide_false,jA,jS,jz];rw[f c (by omega)])
 have:=key 0 0 (by omega) (by omega)
 simpa[WE]using this
theorem X7n (s:Zf):X2e s=some (X7h s.CtSand):=by
 obtain⟨s⟩:=s;unfold X2e X7h;rw[X1g _ _ _ (by simp)]
 simp only[jS];cases hb:X4 3 8 [(s.Hz2.length:Int)]
 ·have n:3<=s.Hz2.length/\s.Hz2.length<=8:=by simp at hb;omega
  simp only[jA,jg,if_false];rw[X5d _ (by omega) _ (by omega)]
  simp only[jS];cases hf:s.Hz2.any (X3g 10000)
  ·simp only[jA,jg,if_false];rw[X7M _ _ (by omega)]
   simp only[jS]
   by_cases h:X6M s.Hzc 500 40=0
   ·have l:IntKind.wrap .i64 ((s.Hz2.length:Int)-1)=(s.Hz2.length:Int)-1:=by rw[w64]<;>omega
    have ht:((s.Hz2.length:Int)-1).toNat=s.Hz2.length-1:=by omega
    have j:decide ((0:Int)<=(s.Hz2.length:Int)-1)=true:=by simp;omega
    have m:decide ((s.Hz2.length:Int)-1<(s.Hz2.length:Int))=true:=by simp;omega
    simp only[h,l,ht,j,m,jk,jA,ju,jB,if_true];rw[<-X9K _ n.1];have e:Bd 10000 (s.Hz2.getD (s.Hz2.length-1) P0):=by
     rw[X0 _ _ _ (by omega)];exact X3G hf _ (by omega)
    refine(X5 (Xk (↑s.Hz2.length) s.Hz2 ⟨s⟩ false 0 false ⟨s⟩ false 0 ⟨s⟩ [(↑s.Hz2.length:Int)]) _ s.Hz2.length (fun i (b:Point)=>((i:Int),b)) (fun _ b=>Bd 10000 b) (fun i b=>some (if X60 s.Hz2 b (s.Hz2.drop i)then 0 else 9)) ?_ ?_ 0 _ (by omega) e).trans (by simp)
    ·intro b _ R;simp[Xk,Xw,X60]
    ·intro i b hi o R q;have bp:=X3G hf i hi;have g:=q s.Hz2[i] bp;simp only[Xk,Xw];rw[jb hi];have l:=wS i (by omega)
     simp only[kS,X0 _ _ _ hi,l,X60];have bp':=bp;have a:=o;unfold Bd at bp' a;rw[X2p 10000 (by omega) bp'.2.2 a.2.2,X2p 10000 (by omega) ⟨bp'.1,bp'.2.1⟩ ⟨a.1,a.2.1⟩]
     rw[X8v s.Hz2 n.2 hf _ _ _ _ _ _ _ _ ⟨⟨b.X,b.Y⟩,⟨s.Hz2[i].X-b.X,s.Hz2[i].Y-b.Y⟩⟩ b s.Hz2[i] o bp rfl];have j:decide ((i:Int)<↑s.Hz2.length)=true:=by simp[hi]
     have m:=z0S i;simp only[j,m,ju,jB,jS];have d:X5v s.Hz2 b s.Hz2[i]=((s.Hz2.countP fun p=>decide (Xj (X1 s.Hz2[i] b) (X1 p b)<=0))==2 && !((s.Hz2[i].X-b.X==0)&&(s.Hz2[i].Y-b.Y==0))):=rfl;generalize (s.Hz2.countP fun p=>decide (Xj (X1 s.Hz2[i] b) (X1 p b)<=0))=c at d⊢
     by_cases h3:c=2
     ·subst h3;cases h4:(s.Hz2[i].X-b.X==0)
      ·simp only[h4,Bool.false_and,Bool.not_false,Bool.and_true,beq_self_eq_true]at d;simp[d];simpa using g
      ·cases h5:(s.Hz2[i].Y-b.Y==0)
       ·simp only[h4,h5,Bool.and_false,Bool.not_false,Bool.and_true,beq_self_eq_true]at d;simp[d];simpa using g
       ·simp only[h4,h5,ju,Bool.not_true,Bool.and_false]at d;simp[d]
     ·have k:(((c:Nat):Int) != 2)=true:=by simp;omega
      have f:(c==2)=false:=by simp[h3]
      rw[f,Bool.false_and]at d;simp[k,d]
   ·rw[Wk h,if_neg h];rfl
  ·simp
 ·simp
end Nore
open Go Go.Ab
namespace Nore
theorem Z8z (a b:ByteArray):(a==b)=(a.data==b.data):=by cases a;cases b;rfl
instance:LawfulBEq ByteArray where
 rfl:=by intro a;rw[Z8z];simp
 eq_of_beq:=by
  intro a b h;rw[Z8z]at h;have:=eq_of_beq h;cases a;cases b;simp only at this;rw[this]
instance:DecidableEq ByteArray:=fun a b=>if h:(a==b)=true then isTrue (eq_of_beq h)else isFalse (fun e=>h (by rw[e];simp))
theorem X7I {v:Int} (s k:ByteArray):∀m:List (ByteArray×Int),Z99 (fun a b=>a==b) s (ZhH (fun a b=>a==b) k v m)=if s=k then some v else Z99 (fun a b=>a==b) s m
 | []=>by
  by_cases h:s=k
  ·simp[ZhH,Z99,h]
  ·have h':(s==k)=false:=beq_eq_false_iff_ne.2 h;simp[ZhH,Z99,h,h']
 | (k',v')::m=>by
  have ih:=X7I s k m (v:=v);simp only[ZhH]
  by_cases h1:k=k'
  ·subst h1;simp only[beq_self_eq_true,jB,Z99]
   by_cases h:s=k
   ·simp[h]
   ·have h':(s==k)=false:=beq_eq_false_iff_ne.2 h;simp[h,h']
  ·have:(k==k')=false:=by simp[h1]
   simp only[this,jA,Z99]
   by_cases h2:s=k'
   ·subst h2;have c:s≠k:=fun h=>h1 h.symm;simp[c]
   ·have:(s==k')=false:=by simp[h2]
    simp only[this,jA,ih]
def X1u (s:ByteArray) (names:List ByteArray):Int:=if X76 s then(if s∈names then 5 else 0)else 6
theorem X7L {a b:ByteArray} (h:a.toList=b.toList):a=b:=by
 cases a;cases b;simp only[ByteArray.toList_eq]at h;congr 1;exact Array.ext' h
theorem X5B (s:ByteArray) (names:List ByteArray) (j:names.length<1000000):X3c s names=some (X1u s names):=by
 unfold X3c X1u;rw[X95];simp only[jS];cases X76 s
 ·simp
 ·simp only[Bool.not_true,jA,if_true];unfold X5U;have key:=X5 (XW s names) (fun o78=>Option.bind (Sum.elim (fun y79:Int=>some y79) (fun _:Unit=>some (-1)) o78) fun r82=>bif decide (r82>=0)then some (5:Int)else some 0) names.length (fun i (_:Unit)=>(i:Int)) (fun _ _=>True) (fun i _=>some (if s∈names.drop i then 5 else 0))
   (by
    intro b _ R;simp[XW,X19])
   (by
    intro i b hi _ R e;have c:=e () trivial;simp only[XW,X19];rw[jb hi];have f:=wS i (by omega)
    simp only[kS,X0 _ _ _ hi,f];have d:decide ((i:Int)<↑names.length)=true:=by simp[hi]
    have g:=z0S i;simp only[d,g,ju,jB]
    by_cases h:names[i]=s
    ·simp[h]
    ·have h':(names[i].toList==s.toList)=false:=by
      simp only[beq_eq_false_iff_ne];intro hh;exact h (X7L hh)
     have a:¬s=names[i]:=fun hh=>h hh.symm;simp only[h',jA,jS,jz,jr,a,false_or];exact c)
  have:=key 0 () (by omega) trivial
  simp only[List.drop_zero]at this;rw[<-this];show Option.bind (Option.bind _ _) _=Option.bind _ _;unfold X3Q;simp only[Int.natCast_zero];cases Z9t (XW s names) 0<;>rfl
def X4l (m:ZC) (names:List ByteArray):Int:=if X1u m.Name names=0 then(if X3g 30000 m.At then 7 else X4m m.Hz3)else X1u m.Name names
def X5Y (s:CtSand) (names:List ByteArray):Int:=if X1u s.Name names=0 then X7h s else X1u s.Name names
def X4X:Nat->List ByteArray->List CtSand->Int×Int×Int
 | _,_,[]=>(0,0,0)
 | i,names,s::l=>if X5Y s names=0 then X4X (i+1) (names++[s.Name]) l else(2,(i:Int),X5Y s names)
def X4D (sands:List CtSand):Nat->List ByteArray->List ZC->Int×Int×Int
 | _,names,[]=>if 4<sands.length then(2,0,3)else X4X 0 names sands
 | i,names,m::l=>if X4l m names=0 then X4D sands (i+1) (names++[m.Name]) l else(1,(i:Int),X4l m names)
def X2g (c:Zo):Int×Int×Int:=if 8<c.Hz8.length then(1,0,3)else X4D c.Hzb 0 [] c.Hz8
def Z2E (m:List (ByteArray×Int)) (names:List ByteArray):Prop:=∀s,Option.getD (Z99 (fun a b=>a==b) s m) 0=if s∈names then 1 else 0
theorem X9B {m:List (ByteArray×Int)} {names:List ByteArray} (h:Z2E m names) (s:ByteArray) (c:s∉names):Z2E (ZhH (fun a b=>a==b) s (IntKind.wrap .i64 (Option.getD (Z99 (fun a b=>a==b) s m) 0+1)) m) (names++[s]):=by
 intro t;rw[X7I,h s,if_neg c]
 by_cases e:t=s
 ·simp[e];rfl
 ·simp[e];simpa using h t
theorem X8M {m:List (ByteArray×Int)} {names:List ByteArray} (h:Z2E m names) (s:ByteArray):decide (Option.getD (Z99 (fun a b=>a==b) s (ZhH (fun a b=>a==b) s (IntKind.wrap .i64 (Option.getD (Z99 (fun a b=>a==b) s m) 0+1)) m)) 0>1)=decide (s∈names):=by
 rw[X7I,h s];simp only[if_true,Option.getD_some]
 by_cases e:s∈names
 ·simp only[e,if_true];rfl
 ·simp only[e,if_false];rfl
theorem X9x (c:Zo) (l:c.Hzb.length<=4) (m:List (ByteArray×Int)) (names:List ByteArray) (h:Z2E m names) (k:_->Option (Int×Int×Int))
  (j:k=fun o56=>Sum.elim (fun(y57:Int×Int×Int×(List (ByteArray×Int))×CtSand)=>some (y57.snd.snd.fst,y57.fst,y57.snd.fst)) (fun y58=>Sum.elim (fun(y59:Int×Int×Int×(List (ByteArray×Int))×CtSand)=>some (y59.snd.snd.fst,y59.fst,y59.snd.fst)) (fun y60=>Sum.elim (fun(y61:Int×Int×Int×(List (ByteArray×Int))×CtSand)=>some (y61.snd.snd.fst,y61.fst,y61.snd.fst)) (fun(_:List (ByteArray×Int))=>some (0,0,0)) y60) y58) o56) :
  Option.bind (X2s (↑c.Hzb.length) c.Hzb c (0,m)) k=some (X4X 0 names c.Hzb):=by
 subst j;unfold X2s;exact X5 (WD (↑c.Hzb.length) c.Hzb c) _ c.Hzb.length (fun i (b:List (ByteArray×Int)×List ByteArray)=>((i:Int),b.1)) (fun _ b=>Z2E b.1 b.2) (fun i b=>some (X4X i b.2 (c.Hzb.drop i)))
  (by
   intro b _ R;simp[WD,WZ,X4X])
  (by
   intro i b hi a R e;simp only[WD,WZ];rw[jb hi];have f:=wS i (by omega)
   simp only[kS,X0 _ _ _ hi,f,X4X];rw[X5Z,X7n,X8M a];have d:decide ((i:Int)<↑c.Hzb.length)=true:=by simp[hi]
   have g:=z0S i;simp only[d,g,ju,jB,jS]
   by_cases hn:X76 c.Hzb[i].Name=true
   ·by_cases he:c.Hzb[i].Name∈b.2
    ·have hE:X5Y c.Hzb[i] b.2=5:=by simp[X5Y,X1u,hn,he]
     simp[hn,he,hE]
    ·have e0:(⟨c.Hzb[i].Name,c.Hzb[i].Hz2,c.Hzb[i].Hzc⟩:CtSand)=c.Hzb[i]:=rfl;have hE:X5Y c.Hzb[i] b.2=X7h c.Hzb[i]:=by simp[X5Y,X1u,hn,he]
     rw[e0];simp only[hn,he,Bool.not_true,decide_false,jA,hE]
     by_cases hs:X7h c.Hzb[i]=0
     ·simp only[hs,jk,jA,if_true,jS,jz];exact e (_,b.2++[c.Hzb[i].Name]) (X9B a _ he)
     ·simp[hs,Wk hs]
   ·have hE:X5Y c.Hzb[i] b.2=6:=by simp[X5Y,X1u,hn]
    simp[hn,hE]) 0 (m,names) (by omega) h
theorem X5k (c:Zo):X2Z c=some (X2g c):=by
 unfold X2Z X2g
 by_cases h8:8<c.Hz8.length
 ·have:decide ((c.Hz8.length:Int)>8)=true:=by simp;omega
  rw[this];simp[h8]
 ·have:decide ((c.Hz8.length:Int)>8)=false:=by simp;omega
  rw[this];simp only[jA,h8,if_false];exact X5 (WC (↑c.Hz8.length) c.Hz8 c) _ c.Hz8.length (fun i (b:List (ByteArray×Int)×List ByteArray)=>((i:Int),b.1)) (fun _ b=>Z2E b.1 b.2) (fun i b=>some (X4D c.Hzb i b.2 (c.Hz8.drop i)))
   (by
    intro b a R;simp only[WC,WY];have d:decide ((c.Hz8.length:Int)<↑c.Hz8.length)=false:=by simp
    simp only[d,jA,jS,jw,List.drop_length,X4D]
    by_cases h4:4<c.Hzb.length
    ·have:decide ((c.Hzb.length:Int)>4)=true:=by simp;omega
     rw[this];simp[h4]
    ·have:decide ((c.Hzb.length:Int)>4)=false:=by simp;omega
     rw[this];simp only[jA,h4,if_false];exact X9x c (by omega) _ _ a _ rfl)
   (by
    intro i b hi a R f;simp only[WC,WY];rw[jb hi];have g:=wS i (by omega)
    simp only[kS,X0 _ _ _ hi,g,X4D];rw[X5Z,X8w,X8M a,X5d _ (by omega) _ (by simp)]
    have d:decide ((i:Int)<↑c.Hz8.length)=true:=by simp[hi]
    have e:=z0S i;simp only[d,e,ju,jB,jS,List.any_cons,List.any_nil,Bool.or_false]
    by_cases hn:X76 c.Hz8[i].Name=true
    ·by_cases he:c.Hz8[i].Name∈b.2
     ·have hE:X4l c.Hz8[i] b.2=5:=by simp[X4l,X1u,hn,he]
      simp[hn,he,hE]
     ·by_cases hfar:X3g 30000 c.Hz8[i].At=true
      ·have hE:X4l c.Hz8[i] b.2=7:=by simp[X4l,X1u,hn,he,hfar]
       simp[hn,he,hfar,hE]
      ·have hE:X4l c.Hz8[i] b.2=X4m c.Hz8[i].Hz3:=by simp[X4l,X1u,hn,he,hfar]
       simp only[hn,he,hfar,Bool.not_true,decide_false,jA,hE]
       by_cases hs:X4m c.Hz8[i].Hz3=0
       ·simp only[hs,jk,jA,if_true,jS,jz];exact f (_,b.2++[c.Hz8[i].Name]) (X9B a _ he)
       ·simp[hs,Wk hs]
    ·have hE:X4l c.Hz8[i] b.2=6:=by simp[X4l,X1u,hn]
     simp[hn,hE]) 0 ([],[]) (by omega) (by intro s;simp[Z99])
theorem X9I (c:Zo) (l:c.Hzb.length<=4) (names:List ByteArray) (m:names.length<=8) (k:_->Option (Int×Int×Int))
  (h:k=fun o134=>Sum.elim (fun(y135:Int×Int×Int×(List ByteArray)×(List ByteArray))=>some (y135.snd.snd.fst,y135.fst,y135.snd.fst)) (fun y136=>Sum.elim (fun(y137:Int×Int×Int×(List ByteArray)×(List ByteArray))=>some (y137.snd.snd.fst,y137.fst,y137.snd.fst)) (fun(_:List ByteArray)=>some (0,0,0)) y136) o134) :
  Option.bind (X2z c (0,names)) k=some (X4X 0 names c.Hzb):=by
 subst h;unfold X2z;exact X5 (WQ c) _ c.Hzb.length (fun i (b:List ByteArray)=>((i:Int),b)) (fun i b=>b.length<=8+i) (fun i b=>some (X4X i b (c.Hzb.drop i)))
  (by
   intro b _ R;simp[WQ,X18,X4X])
  (by
   intro i b hi j R d;simp only[WQ,X18];rw[jb hi];have e:=wS i (by omega)
   simp only[kS,X0 _ _ _ hi,e,X4X];rw[X5B _ _ (by omega),X96]
   have a:decide ((i:Int)<↑c.Hzb.length)=true:=by simp[hi]
   have f:=z0S i;have g:Nat.ble ((b.length+[c.Hzb[i].Name].length)*(16+1)) 200000000000000=true:=by
    rw[Nat.ble_eq];simp;omega
   simp only[a,f,g,ju,jB,jS]
   by_cases hf:X1u c.Hzb[i].Name b=0
   ·have hE:X5Y c.Hzb[i] b=X7h c.Hzb[i]:=by simp[X5Y,hf]
    simp only[hf,hE,beq_self_eq_true,jB]
    by_cases hs:X7h c.Hzb[i]=0
    ·simp only[hs,jk,jA,if_true,jS,jz];exact d (b++[c.Hzb[i].Name]) (by simp;omega)
    ·simp[hs,Wk hs]
   ·have hE:X5Y c.Hzb[i] b=X1u c.Hzb[i].Name b:=by simp[X5Y,hf]
    simp[hE,hf,X3v hf,Wk hf]) 0 names (by omega) (by omega)
theorem X78 (c:Zo):X3Y c=some (X2g c):=by
 unfold X3Y X2g
 by_cases h8:8<c.Hz8.length
 ·have:decide ((c.Hz8.length:Int)>8)=true:=by simp;omega
  rw[this];simp[h8]
 ·have:decide ((c.Hz8.length:Int)>8)=false:=by simp;omega
  rw[this];simp only[jA,h8,if_false];exact X5 (WP c) _ c.Hz8.length (fun i (b:List ByteArray)=>((i:Int),b)) (fun i b=>b.length<=i) (fun i b=>some (X4D c.Hzb i b (c.Hz8.drop i)))
   (by
    intro b d R;simp only[WP,X17];have a:decide ((c.Hz8.length:Int)<↑c.Hz8.length)=false:=by simp
    simp only[a,jA,jS,jw,List.drop_length,X4D]
    by_cases h4:4<c.Hzb.length
    ·have:decide ((c.Hzb.length:Int)>4)=true:=by simp;omega
     rw[this];simp[h4]
    ·have:decide ((c.Hzb.length:Int)>4)=false:=by simp;omega
     rw[this];simp only[jA,h4,if_false];exact X9I c (by omega) _ (by omega) _ rfl)
   (by
    intro i b hi d R f;simp only[WP,X17];rw[jb hi];have h:=wS i (by omega)
    simp only[kS,X0 _ _ _ hi,h,X4D];rw[X5B _ _ (by omega),X8y,X4W _ _ (by omega)]
    have a:decide ((i:Int)<↑c.Hz8.length)=true:=by simp[hi]
    have e:=z0S i;have g:Nat.ble ((b.length+[c.Hz8[i].Name].length)*(16+1)) 200000000000000=true:=by
     rw[Nat.ble_eq];simp;omega
    simp only[a,e,g,ju,jB,jS]
    by_cases hf:X1u c.Hz8[i].Name b=0
    ·by_cases hfar:X3g 30000 c.Hz8[i].At=true
     ·have hE:X4l c.Hz8[i] b=7:=by simp[X4l,hf,hfar]
      simp[hf,hfar,hE]
     ·have hE:X4l c.Hz8[i] b=X4m c.Hz8[i].Hz3:=by simp[X4l,hf,hfar]
      simp only[hf,hfar,hE,Bool.not_false,Bool.not_true,jA,beq_self_eq_true,jB]
      by_cases hs:X4m c.Hz8[i].Hz3=0
      ·simp only[hs,jk,jA,if_true,jS,jz];exact f (b++[c.Hz8[i].Name]) (by simp;omega)
      ·simp[hs,Wk hs]
    ·have hE:X4l c.Hz8[i] b=X1u c.Hz8[i].Name b:=by simp[X4l,hf]
     simp[hE,hf,X3v hf,Wk hf]) 0 [] (by omega) (by simp)
end Nore
namespace Nore.Geo
def vxL:List Int:=[0,195,383,556,707,831,924,981,1000,981,924,831,707,556,383,195,0,-195,-383,-556,-707,-831,-924,-981,-1000,-981,-924,-831,-707,-556,-383,-195]
def vyL:List Int:=[1000,981,924,831,707,556,383,195,0,-195,-383,-556,-707,-831,-924,-981,-1000,-981,-924,-831,-707,-556,-383,-195,0,195,383,556,707,831,924,981]
def vx (p:Nat):Int:=vxL.getD p 0
def vy (p:Nat):Int:=vyL.getD p 0
def crs (p:Nat) (X Y:Int):Int:=vx p*Y-vy p*X
def cc (p q:Nat):Int:=vx p*vy q-vy p*vx q
theorem plucker (t u p:Nat) (X Y:Int):cc u t*crs p X Y=cc p t*crs u X Y+(- crs t X Y)*cc p u:=by
 unfold cc crs;generalize vx t=a,vy t=b,vx u=c,vy u=d,vx p=e,vy p=f
 grind
def Tow (t:Nat) (X Y:Int):Prop:=crs t X Y<=0/\crs ((t+1) % 32) X Y>0
theorem tab0:∀t,t<32->cc ((t+1) % 32) t>0:=by decide
theorem tab1:∀t,t<32->∀j,j<15->cc ((t+(j+1)) % 32) t>0/\cc ((t+(j+1)) % 32) ((t+1) % 32)>=0:=by decide
theorem tab2:∀t,t<32->∀j,j<16->cc ((t+(j+17)) % 32) t<=0/\cc ((t+(j+17)) % 32) ((t+1) % 32)<=0:=by decide
theorem tow_pos {t:Nat} {X Y:Int} (ht:t<32) (h:Tow t X Y) (j:Nat) (b:1<=j) (d:j<=15):crs ((t+j) % 32) X Y>0:=by
 obtain⟨c,a⟩:=h;have k0:=tab0 t ht;have k1:=tab1 t ht (j-1) (by omega)
 rw[show j-1+1=j by omega]at k1
 have e:=plucker t ((t+1) % 32) ((t+j) % 32) X Y;generalize crs ((t+j) % 32) X Y=z at *;generalize crs ((t+1) % 32) X Y=y at *;generalize crs t X Y=x at *;obtain⟨k1,k2⟩:=k1;generalize cc ((t+1) % 32) t=K at *;generalize cc ((t+j) % 32) t=A at *;generalize cc ((t+j) % 32) ((t+1) % 32)=B at *;have p1:A*y>0:=Int.mul_pos k1 a;have p2:(-x)*B>=0:=Int.mul_nonneg (by omega) k2
 have p3:K*z>0:=by omega
 exact Int.pos_of_mul_pos_right p3 k0 |> fun h=>h
theorem tow_neg {t:Nat} {X Y:Int} (ht:t<32) (h:Tow t X Y) (j:Nat) (a:17<=j) (c:j<=32):crs ((t+j) % 32) X Y<=0:=by
 obtain⟨b,d⟩:=h;have k0:=tab0 t ht;have k1:=tab2 t ht (j-17) (by omega)
 rw[show j-17+17=j by omega]at k1
 have e:=plucker t ((t+1) % 32) ((t+j) % 32) X Y;generalize crs ((t+j) % 32) X Y=z at *;generalize crs ((t+1) % 32) X Y=y at *;generalize crs t X Y=x at *;obtain⟨k1,k2⟩:=k1;generalize cc ((t+1) % 32) t=K at *;generalize cc ((t+j) % 32) t=A at *;generalize cc ((t+j) % 32) ((t+1) % 32)=B at *;have p1:A*y<=0:=Int.mul_nonpos_of_nonpos_of_nonneg k1 (by omega)
 have p2:(-x)*B<=0:=Int.mul_nonpos_of_nonneg_of_nonpos (by omega) k2
 have p3:K*z<=0:=by omega
 apply Int.not_lt.1;intro hz;have:=Int.mul_pos k0 hz;omega
theorem tow_sign {t:Nat} {X Y:Int} (ht:t<32) (h:Tow t X Y) (p:Nat) (d:p<32) (c:p≠(t+16) % 32):(crs p X Y>0)↔(1<=(p+32-t) % 32/\(p+32-t) % 32<=15):=by
 have b:(t+(p+32-t) % 32) % 32=p:=by omega
 constructor
 ·intro e
  by_cases a:1<=(p+32-t) % 32/\(p+32-t) % 32<=15
  ·exact a
  ·exfalso
   by_cases h0:(p+32-t) % 32=0
   ·have:p=t:=by omega
    subst this;have:=h.1;omega
   ·have:=tow_neg ht h ((p+32-t) % 32) (by omega) (by omega)
    rw[b]at this;omega
 ·intro a;have:=tow_pos ht h _ a.1 a.2;rw[b]at this;exact this
theorem tow_unique {t u:Nat} {X Y:Int} (ht:t<32) (c:u<32) (h:Tow t X Y) (h':Tow u X Y):u=t:=by
 have a:=tow_sign ht h u c;have b:=tow_sign ht h ((u+1) % 32) (by omega)
 have a':=h'.1;have b':=h'.2
 by_cases e:u=(t+16) % 32
 ·have e2:(u+1) % 32≠(t+16) % 32:=by omega
  have:=(b e2).1 b';omega
 ·by_cases e2:(u+1) % 32=(t+16) % 32
  ·have e3:(u+32-t) % 32=15:=by omega
   have:=(a e).2 (by omega)
   omega
  ·have:=(b e2).1 b';have e3:¬(1<=(u+32-t) % 32/\(u+32-t) % 32<=15):=fun hh=>by have:=(a e).2 hh;omega
   omega
theorem opp:∀p,p<16->vx (p+16) = - vx p/\vy (p+16) = - vy p:=by decide
theorem tow_exists {X Y:Int} (h:X≠0\/Y≠0):∃t,t<32/\Tow t X Y:=by
 by_cases hx:∃t,t<32/\Tow t X Y
 ·exact hx
 ·exfalso;have b:∀t,t<32->crs t X Y<=0->crs ((t+1) % 32) X Y<=0:=fun t ht a=>by
   apply Int.not_lt.1;intro c;exact hx ⟨t,ht,a,c⟩
  have all:∀t,t<32->crs t X Y<=0->∀j,crs ((t+j) % 32) X Y<=0:=fun t ht a j=>by
   induction j with
   | zero=>rw[show(t+0) % 32=t by omega];exact a
   | succ j ih =>
    have:=b ((t+j) % 32) (by omega) ih
    rw[show((t+j) % 32+1) % 32=(t+(j+1)) % 32 by omega]at this
    exact this
  have o:=opp;have c0:crs 0 X Y = - (1000*X):=by unfold crs;simp only[show vx 0=0 from rfl,show vy 0=1000 from rfl];omega
  have c8:crs 8 X Y=1000*Y:=by unfold crs;simp only[show vx 8=1000 from rfl,show vy 8=0 from rfl];omega
  have c16:crs 16 X Y=1000*X:=by unfold crs;simp only[show vx 16=0 from rfl,show vy 16 = -1000 from rfl];omega
  have c24:crs 24 X Y = - (1000*Y):=by unfold crs;simp only[show vx 24 = -1000 from rfl,show vy 24=0 from rfl];omega
  have z:∃t,t<32/\crs t X Y<=0:=by
   by_cases h0:crs 0 X Y<=0
   ·exact⟨0,by omega,h0⟩
   ·exact⟨16,by omega,by omega⟩
  obtain⟨t,ht,a⟩:=z;have r:∀p,p<32->crs p X Y<=0:=fun p d=>by
   have:=all t ht a (p+32-t);rw[show(t+(p+32-t)) % 32=p by omega]at this
   exact this
  have r0:=r 0 (by omega)
  have r8:=r 8 (by omega)
  have r16:=r 16 (by omega)
  have r24:=r 24 (by omega)
  omega
def isTow (X Y:Int) (t:Nat):Bool:=decide (crs t X Y<=0)&&decide (crs ((t+1) % 32) X Y>0)
def tow (X Y:Int):Nat:=((List.range 32).find? (isTow X Y)).getD 0
theorem isTow_iff {X Y:Int} {t:Nat}:isTow X Y t=true↔Tow t X Y:=by simp[isTow,Tow]
theorem tow_spec {X Y:Int} (h:X≠0\/Y≠0):tow X Y<32/\Tow (tow X Y) X Y:=by
 obtain⟨t,ht,hT⟩:=tow_exists h;unfold tow;cases hf:(List.range 32).find? (isTow X Y)with
 | none =>
  rw[List.find?_eq_none]at hf;exact absurd (isTow_iff.2 hT) (hf t (by simp[ht]))
 | some u =>
  have a:=List.find?_some hf;have b:=List.mem_of_find?_eq_some hf;simp only[Option.getD_some];exact⟨by simpa using b,isTow_iff.1 a⟩
theorem tow_eq {X Y:Int} {t:Nat} (ht:t<32) (hT:Tow t X Y):tow X Y=t:=by
 have h:X≠0\/Y≠0:=by
  apply Classical.byContradiction;intro hc;have:X=0/\Y=0:=by omega
  obtain⟨rfl,rfl⟩:=this;have:=hT.2;simp[crs]at this
 have:=tow_spec h;exact tow_unique ht this.1 hT this.2
end Nore.Geo
open Go Go.Ab
namespace Nore
theorem X2 (lo up:Int) (l:List Int) (g:l.length<1000000):X3 lo up l=some (X4 lo up l):=by
 rw[X6Y];unfold X2K;have key:=X5 (WK (↑l.length) l up lo) (fun o3=>Sum.elim (fun y4:Int=>some (decide (y4>=0))) (fun _=>some (decide ((-1:Int)>=0))) o3) l.length (fun i (_:Unit)=>(i:Int)) (fun _ _=>True) (fun i _=>some (X4 lo up (l.drop i)))
  (by
   intro b _ R;simp[WK,X16])
  (by
   intro i b hi _ R d;have a:=d () trivial;simp only[WK,X16];rw[jb hi];simp only[kS,X0 _ _ _ hi,X4F];have e:=wS i (by omega)
   rw[e];have c:decide ((i:Int)<↑l.length)=true:=by simp[hi]
   have f:=z0S i;simp only[c,f,ju,jB]
   by_cases h3:l[i]<lo
   ·simp[h3]
   ·by_cases h4:l[i]>up
    ·simp[h3,h4]
    ·simp[h3,h4];exact a)
 exact(key 0 () (by omega) trivial).trans (by simp)
theorem XX (n lo hi:Int):X1z n lo hi=some (inN n lo hi):=by
 rw[X8t];unfold X4p inN
 by_cases h:lo<=n<;>simp[h]
def X4H (x:Z9):Int:=if x.Lead then 20 else 4
theorem X97 (x:Z9):X6c x=some (X4H x):=by
 rw[X85];unfold X3F X4H;cases x.Lead<;>rfl
def X8k (x:Z9) (names:List ByteArray):Int :=
 if X1u x.Name names≠0 then X1u x.Name names else if X4 (-X4H x) (X4H x) [x.Off.Lo,x.Off.Hi]then 7 else if x.Off.Lo>x.Off.Hi then 2 else 0
theorem X9T (x:Z9) (l:List Z9) (m:l.length<1000000) (k:(Int×Z9)⊕Unit->Option Int) (r1 r2:Option Int) (d:∀(i:Nat) y,k (.inl ((i:Int),y))=r1) (j:k (.inr ())=r2) :
  Option.bind (X2P (↑l.length) l x 0) k=if x.Name∈l.map (·.Name)then r1 else r2:=by
 have key:=X5 (XN (↑l.length) l x) k l.length (fun i (_:Unit)=>(i:Int)) (fun _ _=>True) (fun i _=>if x.Name∈(l.drop i).map (·.Name)then r1 else r2)
  (by
   intro b _ R;simp[XN,XT,j])
  (by
   intro i b hi _ R f;have a:=f () trivial;simp only[XN,XT];rw[jb hi];simp only[kS,X0 _ _ _ hi,jv,jr];have g:=wS i (by omega)
   rw[g];have e1:decide ((i:Int)<↑l.length)=true:=by simp[hi]
   have e2:=z0S i;simp only[e1,e2,ju,jB]
   by_cases h3:l[i].Name.toList=x.Name.toList
   ·have c:x.Name=l[i].Name:=X7L h3.symm;simp[h3,c,d]
   ·have c:¬x.Name=l[i].Name:=fun e=>h3 (by rw[e])
    have h:(l[i].Name.toList==x.Name.toList)=false:=beq_eq_false_iff_ne.2 h3;simp only[h,jA,c,false_or];exact a)
 exact(key 0 () (by omega) trivial).trans (by simp)
theorem X9U (x:Z9) (l:List Z9) (m:l.length<1000000) (k:(Int×Z9)⊕Unit->Option Int) (r1 r2:Option Int) (d:∀(i:Nat) y,k (.inl ((i:Int),y))=r1) (j:k (.inr ())=r2) :
  Option.bind (X2Q (↑l.length) l x 0) k=if x.Name∈l.map (·.Name)then r1 else r2:=by
 have key:=X5 (XO (↑l.length) l x) k l.length (fun i (_:Unit)=>(i:Int)) (fun _ _=>True) (fun i _=>if x.Name∈(l.drop i).map (·.Name)then r1 else r2)
  (by
   intro b _ R;simp[XO,XU,j])
  (by
   intro i b hi _ R f;have a:=f () trivial;simp only[XO,XU];rw[jb hi];simp only[kS,X0 _ _ _ hi,jv,jr];have g:=wS i (by omega)
   rw[g];have e1:decide ((i:Int)<↑l.length)=true:=by simp[hi]
   have e2:=z0S i;simp only[e1,e2,ju,jB]
   by_cases h3:l[i].Name.toList=x.Name.toList
   ·have c:x.Name=l[i].Name:=X7L h3.symm;simp[h3,c,d]
   ·have c:¬x.Name=l[i].Name:=fun e=>h3 (by rw[e])
    have h:(l[i].Name.toList==x.Name.toList)=false:=beq_eq_false_iff_ne.2 h3;simp only[h,jA,c,false_or];exact a)
 exact(key 0 () (by omega) trivial).trans (by simp)
theorem X7H (x:Z9) (l:List Z9) (c:l.length<1000000):X4i x l=some (X8k x (l.map (·.Name))):=by
 rw[X5N];unfold X1t X8k X1u X4H;have a:IntKind.wrap .i64 (0-20) = -20:=by rw[w64]<;>omega
 have b:IntKind.wrap .i64 (0-4) = -4:=by rw[w64]<;>omega
 rw[X5Z];simp only[jS,a,b];cases hb:x.Lead
 ·simp only[jA,jg,if_false];cases hn:X76 x.Name
  ·simp
  ·simp only[Bool.not_true,jA,if_true];rw[X9U x l c _ (some 5) (if X4 (-4) 4 [x.Off.Lo,x.Off.Hi]then some 7 else if x.Off.Lo>x.Off.Hi then some 2 else some 0) (fun i y=>by simp) (by
    simp only[jw];rw[X2 _ _ _ (by simp)]
    simp only[jS];cases X4 (-4) 4 [x.Off.Lo,x.Off.Hi]
    ·by_cases h:x.Off.Lo>x.Off.Hi<;>simp[h]
    ·simp)]
   by_cases hm:x.Name∈l.map (·.Name)
   ·simp[hm]
   ·simp only[hm,if_false,ne_eq,not_true];cases X4 (-4) 4 [x.Off.Lo,x.Off.Hi]
    ·by_cases h:x.Off.Lo>x.Off.Hi<;>simp[h]
    ·simp
 ·simp only[jB,if_true];cases hn:X76 x.Name
  ·simp
  ·simp only[Bool.not_true,jA,if_true];rw[X9T x l c _ (some 5) (if X4 (-20) 20 [x.Off.Lo,x.Off.Hi]then some 7 else if x.Off.Lo>x.Off.Hi then some 2 else some 0) (fun i y=>by simp) (by
    simp only[jw];rw[X2 _ _ _ (by simp)]
    simp only[jS];cases X4 (-20) 20 [x.Off.Lo,x.Off.Hi]
    ·by_cases h:x.Off.Lo>x.Off.Hi<;>simp[h]
    ·simp)]
   by_cases hm:x.Name∈l.map (·.Name)
   ·simp[hm]
   ·simp only[hm,if_false,ne_eq,not_true];cases X4 (-20) 20 [x.Off.Lo,x.Off.Hi]
    ·by_cases h:x.Off.Lo>x.Off.Hi<;>simp[h]
    ·simp
def X5J (a:Zz):Int:=if X4 (-30000) 30000 [a.X.Lo,a.X.Hi,a.Y.Lo,a.Y.Hi]||X4 0 1000 [a.Hza.Lo,a.Hza.Hi]||X4 1 4 [a.Hz5]then 7 else if a.X.Lo>a.X.Hi\/a.Y.Lo>a.Y.Hi\/a.Hza.Lo>a.Hza.Hi then 2 else 0
theorem X9k (a:Zz):X7U a=some (X5J a):=by
 rw[X8i];unfold X45 X5J;rw[X2 _ _ _ (by simp),X2 _ _ _ (by simp),X2 _ _ _ (by simp)]
 simp only[jS];cases X4 (-30000) 30000 [a.X.Lo,a.X.Hi,a.Y.Lo,a.Y.Hi]
 ·cases X4 0 1000 [a.Hza.Lo,a.Hza.Hi]
  ·cases X4 1 4 [a.Hz5]
   ·by_cases h1:a.X.Lo>a.X.Hi
    ·simp[h1]
    ·by_cases h2:a.Y.Lo>a.Y.Hi
     ·simp[h1,h2]
     ·by_cases h3:a.Hza.Lo>a.Hza.Hi<;>simp[h1,h2,h3]
   ·simp
  ·simp
 ·simp
theorem X8x (i:Int) (a:Zz):X4I i a=some (X5J a):=by
 rw[X6S];unfold X2I;rw[X9k];rfl
theorem Xbo (lo hi a b c d:Int):X4 lo hi [a,b,c,d]=(X4 lo hi [a,b]||X4 lo hi [c,d]):=by simp[Bool.or_assoc]
theorem X8U (a:Zz):X6p a=some (X5J a):=by
 rw[X7B];unfold X3e X5J X3Z;rw[X3I _ _ _ (by simp),X3I _ _ _ (by simp),XX,X1E,Xbo]
 simp only[jS,X3k];cases X4 (-30000) 30000 [a.X.Lo,a.X.Hi]
 ·cases X4 (-30000) 30000 [a.Y.Lo,a.Y.Hi]
  ·cases X4 0 1000 [a.Hza.Lo,a.Hza.Hi]
   ·cases X4 1 4 [a.Hz5]
    ·by_cases h1:a.X.Lo>a.X.Hi<;>by_cases h2:a.Y.Lo>a.Y.Hi<;>by_cases h3:a.Hza.Lo>a.Hza.Hi<;>simp[h1,h2,h3]
    ·by_cases h1:a.X.Lo>a.X.Hi<;>by_cases h2:a.Y.Lo>a.Y.Hi<;>by_cases h3:a.Hza.Lo>a.Hza.Hi<;>simp[h1,h2,h3]
   ·by_cases h1:a.X.Lo>a.X.Hi<;>by_cases h2:a.Y.Lo>a.Y.Hi<;>simp[h1,h2]
  ·simp
 ·simp
def X2k:Nat->List ByteArray->List Z9->Int×Int×Int
 | _,_,[]=>(0,0,0)
 | i,names,x::l=>if X8k x names=0 then X2k (i+1) (names++[x.Name]) l else(3,(i:Int),X8k x names)
def X3J:Nat->List Zz->Int×Int×Int
 | _,[]=>(0,0,0)
 | i,a::l=>if X5J a=0 then X3J (i+1) l else(4,(i:Int),X5J a)
def X2S (f:ZS):Int×Int×Int :=
 if(X2g f.Hz9).2.2≠0 then(1,0,(X2g f.Hz9).2.2)else
 if X4 0 40000 [f.Day]||X4 1 500 [f.Step]||X4 0 8 [f.Half]then(2,0,7)else
 if X4 1 4 [(f.Hz0.length:Int)]then(3,0,3)else
 if(X2k 0 [] f.Hz0).2.2≠0 then X2k 0 [] f.Hz0 else
 if 6<f.Hz7.length then(4,0,3)else X3J 0 f.Hz7
theorem X9s (l:List Zz) (h:l.length<=6) (k:(Int×Int×Zz)⊕Unit->Option (Int×Int×Int)) (c:∀(i e:Int) y,e≠0->k (.inl (e,i,y))=some (4,i,e)) (f:k (.inr ())=some (0,0,0)) :
  Option.bind (X4z l (↑l.length) 0) k=some (X3J 0 l):=by
 have key:=X5 (X1N l (↑l.length)) k l.length (fun i (_:Unit)=>(i:Int)) (fun _ _=>True) (fun i _=>some (X3J i (l.drop i)))
  (by
   intro b _ R;simp[X1N,X1S,f,X3J])
  (by
   intro i b hi _ R g;have a:=g () trivial;simp only[X1N,X1S];rw[jb hi];simp only[kS,X0 _ _ _ hi,X3J];have d:=wS i (by omega)
   rw[d,X8x];have e1:decide ((i:Int)<↑l.length)=true:=by simp[hi]
   have e2:=z0S i;simp only[e1,e2,ju,jB,jS]
   by_cases h3:X5J l[i]=0
   ·simp only[h3,jk,jA,jS,jz,if_true];exact a
   ·simp[h3,Wk h3,c])
 exact(key 0 () (by omega) trivial).trans (by simp)
theorem X9t (l:List Zz) (b:l.length<=6) (k:(Int×Int×Zz)⊕Unit->Option (Int×Int×Int)) (a:∀(i e:Int) y,e≠0->k (.inl (e,i,y))=some (4,i,e)) (c:k (.inr ())=some (0,0,0)) :
  Option.bind (X3h l (↑l.length) 0) k=some (X3J 0 l):=X9s l b k a c
theorem X9V (f:ZS) (j:f.Hz0.length<=4) (k:(Int×Int×Z9×Z9)⊕Unit->Option (Int×Int×Int)) (r:Option (Int×Int×Int)) (c:∀(i e:Int) y y',e≠0->k (.inl (e,i,y,y'))=some (3,i,e)) (h:k (.inr ())=r) :
  Option.bind (X4y f.Hz0 (↑f.Hz0.length) f 0) k=if(X2k 0 [] f.Hz0).2.2≠0 then some (X2k 0 [] f.Hz0)else r:=by
 have key:=X5 (X1M f.Hz0 (↑f.Hz0.length) f) k f.Hz0.length (fun i (_:Unit)=>(i:Int)) (fun _ _=>True) (fun i _=>if(X2k i ((f.Hz0.take i).map (·.Name)) (f.Hz0.drop i)).2.2≠0 then some (X2k i ((f.Hz0.take i).map (·.Name)) (f.Hz0.drop i))else r)
  (by
   intro b _ R;simp[X1M,X1R,h,X2k])
  (by
   intro i b hi _ R d;have a:=d () trivial;simp only[X1M,X1R];rw[jb hi];rw[<-List.take_concat_get hi]at a;simp only[List.concat_eq_append,List.map_append,jv,List.map_nil]at a;simp only[kS,X0 _ _ _ hi,X2k,List.drop_zero];have g:=wS i (by omega)
   rw[g,X7H _ _ (by simp;omega)]
   have e1:decide ((i:Int)<↑f.Hz0.length)=true:=by simp[hi]
   have e2:=z0S i;have e3:decide ((i:Int)<=↑f.Hz0.length)=true:=by simp;omega
   simp only[e1,e2,e3,ju,jB,jS]
   by_cases h3:X8k f.Hz0[i] ((f.Hz0.take i).map (·.Name))=0
   ·simp only[h3,jk,jA,jS,jz,if_true];exact a
   ·simp only[Wk h3,jB,jS,jw,c _ _ _ _ h3,if_neg h3];rw[if_pos h3])
 exact(key 0 () (by omega) trivial).trans (by simp)
theorem X92 (f:ZS):X7j f=some (X2S f):=by
 rw[X7Q];unfold X3x X2S;rw[X5k,X2 _ _ _ (by simp),X2 _ _ _ (by simp),X2 _ _ _ (by simp),X2 _ _ _ (by simp)]
 simp only[jS]
 by_cases h1:(X2g f.Hz9).2.2=0
 ·simp only[h1,jk,jA,ne_eq,not_true,if_false];cases X4 0 40000 [f.Day]
  ·cases X4 1 500 [f.Step]
   ·cases X4 0 8 [f.Half]
    ·cases hi:X4 1 4 [(f.Hz0.length:Int)]
     ·have b:f.Hz0.length<=4:=by simp at hi;omega
      simp only[jA,Bool.or_self,jg,if_false];have c:(bif decide ((f.Hz7.length:Int)>6)then some (4,0,3)else Option.bind (X3h f.Hz7 (↑f.Hz7.length) 0) fun o257↦Sum.elim (fun y258↦bif y258.fst != 0 then some (4,y258.snd.fst,y258.fst)else some ((0:Int),(0:Int),(0:Int))) (fun y259↦some (0,0,0)) o257)=(some (if 6<f.Hz7.length then(4,0,3)else X3J 0 f.Hz7):Option (Int×Int×Int)):=by
       by_cases h6:6<f.Hz7.length
       ·have:decide ((f.Hz7.length:Int)>6)=true:=by simp;omega
        rw[this];simp[h6]
       ·have:decide ((f.Hz7.length:Int)>6)=false:=by simp;omega
        rw[this];simp only[jA,h6,if_false];exact X9t _ (by omega) _ (fun i e y a=>by simp[Wk a]) rfl
      rw[X9V f b _ _ (fun i e y y' a=>by simp[Wk a]) (by simp only[jw];exact c)]
      by_cases h3:(X2k 0 [] f.Hz0).2.2=0<;>simp[h3]
     ·simp
    ·simp
   ·simp
  ·simp
 ·simp[h1,Wk h1]
theorem X8W (f:ZS) (q:f.Hz0.length<=4) (k:(Int×Int×Int×List ByteArray×List ByteArray×Z9)⊕((Int×Int×Int×List ByteArray×List ByteArray×Z9)⊕List ByteArray)->Option (Int×Int×Int)) (r:Option (Int×Int×Int))
  (d:∀(i e:Int) y y' z,k (.inl (i,e,3,y,y',z))=some (3,i,e)) (a:∀(i e:Int) y y' z,k (.inr (.inl (i,e,3,y,y',z)))=some (3,i,e)) (o:∀l,k (.inr (.inr l))=r) :
  Option.bind (X3R f (0,[])) k=if(X2k 0 [] f.Hz0).2.2≠0 then some (X2k 0 [] f.Hz0)else r:=by
 have key:=X5 (WT f) k f.Hz0.length (fun i (b:List ByteArray)=>((i:Int),b)) (fun i b=>b=(f.Hz0.take i).map (·.Name)) (fun i b=>if(X2k i b (f.Hz0.drop i)).2.2≠0 then some (X2k i b (f.Hz0.drop i))else r)
  (by
   intro b _ R;simp[WT,X1d,o,X2k])
  (by
   intro i b hi g R h;have c:=h (b++[f.Hz0[i].Name]) (by rw[g,<-List.take_concat_get hi,List.concat_eq_append,List.map_append];rfl)
   have p:b.length<=4:=by rw[g];simp;omega
   simp only[WT,X1d];rw[jb hi];simp only[kS,X0 _ _ _ hi,X2k];have j:=wS i (by omega)
   rw[j,X5B _ _ (by omega),X97]
   have e1:decide ((i:Int)<↑f.Hz0.length)=true:=by simp[hi]
   have e2:=z0S i;have e3:Nat.ble ((b.length+[f.Hz0[i].Name].length)*(16+1)) 200000000000000=true:=by
    apply Nat.ble_eq_true_of_le;simp;omega
   have m:IntKind.wrap .i64 (0-X4H f.Hz0[i]) = -X4H f.Hz0[i]:=by unfold X4H;split<;>(rw[w64]<;>omega)
   simp only[e1,e2,e3,ju,jB,jS,m,X3Z];rw[X3I _ _ _ (by simp)]
   unfold X8k
   by_cases h3:X1u f.Hz0[i].Name b=0
   ·simp only[h3,beq_self_eq_true,jB,ne_eq,not_true,if_false,jS,X3k];cases ho:X4 (-X4H f.Hz0[i]) (X4H f.Hz0[i]) [f.Hz0[i].Off.Lo,f.Hz0[i].Off.Hi]
    ·by_cases h4:f.Hz0[i].Off.Lo>f.Hz0[i].Off.Hi
     ·simp[h4,d]
     ·simp only[h4,jg,if_false,jk,jA,jS,jz,if_true];exact c
    ·simp[d]
   ·have n:=Wk h3;simp[h3,X3v h3,n,a])
 exact(key 0 [] (by omega) (by simp)).trans (by simp)
theorem X8V (f:ZS) (j:f.Hz7.length<=6) (k:(Int×Int×Int)⊕Unit->Option (Int×Int×Int)) (c:∀(i e:Int),k (.inl (i,e,4))=some (4,i,e)) (g:k (.inr ())=some (0,0,0)) :
  Option.bind (X3S f 0) k=some (X3J 0 f.Hz7):=by
 have key:=X5 (WU f) k f.Hz7.length (fun i (_:Unit)=>(i:Int)) (fun _ _=>True) (fun i _=>some (X3J i (f.Hz7.drop i)))
  (by
   intro b _ R;simp[WU,X1e,g,X3J])
  (by
   intro i b hi _ R h;have a:=h () trivial;simp only[WU,X1e];rw[jb hi];simp only[kS,X0 _ _ _ hi,X3J];have d:=wS i (by omega)
   rw[d,X8U];have e1:decide ((i:Int)<↑f.Hz7.length)=true:=by simp[hi]
   have e2:=z0S i;simp only[e1,e2,ju,jB,jS]
   by_cases h3:X5J f.Hz7[i]=0
   ·simp only[h3,jk,jA,jS,jz,if_true];exact a
   ·simp[h3,Wk h3,c])
 exact(key 0 () (by omega) trivial).trans (by simp)
theorem X6G (f:ZS):X4O f=some (X2S f):=by
 rw[X7c];unfold X2N X2S;rw[X78,XX,XX,XX,XX,X1E,X1E,X1E,X1E];simp only[jS,Bool.not_not]
 by_cases h1:(X2g f.Hz9).2.2=0
 ·simp only[h1,jk,jA,ne_eq,not_true,if_false];cases X4 0 40000 [f.Day]
  ·cases X4 1 500 [f.Step]
   ·cases X4 0 8 [f.Half]
    ·cases hi:X4 1 4 [(f.Hz0.length:Int)]
     ·have a:f.Hz0.length<=4:=by simp at hi;omega
      simp only[jA,Bool.or_self,jg,if_false];rw[X8W f a _ (some (if 6<f.Hz7.length then(4,0,3)else X3J 0 f.Hz7)) (fun i e y y' z=>rfl) (fun i e y y' z=>rfl) (fun l=>by
       simp only[jw]
       by_cases h6:6<f.Hz7.length
       ·have:decide ((f.Hz7.length:Int)>6)=true:=by simp;omega
        rw[this];simp[h6]
       ·have:decide ((f.Hz7.length:Int)>6)=false:=by simp;omega
        rw[this];simp only[jA,h6,if_false];exact X8V f (by omega) _ (fun i e=>rfl) rfl)]
      by_cases h3:(X2k 0 [] f.Hz0).2.2=0<;>simp[h3]
     ·simp
    ·simp
   ·simp
  ·simp
 ·simp[h1,Wk h1]
def X5y (d:Int):Int->List Zr->Int
 | c,[]=>c
 | c,p::l=>X5y d (if p.Day<=d then p.Hz4 else c) l
def X4L (m:ZC) (d:Int):Int:=X5y d 0 m.Hz3
theorem X8s (d:Int) (p:Zr):∀(l:List Zr) (c:Int),X5y d c (l++[p])=if p.Day<=d then p.Hz4 else X5y d c l
 | [],c=>rfl
 | q::l,c=>by simp only[List.cons_append,X5y,X8s d p l]
theorem X5T (m:ZC) (d:Int) (e:m.Hz3.length<1000000):X3E m d=some (X4L m d):=by
 rw[X6a];unfold X1X X4L;have key:=X5 (W1 d m) (fun o=>some o) m.Hz3.length (fun i (b:Int)=>(b,(i:Int))) (fun _ _=>True) (fun i b=>some (X5y d b (m.Hz3.drop i)))
  (by
   intro b _ R;simp[W1,W3,X5y])
  (by
   intro i b hi _ R a;simp only[W1,W3];rw[jb hi];simp only[kS,X0 _ _ _ hi,X5y];have c:=wS i (by omega)
   rw[c];have e1:decide ((i:Int)<↑m.Hz3.length)=true:=by simp[hi]
   have e2:=z0S i;simp only[e1,e2,ju,jB]
   by_cases h3:m.Hz3[i].Day<=d
   ·simp only[h3,decide_true,jB,jS,jz,if_true];exact a _ trivial
   ·simp only[h3,decide_false,jA,jS,jz,if_false];exact a _ trivial)
 exact key 0 0 (by omega) trivial
theorem X9C (d:Int) (l:List Zr) (o:l.length<1000000) (k:(Zr×Int×Int)⊕Unit->Option (ZC×Int×Int)) (mk:ZC) (g:∀p c e,k (.inl (p,c,e))=some (mk,c,e)) (m:k (.inr ())=some (mk,0,0)) :
  Option.bind (X23 d l ((l.length:Int)-1)) k=some (mk,X5y d 0 l,0):=by
 have key:=X5 (Wa d l) k l.length (fun i (_:Unit)=>(l.length:Int)-1-i) (fun _ _=>True) (fun i _=>some (mk,X5y d 0 (l.take (l.length-i)),0))
  (by
   intro b _ R;have:decide ((l.length:Int)-1-l.length>=0)=false:=by simp;omega
   simp only[Wa,Ws,this,jA,jS,jw,m];simp[X5y])
  (by
   intro i b hi _ R h;have a:=h () trivial;have ht:((l.length:Int)-1-i).toNat=l.length-1-i:=by omega
   have f:l.length-1-i<l.length:=by omega
   simp only[Wa,Ws,ht,X0 _ _ _ f];have e1:decide ((l.length:Int)-1-i>=0)=true:=by simp;omega
   have e2:decide ((0:Int)<=(l.length:Int)-1-i)=true:=by simp;omega
   have e3:decide ((l.length:Int)-1-i<l.length)=true:=by simp;omega
   have j:IntKind.wrap .i64 ((l.length:Int)-1-i-1)=(l.length:Int)-1-((i+1:Nat):Int):=by rw[w64]<;>omega
   simp only[e1,e2,e3,ju,jB,j];have n:l.take (l.length-i)=l.take (l.length-(i+1))++[l[l.length-1-i]]:=by
    have:=List.take_concat_get f;rw[show l.length-i=l.length-1-i+1 by omega,<-this,List.concat_eq_append,show l.length-(i+1)=l.length-1-i by omega]
   rw[n,X8s]
   by_cases h3:l[l.length-1-i].Day<=d
   ·simp[h3,g]
   ·simp only[h3,decide_false,jA,jS,jz,if_false];exact a)
 have:=key 0 () (by omega) trivial
 unfold X23;simpa using this
theorem X9Y (l:List Zr) (h:X4m l=0):l.length<=4:=by
 unfold X4m at h;cases ho:X4 1 4 [(l.length:Int)]
 ·simp at ho;omega
 ·rw[ho]at h;simp at h
theorem X9D (sands:List CtSand):∀(l:List ZC) (i:Nat) (names:List ByteArray),(X4D sands i names l).2.2=0->∀m∈l,X3g 30000 m.At=false/\m.Hz3.length<=4
 | [],_,_,_,m,a=>by cases a
 | x::l,i,names,h,m,a=>by
  simp only[X4D]at h
  by_cases h0:X4l x names=0
  ·simp only[h0,if_true]at h;rcases jr.1 a with e|e
   ·subst e;unfold X4l at h0
    by_cases h1:X1u m.Name names=0
    ·simp only[h1,if_true]at h0;cases hf:X3g 30000 m.At
     ·rw[hf]at h0;exact⟨rfl,X9Y _ (by simpa using h0)⟩
     ·rw[hf]at h0;simp at h0
    ·simp only[h1,if_false]at h0
   ·exact X9D sands l _ _ h m e
  ·simp only[h0,if_false]at h
structure X2E (f:ZS):Prop where
 chart:(X2g f.Hz9).2.2=0
 marks:f.Hz9.Hz8.length<=8
 mark:∀m∈f.Hz9.Hz8,X3g 30000 m.At=false/\m.Hz3.length<=4
 day:0<=f.Day/\f.Day<=40000
 step:1<=f.Step/\f.Step<=500
 half:0<=f.Half/\f.Half<=8
 inst:1<=f.Hz0.length/\f.Hz0.length<=4
 off:∀x∈f.Hz0,-X4H x<=x.Off.Lo/\x.Off.Lo<=x.Off.Hi/\x.Off.Hi<=X4H x
 areas:f.Hz7.length<=6
 area:∀a∈f.Hz7,X5J a=0
theorem X9A:∀(l:List Z9) (i:Nat) (names:List ByteArray),(X2k i names l).2.2=0->∀x∈l,-X4H x<=x.Off.Lo/\x.Off.Lo<=x.Off.Hi/\x.Off.Hi<=X4H x
 | [],_,_,_,m,a=>by cases a
 | x::l,i,names,h,m,a=>by
  simp only[X2k]at h
  by_cases h0:X8k x names=0
  ·simp only[h0,if_true]at h;rcases jr.1 a with e|e
   ·subst e;unfold X8k at h0
    by_cases h1:X1u m.Name names=0
    ·simp only[h1,ne_eq,not_true,if_false]at h0;cases ho:X4 (-X4H m) (X4H m) [m.Off.Lo,m.Off.Hi]
     ·rw[ho]at h0;simp at ho h0;omega
     ·rw[ho]at h0;simp at h0
    ·simp only[ne_eq,h1,not_false_eq_true,if_true]at h0
   ·exact X9A l _ _ h m e
  ·simp only[h0,if_false]at h
theorem X9u:∀(l:List Zz) (i:Nat),(X3J i l).2.2=0->∀x∈l,X5J x=0
 | [],_,_,m,a=>by cases a
 | x::l,i,h,m,a=>by
  simp only[X3J]at h
  by_cases h0:X5J x=0
  ·simp only[h0,if_true]at h;rcases jr.1 a with e|e
   ·subst e;exact h0
   ·exact X9u l _ h m e
  ·simp only[h0,if_false]at h
theorem X7V {f:ZS} (h:(X2S f).2.2=0):X2E f:=by
 unfold X2S at h
 by_cases h1:(X2g f.Hz9).2.2=0
 ·simp only[h1,ne_eq,not_true,if_false]at h;cases h2:(X4 0 40000 [f.Day]||X4 1 500 [f.Step]||X4 0 8 [f.Half])
  ·rw[h2]at h;cases h3:X4 1 4 [(f.Hz0.length:Int)]
   ·rw[h3]at h;simp only[jg,if_false]at h
    by_cases h4:(X2k 0 [] f.Hz0).2.2=0
    ·simp only[h4,ne_eq,not_true,if_false]at h
     by_cases h5:6<f.Hz7.length
     ·rw[if_pos h5]at h;simp at h
     ·rw[if_neg h5]at h;simp at h2 h3;have b:¬8<f.Hz9.Hz8.length:=fun q=>by unfold X2g at h1;rw[if_pos q]at h1;simp at h1
      have a:=h1;unfold X2g at a;rw[if_neg b]at a;exact⟨h1,by omega,X9D _ _ _ _ a,by omega,by omega,by omega,by omega,X9A _ _ _ h4,by omega,X9u _ _ h⟩
    ·exfalso;rw[if_pos h4]at h;exact h4 h
   ·rw[h3]at h;simp at h
  ·rw[h2]at h;simp at h
 ·rw[if_pos h1]at h;exact absurd h h1
theorem X4x {f:ZS} (a:X2E f) (mark:Int) (g:0<=mark) (h:mark<f.Hz9.Hz8.length) :
  X40 f.Hz9 f.Day mark=some (f.Hz9.Hz8.getD mark.toNat ⟨ByteArray.empty,⟨0,0⟩,[]⟩,X4L (f.Hz9.Hz8.getD mark.toNat ⟨ByteArray.empty,⟨0,0⟩,[]⟩) f.Day,0):=by
 rw[X6y];unfold X2d;have l:=a.marks;have j:=a.day;have d:mark.toNat<f.Hz9.Hz8.length:=by omega
 have k:=(a.mark _ (jo d)).2;have i:IntKind.wrap .i64 ((f.Hz9.Hz8.length:Int)-1)=(f.Hz9.Hz8.length:Int)-1:=by rw[w64]<;>omega
 rw[X5k,X1g _ _ _ (by simp),X1g _ _ _ (by simp),i]
 have o1:X4 0 40000 [f.Day]=false:=by simp;omega
 have o2:X4 0 ((f.Hz9.Hz8.length:Int)-1) [mark]=false:=by simp;omega
 have e1:decide (0<=mark)=true:=by simp[g]
 have e2:decide (mark<(f.Hz9.Hz8.length:Int))=true:=by simp[h]
 simp only[jS,a.chart,jk,jA,o1,o2,e1,e2,ju,jB,X0 _ _ _ d];have b:IntKind.wrap .i64 ((f.Hz9.Hz8[mark.toNat].Hz3.length:Int)-1)=(f.Hz9.Hz8[mark.toNat].Hz3.length:Int)-1:=by rw[w64]<;>omega
 rw[b];exact X9C f.Day _ (by omega) _ _ (fun p c e=>rfl) rfl
def ZgB (f:ZS) (mark:Int):ZC:=f.Hz9.Hz8.getD mark.toNat ⟨ByteArray.empty,⟨0,0⟩,[]⟩
def X2Y (f:ZS) (mark:Int):Bool:=X4L (ZgB f mark) f.Day != 0
theorem Xa5 {f:ZS} (c:X2E f) (mark:Int) (a:0<=mark) (b:mark<f.Hz9.Hz8.length) (l:List Zt) (kit:Nat->Nat) (m:List (Zn×Int)) :
  XZ (mark,f,l,kit,m)=some (X2Y f mark,f,l,kit,m):=by
 rw[X4a];unfold XJ;rw[X6r];unfold X26;rw[X4x c mark a b];rfl
def Kit (f:ZS) (kit:Nat->Nat):Prop:=∀i,(h:i<f.Hz0.length)->kit i=if f.Hz0[i].Lead then 2 else 1
def X4j (f:ZS) (i:Int):Z9:=f.Hz0.getD i.toNat ⟨ByteArray.empty,false,⟨0,0⟩⟩
def X1Z (f:ZS) (x:Zt):Int :=
 if X4 0 ((f.Hz0.length:Int)-1) [x.Hz1]then 4 else
 if(X4j f x.Hz1).Lead then(if X4 0 1000 [x.Hz6]||X4 0 4 [x.Hz5]then 7 else if x.Mark≠0 then 2 else 0)
 else if X4 0 ((f.Hz9.Hz8.length:Int)-1) [x.Mark]then 4 else if X2Y f x.Mark=false then 9 else if X4 0 31 [x.Hz6]then 7 else if x.Hz5≠0 then 7 else 0
theorem XaJ {f:ZS} (c:X2E f) (x:Zt) (l:List Zt) {kit:Nat->Nat} (g:Kit f kit) (m:List (Zn×Int)) :
  X1q (x,f,l,kit,m)=some (X1Z f x,f,l,kit,m):=by
 rw[X4s];unfold XS X1Z;have i:=c.marks;have hi:=c.inst;have h:IntKind.wrap .i64 ((f.Hz9.Hz8.length:Int)-1)=(f.Hz9.Hz8.length:Int)-1:=by rw[w64]<;>omega
 have d:IntKind.wrap .i64 ((f.Hz0.length:Int)-1)=(f.Hz0.length:Int)-1:=by rw[w64]<;>omega
 simp only[h,d];rw[X2 _ _ _ (by simp),X2 _ _ _ (by simp),X2 _ _ _ (by simp),X2 _ _ _ (by simp),X2 _ _ _ (by simp)]
 simp only[jS];cases ho:X4 0 ((f.Hz0.length:Int)-1) [x.Hz1]
 ·simp at ho;have e:x.Hz1.toNat<f.Hz0.length:=by omega
  have e1:decide (0<=x.Hz1)=true:=by simp;omega
  have e2:decide (x.Hz1<((4:Nat):Int))=true:=by simp;omega
  have e3:Nat.blt x.Hz1.toNat 4=true:=by rw[Tr.blt_dec];simp;omega
  have a:=g _ e;have b:X4j f x.Hz1=f.Hz0[x.Hz1.toNat]:=X0 _ _ _ e;rw[b];have e2':decide (x.Hz1<(4:Int))=true:=by simp;omega
  simp only[jA,jg,if_false,e1,e2,e2',e3,ju,jB];cases hL:f.Hz0[x.Hz1.toNat].Lead
  ·rw[hL]at a;simp only[jg,if_false]at a;simp only[a,show Nat.beq 1 0=false from rfl,show Nat.beq 1 1=true from rfl,jA,jB,jg,if_false];cases hmk:X4 0 ((f.Hz9.Hz8.length:Int)-1) [x.Mark]
   ·simp at hmk;simp only[jA,jg,if_false];rw[Xa5 c x.Mark (by omega) (by omega)]
    simp only[jS];cases X2Y f x.Mark
    ·simp
    ·cases X4 0 31 [x.Hz6]
     ·by_cases h5:x.Hz5=0<;>simp[h5,Wk]
     ·simp
   ·simp
  ·rw[hL]at a;simp only[if_true]at a;simp only[a,show Nat.beq 2 0=false from rfl,show Nat.beq 2 1=false from rfl,show Nat.beq 2 (1+1)=true from rfl,jA,jB,if_true];cases X4 0 1000 [x.Hz6]
   ·cases X4 0 4 [x.Hz5]
    ·by_cases h5:x.Mark=0<;>simp[h5,Wk]
    ·simp
   ·simp
 ·simp
theorem X8z {f:ZS} (c:X2E f) (x:Zt):X5X f x=some (X1Z f x):=by
 rw[X7e];unfold X2O X1Z;have i:=c.marks;have hi:=c.inst;have g:IntKind.wrap .i64 ((f.Hz9.Hz8.length:Int)-1)=(f.Hz9.Hz8.length:Int)-1:=by rw[w64]<;>omega
 have d:IntKind.wrap .i64 ((f.Hz0.length:Int)-1)=(f.Hz0.length:Int)-1:=by rw[w64]<;>omega
 simp only[g,d];rw[XX,XX,XX,XX,XX,X1E,X1E,X1E,X1E,X1E];simp only[jS,Bool.not_not];cases ho:X4 0 ((f.Hz0.length:Int)-1) [x.Hz1]
 ·simp at ho;have e:x.Hz1.toNat<f.Hz0.length:=by omega
  have e1:decide (0<=x.Hz1)=true:=by simp;omega
  have e2:decide (x.Hz1<(f.Hz0.length:Int))=true:=by simp;omega
  have b:X4j f x.Hz1=f.Hz0[x.Hz1.toNat]:=X0 _ _ _ e;rw[b];simp only[jA,jg,if_false,e1,e2,ju,jB,X0 _ _ _ e];cases hL:f.Hz0[x.Hz1.toNat].Lead
  ·simp only[jA,jg,if_false];cases hmk:X4 0 ((f.Hz9.Hz8.length:Int)-1) [x.Mark]
   ·simp at hmk;have a:x.Mark.toNat<f.Hz9.Hz8.length:=by omega
    have e3:decide (0<=x.Mark)=true:=by simp;omega
    have e4:decide (x.Mark<(f.Hz9.Hz8.length:Int))=true:=by simp;omega
    have h:=(c.mark _ (jo a)).2;simp only[jA,jg,if_false,e3,e4,ju,jB,X0 _ _ _ a];rw[X5T _ _ (by omega)]
    unfold X2Y ZgB;rw[X0 _ _ _ a];simp only[jS]
    by_cases h0:X4L f.Hz9.Hz8[x.Mark.toNat] f.Day=0
    ·simp[h0]
    ·simp only[X3v h0,Wk h0,jA,Bool.true_eq_false,if_false];cases X4 0 31 [x.Hz6]
     ·by_cases h5:x.Hz5=0<;>simp[h5,Wk]
     ·simp
   ·simp
  ·simp only[jB,if_true];cases X4 0 1000 [x.Hz6]
   ·cases X4 0 4 [x.Hz5]
    ·by_cases h5:x.Mark=0<;>simp[h5,Wk]
    ·simp
   ·simp
 ·simp
def W2 (f:ZS):Nat->List Zt->Int×Int
 | _,[]=>(0,0)
 | i,x::l=>if X1Z f x=0 then W2 f (i+1) l else((i:Int),X1Z f x)
def XP (f:ZS) (l:List Zt):Int×Int:=if(X2S f).2.2≠0 then(0,(X2S f).2.2)else if 8<l.length then(0,3)else W2 f 0 l
theorem X6I (f:ZS) (l:List Zt):X2X f l=some (XP f l):=by
 rw[X4P];unfold W4 XP;rw[X6G];simp only[jS]
 by_cases h:(X2S f).2.2=0
 ·have e:=X7V h;simp only[h,beq_self_eq_true,jB,jk,jA,ne_eq,not_true,if_false]
  by_cases h8:8<l.length
  ·have:decide ((l.length:Int)>8)=true:=by simp;omega
   rw[this];simp[h8]
  ·have:decide ((l.length:Int)>8)=false:=by simp;omega
   rw[this];simp only[jA,h8,if_false];exact X5 (Xi l f) _ l.length (fun i (_:Unit)=>(i:Int)) (fun _ _=>True) (fun i _=>some (W2 f i (l.drop i)))
    (by
     intro b _ R;simp[Xi,Xq,W2])
    (by
     intro i b hi _ R j;have a:=j () trivial;simp only[Xi,Xq];rw[jb hi];have d:=wS i (by omega)
     simp only[kS,X0 _ _ _ hi,d,W2];rw[X8z e];have c:decide ((i:Int)<↑l.length)=true:=by simp[hi]
     have g:=z0S i;simp only[c,g,ju,jB,jS]
     by_cases he:X1Z f l[i]=0
     ·simp only[he,jk,jA,jS,jz,if_true];exact a
     ·simp[he,Wk he]) 0 () (by omega) trivial
 ·simp[h,Wk h,X3v h]
theorem XaS (f:ZS) (hi:f.Hz0.length<=4):∃kit,X3O f.Hz0 (↑f.Hz0.length) (0,fun _=>0)=some kit/\Kit f kit:=by
 have key:∀j i (b:Nat->Nat),f.Hz0.length-i=j->i<=f.Hz0.length->(∀q,(h:q<f.Hz0.length)->q<i->b q=if f.Hz0[q].Lead then 2 else 1) →
   ∃kit,Z9t (WI f.Hz0 (↑f.Hz0.length)) ((i:Int),b)=some kit/\Kit f kit:=fun j=>by
  induction j with
  | zero =>
   intro i b r m l;have:i=f.Hz0.length:=by omega
   subst this;refine⟨b,?_,fun q k=>l q k k⟩;rw[<-X1n (Z9t _ _),X2o];simp[WI,X14]
  | succ j ih =>
   intro i b r m l;have g:i<f.Hz0.length:=by omega
   have o:=wS i (by omega)
   have e1:decide ((i:Int)<↑f.Hz0.length)=true:=by simp[g]
   have e2:=z0S i;have e3:decide ((i:Int)<((4:Nat):Int))=true:=by simp;omega
   have e3':decide ((i:Int)<(4:Int))=true:=by simp;omega
   have e4:Nat.blt i 4=true:=by rw[Tr.blt_dec];simp;omega
   obtain⟨kit,c,p⟩:=ih (i+1) (fun q=>if q=i then(if f.Hz0[i].Lead then 2 else 1)else b q) (by omega) (by omega) (fun q k n=>by
    by_cases e:q=i
    ·subst e;simp
    ·simp only[e,if_false];exact l q k (by omega))
   refine⟨kit,?_,p⟩;rw[<-X1n (Z9t _ _),X2o];simp only[WI,X14,kS,X0 _ _ _ g,o,e1,e2,e3,e3',e4,ju,jB];have d:(fun j=>bif Nat.beq j i then 1+1 else bif Nat.beq j i then 1 else b j)=fun q=>if q=i then 2 else b q:=by
    funext q;rw[Tr.beq_dec];by_cases e:q=i<;>simp[e]
   have a:(fun j=>bif Nat.beq j i then 1 else b j)=fun q=>if q=i then 1 else b q:=by
    funext q;rw[Tr.beq_dec];by_cases e:q=i<;>simp[e]
   rw[d,a];cases hL:f.Hz0[i].Lead
   ·rw[hL]at c;simp only[jg,if_false]at c;simp only[jA,jS,jz];rw[X1n];exact c
   ·rw[hL]at c;simp only[if_true]at c;simp only[jB,jS,jz];rw[X1n];exact c
 exact key _ 0 _ rfl (by omega) (fun q _ h=>by omega)
theorem XaE {f:ZS} (e:X2E f) (l:List Zt) (m:l.length<=8) {kit:Nat->Nat} (j:Kit f kit) {γ:Type} (k:_->Option γ) :
  Option.bind (X3P l (↑l.length) (0,f,l,kit,[])) k=if(W2 f 0 l).2=0 then k (.inr (f,l,kit,[]))else k (.inl ((W2 f 0 l).2,(W2 f 0 l).1,f,l,kit,l.getD (W2 f 0 l).1.toNat ⟨0,0,0,0⟩,l.getD (W2 f 0 l).1.toNat ⟨0,0,0,0⟩,[])):=by
 refine(X5 (WJ l (↑l.length)) k l.length (fun i (_:Unit)=>((i:Int),f,l,kit,[])) (fun _ _=>True) (fun i _=>if(W2 f i (l.drop i)).2=0 then k (.inr (f,l,kit,[]))else k (.inl ((W2 f i (l.drop i)).2,(W2 f i (l.drop i)).1,f,l,kit,l.getD (W2 f i (l.drop i)).1.toNat ⟨0,0,0,0⟩,l.getD (W2 f i (l.drop i)).1.toNat ⟨0,0,0,0⟩,[])))
  (by
   intro b _ R;simp[WJ,X15,W2])
  (by
   intro i b hi _ R h;have a:=h () trivial;simp only[WJ,X15];rw[jb hi];have d:=wS i (by omega)
   simp only[kS,X0 _ _ _ hi,d,W2];rw[XaJ e _ _ j];have c:decide ((i:Int)<↑l.length)=true:=by simp[hi]
   have g:=z0S i;simp only[c,g,ju,jB,jS]
   by_cases he:X1Z f l[i]=0
   ·simp only[he,jk,jA,jS,jz,if_true];exact a
   ·simp only[Wk he,jB,jS,jw,if_neg he];rw[show((i:Int)).toNat=i from rfl,X0 _ _ _ hi]) 0 () (by omega) trivial).trans (by simp)
theorem X9d (f:ZS) (l:List Zt):((X2S f).2.2≠0\/8<l.length)/\X2y (l,f)=some (.inl (XP f l).2)/\(XP f l).2≠0 ∨
  ∃kit,X2E f/\l.length<=8/\Kit f kit/\X2y (l,f)=some (.inr ((XP f l).2,f,l,kit,[])):=by
 rw[X6C];unfold X2j;rw[X6W];unfold X2J;rw[X92];unfold XP;simp only[jS]
 by_cases h:(X2S f).2.2=0
 ·have c:=X7V h;simp only[h,jk,jA,ne_eq,not_true,if_false]
  by_cases h8:8<l.length
  ·have:decide ((l.length:Int)>8)=true:=by simp;omega
   rw[this];simp[h8]
  ·have:decide ((l.length:Int)>8)=false:=by simp;omega
   rw[this];simp only[jA,h8,if_false];obtain⟨kit,b,a⟩:=XaS f c.inst.2;refine .inr ⟨kit,c,by omega,a,?_⟩
   rw[b,jS];rw[XaE c l (by omega) a]
   by_cases he:(W2 f 0 l).2=0<;>simp[he]
 ·left;simp[h,Wk h]
theorem X8g {β σ ω γ:Type} (st:σ->Option (σ⊕ω)) (k:ω->Option γ) (n:Nat) (emb:Nat->β->σ) (P:Nat->β->Prop) (Q:Nat->β->Option γ->Prop)
  (d:∀b,P n b->∀R:σ->Option γ,Q n b (Option.bind (st (emb n b)) (Sum.elim R k)))
  (e:∀i b,i<n->P i b->∀R:σ->Option γ,(∀b',P (i+1) b'->Q (i+1) b' (R (emb (i+1) b')))->Q i b (Option.bind (st (emb i b)) (Sum.elim R k))) :
  ∀i b,i<=n->P i b->Q i b (Option.bind (Z9t st (emb i b)) k):=by
 intro i b hi c
 induction hj:n-i generalizing i b with
 | zero =>
  have:i=n:=by omega
  subst this;rw[X2o];exact d b c _
 | succ j ih =>
  rw[X2o];exact e i b (by omega) c _ fun b' a=>ih (i+1) b' (by omega) a (by omega)
instance decPoint:DecidableEq Point:=fun a b=>decidable_of_iff (a.X=b.X/\a.Y=b.Y) ⟨fun h=>Point.ext h.1 h.2,fun h=>by subst h;exact⟨rfl,rfl⟩⟩
def X5z (v:Point):Int×Point :=
 if 0<=v.X/\0<v.Y then(0,v)else if 0<v.X/\v.Y<=0 then(8,⟨-v.Y,v.X⟩)else if v.X<=0/\v.Y<0 then(16,⟨-v.X,-v.Y⟩)else(24,⟨v.Y,-v.X⟩)
def X7:List Point:=[⟨0,1000⟩,⟨195,981⟩,⟨383,924⟩,⟨556,831⟩,⟨707,707⟩,⟨831,556⟩,⟨924,383⟩,⟨981,195⟩]
def X7F (v:Point) (l:List Point):Nat:=l.countP fun q=>decide (q.X*v.Y-q.Y*v.X<=0)
def X2m (v:Point):Int:=(X5z v).1+(X7F (X5z v).2 X7:Nat)-1
theorem Xax {v:Point} (b : -60000<=v.X/\v.X<=60000 /\ -60000<=v.Y/\v.Y<=60000) (a:¬(v.X=0/\v.Y=0)):0<=(X5z v).1/\(X5z v).1<=24/\0<=(X5z v).2.X/\(X5z v).2.X<=60000/\0<(X5z v).2.Y/\(X5z v).2.Y<=60000:=by
 unfold X5z;split
 ·simp only;omega
 ·split
  ·simp only;omega
  ·split<;>simp only<;>omega
theorem X9p {γ:Type} (v:Point) (b : -60000<=v.X/\v.X<=60000 /\ -60000<=v.Y/\v.Y<=60000) (a:¬(v.X=0/\v.Y=0)) (k:Int×Point->Option γ) :
  Option.bind (X24 (0,v)) k=k (X5z v):=by
 obtain⟨x,y⟩:=v;simp only at b a;have stop:∀(n:Int) (x y:Int),0<=x->0<y->Option.bind (Z9t Xb (n,⟨x,y⟩)) k=k (n,⟨x,y⟩):=fun n x y i hy=>by
  rw[X2o];have e1:decide (x<0)=false:=by simp;omega
  have e2:decide (y<=0)=false:=by simp;omega
  simp only[Xb,XF,e1,e2,jA,jS,jw]
 have go:∀(n:Int) (x y:Int),0<=n->n<=24 -> -60000<=x->x<=60000 -> -60000<=y->y<=60000->(x<0\/y<=0)->Option.bind (Z9t Xb (n,⟨x,y⟩)) k=Option.bind (Z9t Xb (n+8,⟨-y,x⟩)) k:=fun n x y c e g h f j d=>by
  rw[X2o];have w1:IntKind.wrap .i64 (n+8)=n+8:=by rw[w64]<;>omega
  have w2:IntKind.wrap .i64 (0-y) = -y:=by rw[w64]<;>omega
  by_cases e1:x<0
  ·simp only[Xb,XF,e1,decide_true,jB,jS,jz,w1,w2]
  ·have e2:y<=0:=by omega
   simp only[Xb,XF,e1,e2,decide_true,decide_false,jB,jA,jS,jz,w1,w2]
 unfold X24 X5z;simp only
 by_cases c1:0<=x/\0<y
 ·rw[if_pos c1];exact stop _ _ _ c1.1 c1.2
 ·rw[if_neg c1]
  by_cases c2:0<x/\y<=0
  ·rw[if_pos c2,go 0 x y (by omega) (by omega) (by omega) (by omega) (by omega) (by omega) (by omega)]
   exact stop _ _ _ (by omega) (by omega)
  ·rw[if_neg c2]
   by_cases c3:x<=0/\y<0
   ·rw[if_pos c3,go 0 x y (by omega) (by omega) (by omega) (by omega) (by omega) (by omega) (by omega),go _ _ _ (by omega) (by omega) (by omega) (by omega) (by omega) (by omega) (by omega)]
    exact stop _ _ _ (by omega) (by omega)
   ·rw[if_neg c3,go 0 x y (by omega) (by omega) (by omega) (by omega) (by omega) (by omega) (by omega),go _ _ _ (by omega) (by omega) (by omega) (by omega) (by omega) (by omega) (by omega),go _ _ _ (by omega) (by omega) (by omega) (by omega) (by omega) (by omega) (by omega)]
    rw[show(- - y:Int)=y by omega]
    exact stop _ _ _ (by omega) (by omega)
theorem X9q {γ:Type} (q:Nat->Point) (e:∀i,(h:i<8)->q i=X7[i]) (v:Point) (l:0<=v.X/\v.X<=60000/\0<=v.Y/\v.Y<=60000) (n:Int) (m:0<=n/\n<=24) (k:Int->Option γ) :
  Option.bind (X3r q v (n,0)) k=k (n+(X7F v X7:Nat)):=by
 refine(X5 (Wd q v) k 8 (fun i (b:Int)=>(b,(i:Int))) (fun i b=>0<=b/\b<=24+i) (fun i b=>k (b+(X7F v (X7.drop i):Nat))) ?_ ?_ 0 n (by omega) (by omega)).trans (by simp)
 ·intro b _ R;simp[Wd,Wu,X7F,X7]
 ·intro i b hi j R c;simp only[Wd,Wu];rw[jb (show i<X7.length from hi)];have f:=wS i (by omega)
  have d:IntKind.wrap .i64 (b+1)=b+1:=by rw[w64]<;>omega
  have e1:decide ((i:Int)<8)=true:=by simp;omega
  have e2:=z0S i;have e3:decide ((i:Int)<((8:Nat):Int))=true:=by simp;omega
  have g:0<=(X7[i]'hi).X/\(X7[i]'hi).X<=1000/\0<=(X7[i]'hi).Y/\(X7[i]'hi).Y<=1000:=by
   have:i=0\/i=1\/i=2\/i=3\/i=4\/i=5\/i=6\/i=7:=by omega
   rcases this with rfl|rfl|rfl|rfl|rfl|rfl|rfl|rfl<;>simp[X7]
  have b1:=X1I (a:=(X7[i]'hi).X) (b:=v.Y) 1000 60000 (by omega) (by omega) (by omega) (by omega)
  have b2:=X1I (a:=(X7[i]'hi).Y) (b:=v.X) 1000 60000 (by omega) (by omega) (by omega) (by omega)
  simp only[kS,e i hi,f,d];rw[w64 (x:=(X7[i]'hi).X*v.Y) (by omega) (by omega),w64 (x:=(X7[i]'hi).Y*v.X) (by omega) (by omega),w64 (x:=(X7[i]'hi).X*v.Y-_) (by omega) (by omega)]
  simp only[e1,e2,e3,ju,jB];unfold X7F at c⊢;generalize X7[i]'hi=Q at *
  by_cases h:Q.X*v.Y-Q.Y*v.X<=0
  ·rw[List.countP_cons_of_pos (by simpa using h)]
   simp only[h,decide_true,jB,jS,jz];rw[c (b+1) (by omega)]
   congr 1
   push_cast
   omega
  ·rw[List.countP_cons_of_neg (by simpa using h)]
   simp only[h,decide_false,jA,jS,jz];exact c b (by omega)
theorem X63 (v:Point) (b : -60000<=v.X/\v.X<=60000 /\ -60000<=v.Y/\v.Y<=60000) (a:¬(v.X=0/\v.Y=0)):X3f v=some (X2m v):=by
 rw[X6A];unfold X2f;have c:=Xax b a;rw[X9p v b a,X9q _ (fun i hi=>by
   have:i=0\/i=1\/i=2\/i=3\/i=4\/i=5\/i=6\/i=7:=by omega
   rcases this with rfl|rfl|rfl|rfl|rfl|rfl|rfl|rfl<;>rfl) _ (by omega) _ (by omega)]
 have hc:X7F (X5z v).2 X7<=8:=List.countP_le_length (l:=X7);unfold X2m;rw[w64 (by omega) (by omega)]
theorem X82 {v:Point} (b : -60000<=v.X/\v.X<=60000 /\ -60000<=v.Y/\v.Y<=60000) (a:¬(v.X=0/\v.Y=0)):0<=X2m v/\X2m v<=31:=by
 have c:=Xax b a;have hc:X7F (X5z v).2 X7<=8:=List.countP_le_length (l:=X7);have d:1<=X7F (X5z v).2 X7:=by
  unfold X7F X7;rw[List.countP_cons_of_pos (by simp;omega)]
  omega
 unfold X2m;omega
def X59 (f:ZS) (mark:Int) (p:Point):Int×Int :=
 if X2Y f mark=false then(0,9)else if X3g 30000 p then(0,7)else if(ZgB f mark).At=p then(0,8)else(X2m (X1 (ZgB f mark).At p),0)
def X4u (f:ZS) (mark:Int) (p:Point):Int:=if(X59 f mark p).2≠0 then -1 else(X59 f mark p).1
theorem X7Z {f:ZS} (b:X2E f) {mark:Int} (c:0<=mark) (d:mark<f.Hz9.Hz8.length):Bd 30000 (ZgB f mark).At:=by
 have a:mark.toNat<f.Hz9.Hz8.length:=by omega
 have:=(b.mark _ (jo a)).1;rw[X5M]at this;unfold ZgB;rw[X0 _ _ _ a];exact this
theorem X6O {f:ZS} (d:X2E f) (mark:Int) (b:0<=mark) (c:mark<f.Hz9.Hz8.length) (p:Point):X5l f.Hz9 f.Day mark p=some (X59 f mark p):=by
 rw[X7o];unfold X33 X59;rw[X43];unfold Wc;rw[X4x d mark b c];have e:=X7Z d b c;unfold X2Y ZgB at *;generalize hM:f.Hz9.Hz8.getD mark.toNat ⟨ByteArray.empty,⟨0,0⟩,[]⟩=M at *;simp only[jS,beq_self_eq_true,jB]
 by_cases hp:X4L M f.Day=0
 ·simp[hp]
 ·simp only[X3v hp,jA,jS,jk,Wk hp,Bool.true_eq_false,if_false];rw[X5d _ (by omega) _ (by simp)]
  simp only[jS,List.any_cons,List.any_nil,Bool.or_false];cases hf:X3g 30000 p
  ·rw[X5M]at hf;unfold Bd at e hf;simp only[jA,jg,if_false,Bool.and_true]
   by_cases he:M.At=p
   ·subst he;simp
   ·have:(M.At.X==p.X&&M.At.Y==p.Y)=false:=by
     cases hc:(M.At.X==p.X&&M.At.Y==p.Y)
     ·rfl
     ·exfalso;simp at hc;exact he (Point.ext hc.1 hc.2)
    rw[this,if_neg he];simp only[jA];rw[w64 (x:=M.At.X-p.X) (by omega) (by omega),w64 (x:=M.At.Y-p.Y) (by omega) (by omega)]
    have a:¬(M.At.X-p.X=0/\M.At.Y-p.Y=0):=fun q=>he (Point.ext (by omega) (by omega))
    rw[X63 _ (by simp only;omega) a]
    rfl
  ·simp
theorem Xay {f:ZS} (d:X2E f) {mark:Int} (a:0<=mark) (b:mark<f.Hz9.Hz8.length) (p:Point) : -1<=X4u f mark p/\X4u f mark p<=31:=by
 have c:=X7Z d a b;unfold X4u X59
 by_cases h:X2Y f mark=false
 ·simp[h]
 ·rw[if_neg h]
  by_cases h3:X3g 30000 p=true
  ·simp[h3]
  ·rw[if_neg h3]
   by_cases h4:(ZgB f mark).At=p
   ·simp[h4]
   ·rw[if_neg h4];simp only[Bool.not_eq_true]at h3;rw[X5M]at h3;unfold Bd at c h3;have:=X82 (v:=X1 (ZgB f mark).At p) (by unfold X1;simp only;omega) (fun q=>h4 (by unfold X1 at q;simp only at q;exact Point.ext (by omega) (by omega)))
    simp only[ne_eq,not_true,if_false];omega
theorem X6q (a b:Zn):Zn.eqb a b=true↔a=b:=by
 obtain⟨m,⟨x,y⟩⟩:=a;obtain⟨m',⟨x',y'⟩⟩:=b;simp[Zn.eqb]
theorem X8r {v:Int} (s k:Zn):∀m:List (Zn×Int),Z99 Zn.eqb s (ZhH Zn.eqb k v m)=bif Zn.eqb s k then some v else Z99 Zn.eqb s m
 | []=>by
  simp only[ZhH,Z99]
 | (a,b)::m=>by
  have ih:=X8r (v:=v) s k m;simp only[ZhH];have sym:∀x y,Zn.eqb x y=Zn.eqb y x:=fun x y=>by
   cases h:Zn.eqb y x with
   | true=>rw[(X6q _ _).1 h,(X6q x x).2 rfl]
   | false=>cases h2:Zn.eqb x y with
    | false=>rfl
    | true=>rw[(X6q _ _).1 h2,(X6q y y).2 rfl]at h;cases h
  cases e:Zn.eqb a k with
  | true =>
   have:=(X6q _ _).1 e;subst this;simp only[e,jB,Z99];cases Zn.eqb s a<;>rfl
  | false =>
   have e6:Zn.eqb k a=false:=by rw[sym];exact e
   simp only[e,e6,jA,Z99,ih];cases h:Zn.eqb s k with
   | true =>
    have:=(X6q _ _).1 h;subst this;simp[e,e6]
   | false=>rfl
def X2r (f:ZS) (m:List (Zn×Int)):Prop:=∀(mark:Int) p n,0<=mark->mark<f.Hz9.Hz8.length->Z99 Zn.eqb ⟨mark,p⟩ m=some n->n=X4u f mark p
theorem X8D (f:ZS):X2r f []:=fun _ _ _ _ _ h=>by cases h
theorem Xa6 {f:ZS} (h:X2E f) {mark:Int} (d:0<=mark) (g:mark<f.Hz9.Hz8.length) (p:Point) (l:List Zt) (kit:Nat->Nat) {m:List (Zn×Int)} (c:X2r f m) :
  ∃m',X2r f m'/\W0 (mark,p,f,l,kit,m)=some (X4u f mark p,f,l,kit,m'):=by
 rw[X4e];unfold XK;cases hf:Z99 Zn.eqb ⟨mark,p⟩ m with
 | some n=>exact⟨m,c,by simp only[hf,Option.isSome_some,Bool.not_true,jA,Option.getD_some];rw[c _ _ _ d g hf]⟩
 | none =>
  simp only[hf,Option.isSome_none,Bool.not_false,jB];rw[X6O h mark d g];have put:∀v,v=X4u f mark p->X2r f (ZhH Zn.eqb ⟨mark,p⟩ v m):=fun v hv mk q n k0 k1 a=>by
   rw[X8r]at a;cases e:Zn.eqb ⟨mk,q⟩ ⟨mark,p⟩with
   | true =>
    rw[e]at a;cases(X6q _ _).1 e;cases a;exact hv
   | false =>
    rw[e]at a;exact c _ _ _ k0 k1 a
  simp only[jS]
  by_cases he:(X59 f mark p).2=0
  ·have b:X4u f mark p=(X59 f mark p).1:=by unfold X4u;rw[if_neg (by simp[he])]
   refine⟨_,put _ b.symm,?_⟩;simp only[he,jk,jA,b]
  ·have b:X4u f mark p = -1:=by unfold X4u;rw[if_pos he]
   refine⟨_,put _ b.symm,?_⟩;simp only[Wk he,jB,b]
def Xb2 (shown Z6e:Int):Int:=if(shown-Z6e+32) % 32>16 then(shown-Z6e+32) % 32-32 else(shown-Z6e+32) % 32
def X4V (a:Zz) (p:Point):Bool := !X4 a.X.Lo a.X.Hi [p.X] && !X4 a.Y.Lo a.Y.Hi [p.Y]
def X7E (f:ZS) (p:Point):Option Zz:=f.Hz7.find? fun a=>X4V a p
def X2R (f:ZS) (p:Point) (x:Zt):ZN×Bool :=
 if(X4j f x.Hz1).Lead then(match X7E f p with
  | none=>(⟨-20,20⟩,true)
  | some a=>(⟨x.Hz6-a.Hza.Hi,x.Hz6-a.Hza.Lo⟩,x.Hz5==0||x.Hz5==a.Hz5))
 else(⟨Xb2 x.Hz6 (X4u f x.Mark p),Xb2 x.Hz6 (X4u f x.Mark p)⟩,decide (X4u f x.Mark p>=0))
theorem X87 {f:ZS} {x:Zt} (h:X1Z f x=0):(0<=x.Hz1/\x.Hz1<f.Hz0.length)/\((X4j f x.Hz1).Lead=true->0<=x.Hz6/\x.Hz6<=1000/\0<=x.Hz5/\x.Hz5<=4/\x.Mark=0) ∧
  ((X4j f x.Hz1).Lead=false->0<=x.Mark/\x.Mark<f.Hz9.Hz8.length/\X2Y f x.Mark=true/\0<=x.Hz6/\x.Hz6<=31/\x.Hz5=0):=by
 unfold X1Z at h;cases h1:X4 0 ((f.Hz0.length:Int)-1) [x.Hz1]
 ·rw[h1]at h;simp only[jg,if_false]at h;simp at h1;refine⟨by omega,fun hL=>?_,fun hL=>?_⟩
  ·rw[if_pos hL]at h;cases h2:X4 0 1000 [x.Hz6]
   ·cases h3:X4 0 4 [x.Hz5]
    ·rw[h2,h3]at h;simp at h h2 h3;omega
    ·rw[h2,h3]at h;simp at h
   ·rw[h2]at h;simp at h
  ·rw[if_neg (by simp[hL])]at h
   cases h2:X4 0 ((f.Hz9.Hz8.length:Int)-1) [x.Mark]
   ·rw[h2]at h;cases h3:X2Y f x.Mark
    ·rw[h3]at h;simp at h
    ·cases h4:X4 0 31 [x.Hz6]
     ·rw[h3,h4]at h;simp at h h2 h4;exact⟨by omega,by omega,rfl,by omega,by omega,by omega⟩
     ·rw[h3,h4]at h;simp at h
   ·rw[h2]at h;simp at h
 ·rw[h1]at h;simp at h
theorem X9y {f:ZS} (c:X2E f) {x:Zt} (g:X1Z f x=0) (hL:(X4j f x.Hz1).Lead=false) (p:Point) (l:List Zt) (kit:Nat->Nat) {m:List (Zn×Int)} (e:X2r f m) :
  ∃m',X2r f m'/\Xr (p,x,f,l,kit,m)=some ((X2R f p x).1,(X2R f p x).2,f,l,kit,m'):=by
 obtain⟨h,_,a⟩:=X87 g;have a:=a hL;obtain⟨m',b,ht⟩:=Xa6 c a.1 a.2.1 p l kit e;refine⟨m',b,?_⟩;rw[X4g];unfold XM X2R Xb2;rw[ht,if_neg (by simp[hL])]
 have i:=Xay c a.1 a.2.1 p;generalize X4u f x.Mark p=s at *;simp only[jS];rw[w64 (x:=x.Hz6-s) (by omega) (by omega),w64 (x:=x.Hz6-s+32) (by omega) (by omega)]
 have ht:(x.Hz6-s+32).tmod 32=(x.Hz6-s+32) % 32:=Int.tmod_eq_emod_of_nonneg (by omega)
 rw[ht]
 by_cases hc:(x.Hz6-s+32) % 32>16
 ·have d:IntKind.wrap .i64 ((x.Hz6-s+32) % 32-32)=(x.Hz6-s+32) % 32-32:=by rw[w64]<;>omega
  simp only[hc,decide_true,jB,if_true,d]
 ·simp only[hc,decide_false,jA,if_false]
theorem Xav {a:Zz} (h:X5J a=0):0<=a.Hza.Lo/\a.Hza.Lo<=a.Hza.Hi/\a.Hza.Hi<=1000/\a.X.Lo<=a.X.Hi/\a.Y.Lo<=a.Y.Hi/\1<=a.Hz5/\a.Hz5<=4:=by
 unfold X5J at h;cases h1:(X4 (-30000) 30000 [a.X.Lo,a.X.Hi,a.Y.Lo,a.Y.Hi]||X4 0 1000 [a.Hza.Lo,a.Hza.Hi]||X4 1 4 [a.Hz5])
 ·rw[h1]at h;simp at h h1;omega
 ·rw[h1]at h;simp at h
theorem XaT {f:ZS} (d:X2E f) {x:Zt} (k:X1Z f x=0) (hL:(X4j f x.Hz1).Lead=true) (p:Point) (l:List Zt) (kit:Nat->Nat) (m:List (Zn×Int)) :
  We (p,x,f,l,kit,m)=some ((X2R f p x).1,(X2R f p x).2,f,l,kit,m):=by
 obtain⟨n,e,_⟩:=X87 k;have e:=e hL;rw[X52];unfold Wv X2R;rw[if_pos hL];have o:=d.areas;refine(X5 (Xm (↑f.Hz7.length) f.Hz7 p) _ f.Hz7.length (fun i (_:Unit)=>(i:Int)) (fun _ _=>True) (fun i _=>match(f.Hz7.drop i).find? fun a=>X4V a p with
   | none=>some (⟨-20,20⟩,true,f,l,kit,m)
   | some a=>some (⟨x.Hz6-a.Hza.Hi,x.Hz6-a.Hza.Lo⟩,x.Hz5==0||x.Hz5==a.Hz5,f,l,kit,m)) ?_ ?_ 0 () (by omega) trivial).trans ?_
 ·intro b _ R;simp[Xm,Xy]
 ·intro i b hi _ R h;have c:=h () trivial;have g:=Xav (d.area _ (jo hi));simp only[Xm,Xy];rw[jb hi,List.find?_cons];have j:=wS i (by omega)
  simp only[kS,X0 _ _ _ hi,j];rw[X2 _ _ _ (by simp),X2 _ _ _ (by simp)]
  have e1:decide ((i:Int)<↑f.Hz7.length)=true:=by simp[hi]
  have e2:=z0S i;have e3:decide ((i:Int)<0)=false:=by simp
  simp only[e1,e2,ju,jB,jS];have w1:IntKind.wrap .i64 (x.Hz6-f.Hz7[i].Hza.Hi)=x.Hz6-f.Hz7[i].Hza.Hi:=by rw[w64]<;>omega
  have w2:IntKind.wrap .i64 (x.Hz6-f.Hz7[i].Hza.Lo)=x.Hz6-f.Hz7[i].Hza.Lo:=by rw[w64]<;>omega
  cases o1:X4 f.Hz7[i].X.Lo f.Hz7[i].X.Hi [p.X]
  ·cases o2:X4 f.Hz7[i].Y.Lo f.Hz7[i].Y.Hi [p.Y]
   ·have:X4V f.Hz7[i] p=true:=by unfold X4V;rw[o1,o2];rfl
    simp only[this,Bool.not_false,jB,jS,jw,jz,e3,jA,e1,e2,ju,kS,X0 _ _ _ hi,w1,w2]
    by_cases hG:x.Hz5=0
    ·simp[hG]
    ·simp[X3v hG]
   ·have:X4V f.Hz7[i] p=false:=by unfold X4V;rw[o1,o2];rfl
    simp only[this,Bool.not_false,Bool.not_true,jB,jA,jS,jz];exact c
  ·have:X4V f.Hz7[i] p=false:=by unfold X4V;rw[o1];rfl
   simp only[this,Bool.not_true,jA,jS,jz];exact c
 ·simp only[List.drop_zero,X7E];cases f.Hz7.find? fun a=>X4V a p<;>rfl
def X5b (p:Nat):Point:=⟨Geo.vx p,Geo.vy p⟩
theorem Xaz:∀p,p<32 -> -1000<=Geo.vx p/\Geo.vx p<=1000 /\ -1000<=Geo.vy p/\Geo.vy p<=1000:=by decide
theorem Xb9 {a:Int} (h : -1000000<=a/\a<=1000000):IntKind.wrap .i64 (0-a) = -a:=by rw[w64]<;>omega
theorem Xb8 (q:Nat):∀p,p<32->p / 8=q->(∀n r,Z90 X8 n ((p:Int),())=some r->r=X5b p)/\(∃n r,Z90 X8 n ((p:Int),())=some r):=by
 have base:∀p:Nat,p<8->∀n,Z90 X8 (n+1) ((p:Int),())=some (X5b p):=fun p f n=>by
  have e:∀p,p<8->(List.getD [Point.mk 0 1000,Point.mk 195 981,Point.mk 383 924,Point.mk 556 831,Point.mk 707 707,Point.mk 831 556,Point.mk 924 383,Point.mk 981 195] p (Point.mk 0 0)).X=Geo.vx p/\(List.getD [Point.mk 0 1000,Point.mk 195 981,Point.mk 383 924,Point.mk 556 831,Point.mk 707 707,Point.mk 831 556,Point.mk 924 383,Point.mk 981 195] p (Point.mk 0 0)).Y=Geo.vy p:=by decide
  have e':=e p f;simp only[Z90,X8,X2W,kS];have c:decide ((p:Int)>=8)=false:=by simp;omega
  rw[c];generalize List.getD _ p _=g at *;have d:decide ((0:Int)<=(p:Int))=true:=by simp
  have j:decide ((p:Int)<((8:Nat):Int))=true:=by simp;omega
  have k:Nat.blt p 8=true:=by simp[Nat.blt,Nat.ble_eq];omega
  simp only[jA,List.length_cons,List.length_nil,Nat.zero_add,Nat.reduceAdd];rw[d,j,k];simp only[ju,jB,X5b,jh];cases g;simp only[Point.mk.injEq];exact e'
 induction q with
 | zero =>
  intro p f i;have b:p<8:=by omega
  refine⟨fun n r h=>?_,⟨1,_,base p b 0⟩⟩;cases n with
  | zero=>simp[Z90]at h
  | succ n=>rw[base p b n]at h;exact(Option.some.inj h).symm
 | succ q ih =>
  intro p f i;obtain⟨i1,m,s,i2⟩:=ih (p-8) (by omega) (by omega)
  have a:∀n,Z90 X8 (n+1) ((p:Int),())=Option.bind (Z90 X8 n (((p-8:Nat):Int),())) fun v=>some ⟨v.Y,IntKind.wrap .i64 (0-v.X)⟩:=fun n=>by
   simp only[Z90,X8,X2W];have c:decide ((p:Int)>=8)=true:=by simp;omega
   have d:IntKind.wrap .i64 ((p:Int)-8)=((p-8:Nat):Int):=by rw[w64]<;>omega
   rw[c,d];rfl
  have tt:(⟨(X5b (p-8)).Y,-(X5b (p-8)).X⟩:Point)=X5b p:=by
   have e:∀p,p<24->Geo.vy p=Geo.vx (p+8) /\ - Geo.vx p=Geo.vy (p+8):=by decide
   have e':=e (p-8) (by omega)
   rw[show p-8+8=p by omega]at e'
   simp only[X5b,Point.mk.injEq];exact e'
  have bd:=Xaz (p-8) (by omega)
  have wv:IntKind.wrap .i64 (0-(X5b (p-8)).X) = - (X5b (p-8)).X:=Xb9 (by simp only[X5b];omega)
  refine⟨fun n r h=>?_,⟨m+1,X5b p,?_⟩⟩
  ·cases n with
   | zero=>simp[Z90]at h
   | succ n =>
    rw[a]at h;cases hr:Z90 X8 n (((p-8:Nat):Int),())with
    | none=>rw[hr]at h;simp at h
    | some v =>
     rw[hr]at h;have:=i1 n v hr;subst this;simp only[jS,jh]at h;rw[<-h,wv,tt]
  ·rw[a,i2];have:=i1 m s i2;subst this;simp only[jS,wv,tt]
theorem X2V (p:Nat) (b:p<32):X4G (p:Int)=some (X5b p):=by
 obtain⟨a,c⟩:=Xb8 (p / 8) p b rfl;exact ZiN a c
theorem X9j (p:Nat) (a:p<32) (v:Point) (hv:Bd 60000 v):IntKind.wrap .i64 (IntKind.wrap .i64 ((X5b p).X*v.Y)-IntKind.wrap .i64 ((X5b p).Y*v.X))=Geo.crs p v.X v.Y:=by
 have bd:=Xaz p a;unfold Bd at hv;rw[X8c 2000000 rfl (by simp only[X5b];omega) (by omega) (by simp only[X5b];omega) (by omega)]
 rfl
theorem X8d (v:Point) (hv:Bd 60000 v) (f:v.X≠0\/v.Y≠0):X1i v=some ((Geo.tow v.X v.Y:Nat):Int):=by
 have ht:=Geo.tow_spec f;unfold X1i;have key:=X5 (Wg v) (fun o224=>some o224) (Geo.tow v.X v.Y) (fun i (_:Unit)=>(i:Int)) (fun _ _=>True) (fun _ _=>some ((Geo.tow v.X v.Y:Nat):Int))
  (by
   intro b _ R;simp only[Wg,Wy];generalize ht':Geo.tow v.X v.Y=t at *;have d:=wS t (by omega)
   have e:Int.tmod ((t+1:Nat):Int) 32=(((t+1) % 32:Nat):Int):=rfl;rw[d,e,X2V _ ht.1,X2V _ (by omega)]
   simp only[jS];rw[X9j _ ht.1 v hv,X9j _ (by omega) v hv]
   have a1:decide (Geo.crs t v.X v.Y>0)=false:=by simpa using ht.2.1
   have a2:decide (Geo.crs ((t+1) % 32) v.X v.Y<=0)=false:=by simpa using ht.2.2
   simp[a1,a2])
  (by
   intro i b hi _ R g;have c:=g () trivial;simp only[Wg,Wy];have a:i<32:=by omega
   have d:=wS i (by omega)
   have e:Int.tmod ((i+1:Nat):Int) 32=(((i+1) % 32:Nat):Int):=rfl;rw[d,e,X2V _ a,X2V _ (by omega)]
   simp only[jS];rw[X9j _ a v hv,X9j _ (by omega) v hv]
   by_cases a1:Geo.crs i v.X v.Y>0
   ·simp[a1];simpa using c
   ·by_cases a2:Geo.crs ((i+1) % 32) v.X v.Y<=0
    ·simp[a1,a2];simpa using c
    ·exfalso;have:Geo.Tow i v.X v.Y:=⟨by omega,by omega⟩
     have:=Geo.tow_eq a this;omega)
 exact key 0 () (by omega) trivial
theorem X7i {X Y:Int} (a:0<=X) (hy:0<Y):Geo.tow X Y+1=X7F ⟨X,Y⟩ X7/\1<=X7F ⟨X,Y⟩ X7/\X7F ⟨X,Y⟩ X7<=8:=by
 unfold X7F X7;have c0:Geo.crs 0 X Y=0*Y-1000*X:=rfl;have c1:Geo.crs 1 X Y=195*Y-981*X:=rfl;have c2:Geo.crs 2 X Y=383*Y-924*X:=rfl;have c3:Geo.crs 3 X Y=556*Y-831*X:=rfl;have c4:Geo.crs 4 X Y=707*Y-707*X:=rfl;have c5:Geo.crs 5 X Y=831*Y-556*X:=rfl;have c6:Geo.crs 6 X Y=924*Y-383*X:=rfl;have c7:Geo.crs 7 X Y=981*Y-195*X:=rfl;have c8:Geo.crs 8 X Y=1000*Y-0*X:=rfl
 by_cases h1:195*Y-981*X<=0
 rotate_left
 ·have ht:Geo.tow X Y=0:=Geo.tow_eq (by omega) ⟨by omega,by show Geo.crs 1 X Y>0;omega⟩
  have d0:decide ((0:Int)*Y-1000*X<=0)=true:=by simp;omega
  have d1:decide ((195:Int)*Y-981*X<=0)=false:=by simp;omega
  have d2:decide ((383:Int)*Y-924*X<=0)=false:=by simp;omega
  have d3:decide ((556:Int)*Y-831*X<=0)=false:=by simp;omega
  have d4:decide ((707:Int)*Y-707*X<=0)=false:=by simp;omega
  have d5:decide ((831:Int)*Y-556*X<=0)=false:=by simp;omega
  have d6:decide ((924:Int)*Y-383*X<=0)=false:=by simp;omega
  have d7:decide ((981:Int)*Y-195*X<=0)=false:=by simp;omega
  rw[ht];simp[List.countP_cons,d0,d1,d2,d3,d4,d5,d6,d7,show 0<=1000*X by omega]
 by_cases h2:383*Y-924*X<=0
 rotate_left
 ·have ht:Geo.tow X Y=1:=Geo.tow_eq (by omega) ⟨by omega,by show Geo.crs 2 X Y>0;omega⟩
  have d0:decide ((0:Int)*Y-1000*X<=0)=true:=by simp;omega
  have d1:decide ((195:Int)*Y-981*X<=0)=true:=by simp;omega
  have d2:decide ((383:Int)*Y-924*X<=0)=false:=by simp;omega
  have d3:decide ((556:Int)*Y-831*X<=0)=false:=by simp;omega
  have d4:decide ((707:Int)*Y-707*X<=0)=false:=by simp;omega
  have d5:decide ((831:Int)*Y-556*X<=0)=false:=by simp;omega
  have d6:decide ((924:Int)*Y-383*X<=0)=false:=by simp;omega
  have d7:decide ((981:Int)*Y-195*X<=0)=false:=by simp;omega
  rw[ht];simp[List.countP_cons,d0,d1,d2,d3,d4,d5,d6,d7,show 0<=1000*X by omega]
 by_cases h3:556*Y-831*X<=0
 rotate_left
 ·have ht:Geo.tow X Y=2:=Geo.tow_eq (by omega) ⟨by omega,by show Geo.crs 3 X Y>0;omega⟩
  have d0:decide ((0:Int)*Y-1000*X<=0)=true:=by simp;omega
  have d1:decide ((195:Int)*Y-981*X<=0)=true:=by simp;omega
  have d2:decide ((383:Int)*Y-924*X<=0)=true:=by simp;omega
  have d3:decide ((556:Int)*Y-831*X<=0)=false:=by simp;omega
  have d4:decide ((707:Int)*Y-707*X<=0)=false:=by simp;omega
  have d5:decide ((831:Int)*Y-556*X<=0)=false:=by simp;omega
  have d6:decide ((924:Int)*Y-383*X<=0)=false:=by simp;omega
  have d7:decide ((981:Int)*Y-195*X<=0)=false:=by simp;omega
  rw[ht];simp[List.countP_cons,d0,d1,d2,d3,d4,d5,d6,d7,show 0<=1000*X by omega]
 by_cases h4:707*Y-707*X<=0
 rotate_left
 ·have ht:Geo.tow X Y=3:=Geo.tow_eq (by omega) ⟨by omega,by show Geo.crs 4 X Y>0;omega⟩
  have d0:decide ((0:Int)*Y-1000*X<=0)=true:=by simp;omega
  have d1:decide ((195:Int)*Y-981*X<=0)=true:=by simp;omega
  have d2:decide ((383:Int)*Y-924*X<=0)=true:=by simp;omega
  have d3:decide ((556:Int)*Y-831*X<=0)=true:=by simp;omega
  have d4:decide ((707:Int)*Y-707*X<=0)=false:=by simp;omega
  have d5:decide ((831:Int)*Y-556*X<=0)=false:=by simp;omega
  have d6:decide ((924:Int)*Y-383*X<=0)=false:=by simp;omega
  have d7:decide ((981:Int)*Y-195*X<=0)=false:=by simp;omega
  rw[ht];simp[List.countP_cons,d0,d1,d2,d3,d4,d5,d6,d7,show 0<=1000*X by omega]
 by_cases h5:831*Y-556*X<=0
 rotate_left
 ·have ht:Geo.tow X Y=4:=Geo.tow_eq (by omega) ⟨by omega,by show Geo.crs 5 X Y>0;omega⟩
  have d0:decide ((0:Int)*Y-1000*X<=0)=true:=by simp;omega
  have d1:decide ((195:Int)*Y-981*X<=0)=true:=by simp;omega
  have d2:decide ((383:Int)*Y-924*X<=0)=true:=by simp;omega
  have d3:decide ((556:Int)*Y-831*X<=0)=true:=by simp;omega
  have d4:decide ((707:Int)*Y-707*X<=0)=true:=by simp;omega
  have d5:decide ((831:Int)*Y-556*X<=0)=false:=by simp;omega
  have d6:decide ((924:Int)*Y-383*X<=0)=false:=by simp;omega
  have d7:decide ((981:Int)*Y-195*X<=0)=false:=by simp;omega
  rw[ht];simp[List.countP_cons,d0,d1,d2,d3,d4,d5,d6,d7,show 0<=1000*X by omega]
 by_cases h6:924*Y-383*X<=0
 rotate_left
 ·have ht:Geo.tow X Y=5:=Geo.tow_eq (by omega) ⟨by omega,by show Geo.crs 6 X Y>0;omega⟩
  have d0:decide ((0:Int)*Y-1000*X<=0)=true:=by simp;omega
  have d1:decide ((195:Int)*Y-981*X<=0)=true:=by simp;omega
  have d2:decide ((383:Int)*Y-924*X<=0)=true:=by simp;omega
  have d3:decide ((556:Int)*Y-831*X<=0)=true:=by simp;omega
  have d4:decide ((707:Int)*Y-707*X<=0)=true:=by simp;omega
  have d5:decide ((831:Int)*Y-556*X<=0)=true:=by simp;omega
  have d6:decide ((924:Int)*Y-383*X<=0)=false:=by simp;omega
  have d7:decide ((981:Int)*Y-195*X<=0)=false:=by simp;omega
  rw[ht];simp[List.countP_cons,d0,d1,d2,d3,d4,d5,d6,d7,show 0<=1000*X by omega]
 by_cases h7:981*Y-195*X<=0
 rotate_left
 ·have ht:Geo.tow X Y=6:=Geo.tow_eq (by omega) ⟨by omega,by show Geo.crs 7 X Y>0;omega⟩
  have d0:decide ((0:Int)*Y-1000*X<=0)=true:=by simp;omega
  have d1:decide ((195:Int)*Y-981*X<=0)=true:=by simp;omega
  have d2:decide ((383:Int)*Y-924*X<=0)=true:=by simp;omega
  have d3:decide ((556:Int)*Y-831*X<=0)=true:=by simp;omega
  have d4:decide ((707:Int)*Y-707*X<=0)=true:=by simp;omega
  have d5:decide ((831:Int)*Y-556*X<=0)=true:=by simp;omega
  have d6:decide ((924:Int)*Y-383*X<=0)=true:=by simp;omega
  have d7:decide ((981:Int)*Y-195*X<=0)=false:=by simp;omega
  rw[ht];simp[List.countP_cons,d0,d1,d2,d3,d4,d5,d6,d7,show 0<=1000*X by omega]
 have ht:Geo.tow X Y=7:=Geo.tow_eq (by omega) ⟨by omega,by show Geo.crs 8 X Y>0;omega⟩
 have d0:decide ((0:Int)*Y-1000*X<=0)=true:=by simp;omega
 have d1:decide ((195:Int)*Y-981*X<=0)=true:=by simp;omega
 have d2:decide ((383:Int)*Y-924*X<=0)=true:=by simp;omega
 have d3:decide ((556:Int)*Y-831*X<=0)=true:=by simp;omega
 have d4:decide ((707:Int)*Y-707*X<=0)=true:=by simp;omega
 have d5:decide ((831:Int)*Y-556*X<=0)=true:=by simp;omega
 have d6:decide ((924:Int)*Y-383*X<=0)=true:=by simp;omega
 have d7:decide ((981:Int)*Y-195*X<=0)=true:=by simp;omega
 rw[ht];simp[List.countP_cons,d0,d1,d2,d3,d4,d5,d6,d7,show 0<=1000*X by omega]
theorem X9r:∀t,t<32->Geo.vx ((t+8) % 32)=Geo.vy t/\Geo.vy ((t+8) % 32) = - Geo.vx t:=by decide
theorem X7P (t:Nat) (ht:t<32) (X Y:Int):Geo.crs ((t+8) % 32) Y (-X)=Geo.crs t X Y:=by
 have h:=X9r t ht;unfold Geo.crs;rw[h.1,h.2];rw[Int.mul_neg,Int.neg_mul];omega
theorem X3l {X Y:Int} (h:X≠0\/Y≠0):Geo.tow Y (-X)=(Geo.tow X Y+8) % 32:=by
 obtain⟨a,c,b⟩:=Geo.tow_spec h;generalize Geo.tow X Y=t at *;apply Geo.tow_eq (by omega)
 refine⟨?_,?_⟩
 ·rw[X7P t a];exact c
 ·rw[show((t+8) % 32+1) % 32=((t+1) % 32+8) % 32 by omega,X7P _ (by omega)];exact b
theorem XaF {v:Point} (g : -60000<=v.X/\v.X<=60000 /\ -60000<=v.Y/\v.Y<=60000) (f:¬(v.X=0/\v.Y=0)):X2m v=((Geo.tow v.X v.Y:Nat):Int):=by
 unfold X2m X5z
 by_cases c1:0<=v.X/\0<v.Y
 ·rw[if_pos c1];have h:=X7i c1.1 c1.2;have d:X7F ⟨v.X,v.Y⟩ X7=X7F v X7:=rfl;rw[d]at h;simp only;omega
 ·rw[if_neg c1]
  by_cases c2:0<v.X/\v.Y<=0
  ·rw[if_pos c2];have c:=X7i (X := -v.Y) (Y:=v.X) (by omega) c2.1
   have a:=X3l (X := -v.Y) (Y:=v.X) (by omega)
   rw[Int.neg_neg]at a;simp only;omega
  ·rw[if_neg c2]
   by_cases c3:v.X<=0/\v.Y<0
   ·rw[if_pos c3];have c:=X7i (X := -v.X) (Y := -v.Y) (by omega) (by omega)
    have a:=X3l (X := -v.X) (Y := -v.Y) (by omega)
    have b:=X3l (X := -v.Y) (Y:=v.X) (by omega)
    rw[Int.neg_neg]at a b;simp only;omega
   ·rw[if_neg c3];have c:=X7i (X:=v.Y) (Y := -v.X) (by omega) (by omega)
    have a:=X3l (X:=v.Y) (Y := -v.X) (by omega)
    have b:=X3l (X := -v.X) (Y := -v.Y) (by omega)
    have e:=X3l (X := -v.Y) (Y:=v.X) (by omega)
    rw[Int.neg_neg]at b e;simp only;omega
theorem X8e {v:Point} (b : -60000<=v.X/\v.X<=60000 /\ -60000<=v.Y/\v.Y<=60000) (a:¬(v.X=0/\v.Y=0)):X1i v=some (X2m v):=by
 rw[X8d v (by unfold Bd;omega) (by omega),XaF b a]
def X9v (x k:Int):Bool:=IntKind.wrap IntKind.i64 (↑(BitVec.toNat (BitVec.ofInt (IntKind.bits IntKind.i64) (Int.fdiv x (2 ^ min (Int.toNat k) (IntKind.bits IntKind.i64))) &&& BitVec.ofInt (IntKind.bits IntKind.i64) 1)):Int)==1
def X5a (f:ZS) (ib mb:Int) (x:Zt):Bool:=X9v ib x.Hz1||(!(X4j f x.Hz1).Lead&&X9v mb x.Mark)
def X6g (n a:ZN):ZN:=⟨if a.Lo>n.Lo then a.Lo else n.Lo,if a.Hi<n.Hi then a.Hi else n.Hi⟩
def atL (f:ZS) (p:Point) (ib mb:Int):(Nat->ZN)->List Zt->(Nat->ZN)×Bool
 | s,[]=>(s,true)
 | s,x::l=>if X5a f ib mb x then atL f p ib mb s l else
  if(X2R f p x).2=false\/(X6g (X2R f p x).1 (s x.Hz1.toNat)).Lo>(X6g (X2R f p x).1 (s x.Hz1.toNat)).Hi then(s,false)else
  atL f p ib mb (fun j=>if j=x.Hz1.toNat then X6g (X2R f p x).1 (s x.Hz1.toNat)else s j) l
def X3m (f:ZS) (i:Nat):ZN:=if h:i<f.Hz0.length then f.Hz0[i].Off else⟨0,0⟩
def atN (f:ZS) (l:List Zt) (p:Point) (ib mb:Int):(Nat->ZN)×Bool:=atL f p ib mb (X3m f) l
theorem XaO {γ:Type} (f:ZS) (d:f.Hz0.length<=4) (x0 x2:Int) (l:List Zt) (kit:Nat->Nat) (m:List (Zn×Int)) (p:Point) (k:(Nat->ZN)->Option γ) :
  Option.bind (X2w (↑f.Hz0.length) x0 x2 f.Hz0 f l kit m p (0,fun _=>⟨0,0⟩)) k=k (X3m f):=by
 refine(X5 (Xu (↑f.Hz0.length) x0 x2 f.Hz0 f l kit m p) k f.Hz0.length (fun i (b:Nat->ZN)=>((i:Int),b)) (fun i b=>∀j,b j=if j<i then X3m f j else⟨0,0⟩) (fun _ _=>k (X3m f)) ?_ ?_ 0 _ (by omega) (fun j=>by simp))
 ·intro b a R;have:b=X3m f:=by
   funext j;rw[a]
   by_cases h:j<f.Hz0.length
   ·simp[h]
   ·simp[h,X3m]
  simp[Xu,XG,this]
 ·intro i b hi a R c;have g:=wS i (by omega)
  have e1:decide ((i:Int)<↑f.Hz0.length)=true:=by simp[hi]
  have e2:=z0S i;have e3:decide ((i:Int)<((4:Nat):Int))=true:=by simp;omega
  have e3':decide ((i:Int)<(4:Int))=true:=by simp;omega
  have e4:Nat.blt i 4=true:=by rw[Tr.blt_dec];simp;omega
  simp only[Xu,XG,kS,X0 _ _ _ hi,g,e1,e2,e3,e3',e4,ju,jB,jS,jz];refine c _ fun j=>?_;rw[Tr.beq_dec]
  by_cases e:j=i
  ·subst e;simp[X3m,hi]
  ·simp only[e,decide_false,jA,a j]
   by_cases h:j<i
   ·simp[h,show j<i+1 by omega]
   ·simp[h,show ¬j<i+1 by omega]
theorem Xb6 {f:ZS} (hg:X2E f) {l:List Zt} (hl:∀x∈l,X1Z f x=0) (hll:l.length<=8) {kit:Nat->Nat} (hk:Kit f kit) {m:List (Zn×Int)} (hm:X2r f m) (p:Point) (ib mb:Int) :
  ∃m',X2r f m'/\WV (ib,p,mb,f,l,kit,m)=some ((atN f l p ib mb).1,(atN f l p ib mb).2,f,l,kit,m'):=by
 rw[X5r];unfold X12 atN;rw[XaO f hg.inst.2];have main:=X8g (Xv ib l mb (↑l.length) p) (fun o=>Sum.elim (fun(y:Bool×(Nat->ZN)×ZS×List Zt×(Nat->Nat)×ZN×List (Zn×Int)×Zt)=>some (y.snd.fst,y.fst,y.snd.snd.fst,y.snd.snd.snd.fst,y.snd.snd.snd.snd.fst,y.snd.snd.snd.snd.snd.snd.fst)) (fun y=>Sum.elim (fun(y:Bool×(Nat->ZN)×ZS×List Zt×(Nat->Nat)×ZN×List (Zn×Int)×Zt)=>some (y.snd.fst,y.fst,y.snd.snd.fst,y.snd.snd.snd.fst,y.snd.snd.snd.snd.fst,y.snd.snd.snd.snd.snd.snd.fst)) (fun(y:(Nat->ZN)×ZS×List Zt×(Nat->Nat)×List (Zn×Int))=>some (y.fst,true,y.snd.fst,y.snd.snd.fst,y.snd.snd.snd.fst,y.snd.snd.snd.snd)) y) o) l.length
  (fun i (b:(Nat->ZN)×List (Zn×Int))=>((i:Int),b.1,f,l,kit,b.2)) (fun _ b=>X2r f b.2) (fun i b r=>∃m',X2r f m'/\r=some ((atL f p ib mb b.1 (l.drop i)).1,(atL f p ib mb b.1 (l.drop i)).2,f,l,kit,m'))
  (by
   intro b v R;refine⟨b.2,v,?_⟩;simp[Xv,XH,atL])
  (by
   intro i b hi v R hR;have hx:=hl _ (jo hi);obtain⟨x,a0⟩:∃x,l[i]=x:=⟨_,rfl⟩;rw[a0]at hx;have hgd:l.getD i ⟨0,0,0,0⟩=x:=(X0 _ _ _ hi).trans a0;obtain⟨h1,h2,h3⟩:=X87 hx;have hi4:=hg.inst.2;have hw:=wS i (by omega)
   have e1:decide ((i:Int)<↑l.length)=true:=by simp[hi]
   have e2:=z0S i;simp only[Xv,XH,kS,hgd,hw,e1,e2,ju,jB];rw[jb hi,a0];have hj:x.Hz1.toNat<f.Hz0.length:=by omega
   have i1:decide (0<=x.Hz1)=true:=by simp;omega
   have i2:decide (x.Hz1<((4:Nat):Int))=true:=by simp;omega
   have i2':decide (x.Hz1<(4:Int))=true:=by simp;omega
   have i3:Nat.blt x.Hz1.toNat 4=true:=by rw[Tr.blt_dec];simp;omega
   have i4:decide (x.Hz1<0)=false:=by simp;omega
   have k:=hk _ hj;have hio:X4j f x.Hz1=f.Hz0[x.Hz1.toNat]:=X0 _ _ _ hj;have h:∀(n a:ZN),(⟨bif decide (a.Lo>n.Lo)then a.Lo else n.Lo,bif decide (a.Hi<n.Hi)then a.Hi else n.Hi⟩:ZN)=X6g n a:=fun n a=>by
    unfold X6g
    by_cases c1:a.Lo>n.Lo<;>by_cases c2:a.Hi<n.Hi<;>simp[c1,c2]
   have u:∀(n a:ZN),(bif decide (a.Lo>n.Lo)then a.Lo else n.Lo)=(X6g n a).Lo:=fun n a=>by rw[<-h]
   have q:∀(n a:ZN),(bif decide (a.Hi<n.Hi)then a.Hi else n.Hi)=(X6g n a).Hi:=fun n a=>by rw[<-h]
   have w:∀(c:ZN) (s:Nat->ZN),(fun j=>bif Nat.beq j x.Hz1.toNat then c else s j)=fun j=>if j=x.Hz1.toNat then c else s j:=fun c s=>by
    funext j;rw[Tr.beq_dec];by_cases e:j=x.Hz1.toNat<;>simp[e]
   simp only[i1,i2,i2',i3,i4,ju,jB,jA,atL];rcases Bool.eq_false_or_eq_true (X4j f x.Hz1).Lead with hL|hL
   rotate_left
   ·rw[<-hio,hL]at k;simp only[jg,if_false]at k;have h3:=h3 hL;have i5:decide (x.Mark<0)=false:=by simp;omega
    simp only[k,show Nat.beq 1 0=false from rfl,show Nat.beq 1 1=true from rfl,jA,jB,i5];have a1:(IntKind.wrap IntKind.i64 (↑(BitVec.toNat (BitVec.ofInt (IntKind.bits IntKind.i64) (Int.fdiv ib (2 ^ min (Int.toNat x.Hz1) (IntKind.bits IntKind.i64))) &&& BitVec.ofInt (IntKind.bits IntKind.i64) 1)):Int)==1)=X9v ib x.Hz1:=rfl;have hmb:(IntKind.wrap IntKind.i64 (↑(BitVec.toNat (BitVec.ofInt (IntKind.bits IntKind.i64) (Int.fdiv mb (2 ^ min (Int.toNat x.Mark) (IntKind.bits IntKind.i64))) &&& BitVec.ofInt (IntKind.bits IntKind.i64) 1)):Int)==1)=X9v mb x.Mark:=rfl;rw[a1,hmb];rcases Bool.eq_false_or_eq_true (X9v ib x.Hz1)with d|d
    rotate_left
    ·rcases Bool.eq_false_or_eq_true (X9v mb x.Mark)with t|t
     rotate_left
     ·have g:X5a f ib mb x=false:=by unfold X5a;rw[hL,d,t];rfl
      simp only[d,t,jA,g,jg,if_false];obtain⟨m',z,hc⟩:=X9y hg hx hL p l kit v;rw[hc];simp only[jS,h,u,q,w];cases ho:(X2R f p x).2
      ·exact⟨m',z,by simp⟩
      ·by_cases hc:(X6g (X2R f p x).1 (b.1 x.Hz1.toNat)).Lo>(X6g (X2R f p x).1 (b.1 x.Hz1.toNat)).Hi
       ·exact⟨m',z,by simp[hc]⟩
       ·simp only[Bool.not_true,jA,hc,decide_false,jS,jz,Bool.true_eq_false,or_self,if_false];exact hR (_,m') z
     ·have g:X5a f ib mb x=true:=by unfold X5a;rw[hL,d,t];rfl
      simp only[d,t,jB,jA,jS,jz,g,if_true];exact hR b v
    ·have g:X5a f ib mb x=true:=by unfold X5a;rw[d];rfl
     simp only[d,jB,jS,jz,g,if_true];exact hR b v
   ·rw[<-hio,hL]at k;simp only[if_true]at k;have h2:=h2 hL;simp only[k,show Nat.beq 2 0=false from rfl,show Nat.beq 2 1=false from rfl,show Nat.beq 2 (1+1)=true from rfl,jA,jB];have a1:(IntKind.wrap IntKind.i64 (↑(BitVec.toNat (BitVec.ofInt (IntKind.bits IntKind.i64) (Int.fdiv ib (2 ^ min (Int.toNat x.Hz1) (IntKind.bits IntKind.i64))) &&& BitVec.ofInt (IntKind.bits IntKind.i64) 1)):Int)==1)=X9v ib x.Hz1:=rfl;rw[a1];rcases Bool.eq_false_or_eq_true (X9v ib x.Hz1)with d|d
    rotate_left
    ·have g:X5a f ib mb x=false:=by unfold X5a;rw[hL,d];rfl
     simp only[d,jA,g,jg,if_false];rw[XaT hg hx hL p l kit];simp only[jS,h,u,q,w];cases ho:(X2R f p x).2
     ·exact⟨b.2,v,by simp⟩
     ·by_cases hc:(X6g (X2R f p x).1 (b.1 x.Hz1.toNat)).Lo>(X6g (X2R f p x).1 (b.1 x.Hz1.toNat)).Hi
      ·exact⟨b.2,v,by simp[hc]⟩
      ·simp only[Bool.not_true,jA,hc,decide_false,jS,jz,Bool.true_eq_false,or_self,if_false];exact hR (_,b.2) v
    ·have g:X5a f ib mb x=true:=by unfold X5a;rw[d];rfl
     simp only[d,jB,jS,jz,g,if_true];exact hR b v)
 have:=main 0 (X3m f,m) (by omega) hm
 unfold X2x;simpa using this
def X2D (f:ZS) (x y:Int):Nat->List Point
 | 0=>[]
 | n+1=>⟨x*f.Step,y*f.Step⟩::X2D f x (y+1) n
def X1f (f:ZS):Nat:=(2*f.Half+1).toNat
def X38 (f:ZS) (x:Int):Nat->List Point
 | 0=>[]
 | n+1=>X2D f x (-f.Half) (X1f f)++X38 f (x+1) n
def X7W (f:ZS):List Point:=X38 f (-f.Half) (X1f f)
def X6 (f:ZS) (l:List Zt):List Point:=(X7W f).filter fun p=>(atN f l p 0 0).2
theorem X7g (f:ZS) (x:Int):∀(n:Nat) (y:Int),(X2D f x y n).length=n
 | 0,_=>rfl
 | n+1,y=>by simp[X2D,X7g f x n]
theorem X8q (f:ZS) (x:Int) (p:Point):∀(n:Nat) (y:Int),p∈X2D f x y n↔∃j:Int,y<=j/\j<y+n/\p=⟨x*f.Step,j*f.Step⟩
 | 0,y=>by simp[X2D];intro j c b;omega
 | n+1,y=>by
  simp only[X2D,jr,X8q f x p n];constructor
  ·rintro(h|⟨j,c,b,a⟩)
   ·exact⟨y,by omega,by push_cast;omega,h⟩
   ·exact⟨j,by omega,by push_cast;omega,a⟩
  ·rintro⟨j,c,b,a⟩
   by_cases e:j=y
   ·subst e;exact .inl a
   ·exact .inr ⟨j,by omega,by push_cast at b;omega,a⟩
theorem X80 (f:ZS) (p:Point):∀(n:Nat) (x:Int),p∈X38 f x n↔∃i j:Int,x<=i/\i<x+n /\ -f.Half<=j/\j < -f.Half+X1f f/\p=⟨i*f.Step,j*f.Step⟩
 | 0,x=>by simp[X38];intro i c b;omega
 | n+1,x=>by
  simp only[X38,List.mem_append,X8q,X80 f p n];constructor
  ·rintro(⟨j,c,b,a⟩|⟨i,j,c,b,a,g,d⟩)
   ·exact⟨x,j,by omega,by push_cast;omega,c,b,a⟩
   ·exact⟨i,j,by omega,by push_cast;omega,a,g,d⟩
  ·rintro⟨i,j,c,b,a,g,d⟩
   by_cases e:i=x
   ·subst e;exact .inl ⟨j,a,g,d⟩
   ·exact .inr ⟨i,j,by omega,by push_cast at b;omega,a,g,d⟩
theorem X9E {f:ZS} (hh:0<=f.Half) (p:Point):p∈X7W f↔∃i j:Int,-f.Half<=i/\i<=f.Half /\ -f.Half<=j/\j<=f.Half/\p=⟨i*f.Step,j*f.Step⟩:=by
 unfold X7W;rw[X80];have:(X1f f:Int)=2*f.Half+1:=by unfold X1f;omega
 constructor
 ·rintro⟨i,j,b,c,d,e,a⟩;exact⟨i,j,by omega,by omega,by omega,by omega,a⟩
 ·rintro⟨i,j,b,c,d,e,a⟩;exact⟨i,j,by omega,by omega,by omega,by omega,a⟩
theorem X9m {f:ZS} (c:X2E f) {p:Point} (h:p∈X7W f):Bd 4000 p:=by
 obtain⟨i,j,d,e,g,k,rfl⟩:=(X9E c.half.1 p).1 h;have:=c.half;have:=c.step;have b1:=X1I (a:=i) (b:=f.Step) 8 500 (by omega) (by omega) (by omega) (by omega)
 have b2:=X1I (a:=j) (b:=f.Step) 8 500 (by omega) (by omega) (by omega) (by omega)
 unfold Bd;simp only;omega
structure Xat (f:ZS) (l:List Zt):Prop where
 fix:X2E f
 len:l.length<=8
 each:∀x∈l,X1Z f x=0
theorem X9i (f:ZS):∀(l:List Zt) (i:Nat),(W2 f i l).2=0->∀x∈l,X1Z f x=0
 | [],_,_,m,a=>by cases a
 | x::l,i,h,m,a=>by
  simp only[W2]at h
  by_cases h0:X1Z f x=0
  ·simp only[h0,if_true]at h;rcases jr.1 a with e|e
   ·subst e;exact h0
   ·exact X9i f l _ h m e
  ·simp only[h0,if_false]at h
theorem X8X (f:ZS):∀(l:List Zt) (i:Nat),(∀x∈l,X1Z f x=0)->(W2 f i l).2=0
 | [],_,_=>rfl
 | x::l,i,h=>by
  simp only[W2,h x (by simp),if_true]
  exact X8X f l _ fun y hy=>h y (by simp[hy])
theorem X70 {f:ZS} {l:List Zt} (h:(XP f l).2=0):Xat f l:=by
 unfold XP at h
 by_cases h1:(X2S f).2.2=0
 ·simp only[h1,ne_eq,not_true,if_false]at h
  by_cases h8:8<l.length
  ·rw[if_pos h8]at h;simp at h
  ·rw[if_neg h8]at h;exact⟨X7V h1,by omega,X9i f l 0 h⟩
 ·rw[if_pos h1]at h;exact absurd h h1
theorem X9P {f:ZS} {l:List Zt} (a:(X2S f).2.2=0) (c:l.length<=8) (b:∀x∈l,X1Z f x=0):(XP f l).2=0:=by
 unfold XP;rw[if_neg (by simp[a]),if_neg (by omega)]
 exact X8X f l 0 b
theorem X9o {f:ZS} {l:List Zt} (g:Xat f l) {kit:Nat->Nat} (z:Kit f kit) (x:Int) (hx : -8<=x/\x<=8) {m:List (Zn×Int)} (y:X2r f m) (acc:List Point) (v:acc.length<=1000000) {γ:Type} (k:_->Option γ) (Q:Option γ->Prop)
  (t:∀m',X2r f m'->Q (k (f,l,kit,m',acc++(X2D f x (-f.Half) (X1f f)).filter fun p=>(atN f l p 0 0).2))) :
  Q (Option.bind (XR x (-f.Half,f,l,kit,m,acc)) k):=by
 have hh:=g.fix.half;have hs:=g.fix.step;have w:(X1f f:Int)=2*f.Half+1:=by unfold X1f;omega
 refine(X8g (Xa x) k (X1f f) (fun i (b:List (Zn×Int)×List Point)=>(-f.Half+i,f,l,kit,b.1,b.2)) (fun i b=>X2r f b.1/\b.2.length<=1000000+i/\b.2++((X2D f x (-f.Half+i) (X1f f-i)).filter fun p=>(atN f l p 0 0).2)=acc++(X2D f x (-f.Half) (X1f f)).filter fun p=>(atN f l p 0 0).2) (fun _ _ r=>Q r) ?_ ?_ 0 (m,acc) (by omega) ⟨y,by simpa using v,by simp⟩) |> fun h=>by simpa[XR]using h
 ·intro b j R;have e1:decide (-f.Half+(X1f f:Int)<=f.Half)=false:=by simp;omega
  simp only[Xa,Xh,e1,jA,jS,jw];have q:=j.2.2;simp only[Nat.sub_self,X2D,List.filter_nil,jp]at q;rw[q];exact t _ j.1
 ·intro i b hi j R o;obtain⟨n,s,c⟩:=j;have e1:decide (-f.Half+(i:Int)<=f.Half)=true:=by simp;omega
  have u:IntKind.wrap .i64 (-f.Half+(i:Int)+1) = -f.Half+((i+1:Nat):Int):=by rw[w64]<;>omega
  have m1:=X1I (a:=x) (b:=f.Step) 8 500 (by omega) (by omega) (by omega) (by omega)
  have m2:=X1I (a := -f.Half+(i:Int)) (b:=f.Step) 8 500 (by omega) (by omega) (by omega) (by omega)
  simp only[Xa,Xh,e1,jB];rw[w64 (x:=x*f.Step) (by omega) (by omega),w64 (x:=(-f.Half+(i:Int))*f.Step) (by omega) (by omega),u]
  obtain⟨m',e,hc⟩:=Xb6 g.fix g.each g.len z n ⟨x*f.Step,(-f.Half+(i:Int))*f.Step⟩ 0 0;rw[hc];simp only[jS];have d:X2D f x (-f.Half+(i:Int)) (X1f f-i)=⟨x*f.Step,(-f.Half+(i:Int))*f.Step⟩::X2D f x (-f.Half+((i+1:Nat):Int)) (X1f f-(i+1)):=by
   rw[show X1f f-i=(X1f f-(i+1))+1 by omega,X2D,show -f.Half+(i:Int)+1 = -f.Half+((i+1:Nat):Int) by push_cast;omega]
  rw[d]at c;cases hat:(atN f l ⟨x*f.Step,(-f.Half+(i:Int))*f.Step⟩ 0 0).2
  ·simp only[jA,jS,jz];refine o (m',b.2) ⟨e,by simp only;omega,?_⟩
   rw[List.filter_cons_of_neg (by simp[hat])]at c
   exact c
  ·have e3:Nat.ble ((b.2.length+[(⟨x*f.Step,(-f.Half+(i:Int))*f.Step⟩:Point)].length)*(16+1)) 200000000000000=true:=by
    apply Nat.ble_eq_true_of_le;simp only[List.length_cons,List.length_nil];have:=hh.2;omega
   simp only[jB,e3,jS,jz];refine o (m',b.2++[⟨x*f.Step,(-f.Half+(i:Int))*f.Step⟩]) ⟨e,by simp;omega,?_⟩
   rw[List.filter_cons_of_pos (by simp[hat])]at c
   rw[<-c];simp
theorem X9n {f:ZS} {l:List Zt} (j:Xat f l) {kit:Nat->Nat} (v:Kit f kit) {m:List (Zn×Int)} (u:X2r f m) {γ:Type} (k:_->Option γ) (Q:Option γ->Prop)
  (o:∀m',X2r f m'->Q (k (X6 f l,f,l,kit,m'))) :
  Q (Option.bind (XQ (-f.Half,[],f,l,kit,m)) k):=by
 have hh:=j.fix.half;have t:(X1f f:Int)=2*f.Half+1:=by unfold X1f;omega
 refine(X8g X9 k (X1f f) (fun i (b:List (Zn×Int)×List Point)=>(-f.Half+i,b.2,f,l,kit,b.1)) (fun i b=>X2r f b.1/\b.2.length<=i*100/\b.2++((X38 f (-f.Half+i) (X1f f-i)).filter fun p=>(atN f l p 0 0).2)=X6 f l) (fun _ _ r=>Q r) ?_ ?_ 0 (m,[]) (by omega) ⟨u,by simp,by simp[X6,X7W]⟩) |> fun h=>by simpa[XQ]using h
 ·intro b a R;have e1:decide (-f.Half+(X1f f:Int)<=f.Half)=false:=by simp;omega
  simp only[X9,Xg,e1,jA,jS,jw];have n:=a.2.2;simp only[Nat.sub_self,X38,List.filter_nil,jp]at n;rw[n];exact o _ a.1
 ·intro i b hi a R q;obtain⟨c,x,g⟩:=a;have e1:decide (-f.Half+(i:Int)<=f.Half)=true:=by simp;omega
  have s:IntKind.wrap .i64 (-f.Half+(i:Int)+1) = -f.Half+((i+1:Nat):Int):=by rw[w64]<;>omega
  have e:IntKind.wrap .i64 (0-f.Half) = -f.Half:=by rw[w64]<;>omega
  have w:X1f f<=17:=by omega
  simp only[X9,Xg,e1,jB,s,e];rw[Option.bind_assoc];refine X9o j v _ (by omega) c b.2 (by omega) _ Q fun m' d=>?_
  simp only[jS,jz];refine q (m',_) ⟨d,?_,?_⟩
  ·have:=List.length_filter_le (fun p=>(atN f l p 0 0).2) (X2D f (-f.Half+(i:Int)) (-f.Half) (X1f f));rw[X7g]at this;simp only[List.length_append];omega
  ·rw[<-g,show X1f f-i=(X1f f-(i+1))+1 by omega,X38,show -f.Half+(i:Int)+1 = -f.Half+((i+1:Nat):Int) by push_cast;omega]
   simp
theorem X8O {f:ZS} {l:List Zt} (c:Xat f l) {kit:Nat->Nat} (e:Kit f kit) {m:List (Zn×Int)} (d:X2r f m):∃m',X2r f m'/\XY (f,l,kit,m)=some (f,l,kit,m',X6 f l):=by
 rw[X48];unfold XI;have hh:=c.fix.half;have a:IntKind.wrap .i64 (0-f.Half) = -f.Half:=by rw[w64]<;>omega
 simp only[a];exact X9n c e d _ (fun r=>∃m',X2r f m'/\r=some (f,l,kit,m',X6 f l)) fun m' b=>⟨m',b,rfl⟩
theorem X8J (f:ZS) (l:List Zt):X6h f l=some (if(XP f l).2=0 then(X6 f l,0)else([],(XP f l).2)):=by
 rw[X7r];unfold X35;rcases X9d f l with⟨_,b,a⟩|⟨kit,e,g,d,b⟩
 ·rw[b];simp[a,Wk a]
 ·rw[b];simp only[jS,jw]
  by_cases a:(XP f l).2=0
  ·obtain⟨m',_,c⟩:=X8O (X70 a) d (X8D f);simp only[a,jk,jA,if_true,c,jS]
  ·simp[a,Wk a]
def XV (b:ZF) (p:Point):ZF:=⟨⟨if p.X<b.X.Lo then p.X else b.X.Lo,if p.X>b.X.Hi then p.X else b.X.Hi⟩,⟨if p.Y<b.Y.Lo then p.Y else b.Y.Lo,if p.Y>b.Y.Hi then p.Y else b.Y.Hi⟩⟩
def X3w:List Point->ZF
 | []=>⟨⟨0,0⟩,⟨0,0⟩⟩
 | p::l=>(p::l).foldl XV ⟨⟨p.X,p.X⟩,⟨p.Y,p.Y⟩⟩
theorem Xas (l:List Point) (e:l.length<1000000) (b:ZF):X4A (↑l.length) l (0,b)=some (l.foldl XV b):=by
 refine(X6d (X1O (↑l.length) l) l.length (fun i (b:ZF)=>((i:Int),b)) (fun _ _=>True) (fun i b=>some ((l.drop i).foldl XV b)) ?_ ?_ 0 b (by omega) trivial).trans (by simp)
 ·intro b _ R;simp[X1O,X1T]
 ·intro i b hi _ R d;rw[jb hi];have c:=wS i (by omega)
  have e1:decide ((i:Int)<↑l.length)=true:=by simp[hi]
  have e2:=z0S i;have e3:Nat.blt i l.length=true:=by rw[Tr.blt_dec];simpa using hi
  have a:(ZF.mk (ZN.mk (bif decide (l[i].X<b.X.Lo)then l[i].X else b.X.Lo) (bif decide (l[i].X>b.X.Hi)then l[i].X else b.X.Hi)) (ZN.mk (bif decide (l[i].Y<b.Y.Lo)then l[i].Y else b.Y.Lo) (bif decide (l[i].Y>b.Y.Hi)then l[i].Y else b.Y.Hi)))=XV b l[i]:=by
   unfold XV;simp only[Bool.cond_decide]
  simp only[X1O,X1T,kS,X0 _ _ _ hi,c,e1,e2,e3,ju,jB,a,jS,jz,List.foldl_cons];exact d _ trivial
theorem X8P {f:ZS} (b:X2E f) (l:List Zt):(X6 f l).length<=289:=by
 have hh:=b.half;have c:(X1f f:Int)=2*f.Half+1:=by unfold X1f;omega
 have a:X1f f<=17:=by omega
 have:∀(n:Nat) (x:Int),(X38 f x n).length=n*X1f f:=fun n=>by
  induction n with
  | zero=>intro x;simp[X38]
  | succ n ih=>intro x;simp only[X38,List.length_append,X7g,ih,Nat.succ_mul];omega
 have d:=List.length_filter_le (fun p=>(atN f l p 0 0).2) (X7W f);have e:(X7W f).length=X1f f*X1f f:=this _ _;have g:X1f f*X1f f<=17*17:=Nat.mul_le_mul a a;unfold X6;omega
theorem X93 (f:ZS) (l:List Zt):X7k f l=some (if(XP f l).2=0 then(if(X6 f l).length=0 then(X3w [],9)else(X3w (X6 f l),0))else(X3w [],(XP f l).2)):=by
 rw[X7S];unfold X3y;rcases X9d f l with⟨_,b,a⟩|⟨kit,d,h,g,b⟩
 ·rw[b];simp[a,Wk a,X3w]
 ·rw[b];simp only[jS,jw]
  by_cases a:(XP f l).2=0
  ·obtain⟨m',_,e⟩:=X8O (X70 a) g (X8D f);simp only[a,jk,jA,if_true,e,jS];have c:=X8P d l;cases hpl:X6 f l with
   | nil=>simp[X3w]
   | cons q r =>
    rw[hpl]at c;have e0:(((q::r).length:Int)==0)=false:=by apply X3v;simp only[List.length_cons];omega
    have e1:decide ((0:Int)<=0)=true:=by simp
    have e2:decide ((0:Int)<((q::r).length:Int))=true:=by simp only[List.length_cons];simp
    have e3:Nat.blt (Int.toNat 0) (q::r).length=true:=by rw[Tr.blt_dec];simp
    simp only[e0,e1,e2,e3,jA,jB,ju,Xas (q::r) (by omega)]
    simp[X3w]
  ·simp[a,Wk a,X3w]
theorem X9e:∀(l:List Point) (b:ZF),b.X.Lo<=b.X.Hi/\b.Y.Lo<=b.Y.Hi->((l.foldl XV b).X.Lo<=b.X.Lo/\b.X.Hi<=(l.foldl XV b).X.Hi/\(l.foldl XV b).Y.Lo<=b.Y.Lo/\b.Y.Hi<=(l.foldl XV b).Y.Hi) ∧
  (∀p∈l,(l.foldl XV b).X.Lo<=p.X/\p.X<=(l.foldl XV b).X.Hi/\(l.foldl XV b).Y.Lo<=p.Y/\p.Y<=(l.foldl XV b).Y.Hi) ∧
  (((l.foldl XV b).X.Lo=b.X.Lo\/∃p∈l,p.X=(l.foldl XV b).X.Lo)/\((l.foldl XV b).X.Hi=b.X.Hi\/∃p∈l,p.X=(l.foldl XV b).X.Hi)/\((l.foldl XV b).Y.Lo=b.Y.Lo\/∃p∈l,p.Y=(l.foldl XV b).Y.Lo)/\((l.foldl XV b).Y.Hi=b.Y.Hi\/∃p∈l,p.Y=(l.foldl XV b).Y.Hi))
 | [],b,_=>by simp
 | q::l,b,hb=>by
  have d:(XV b q).X.Lo<=b.X.Lo/\b.X.Hi<=(XV b q).X.Hi/\(XV b q).Y.Lo<=b.Y.Lo/\b.Y.Hi<=(XV b q).Y.Hi/\(XV b q).X.Lo<=q.X/\q.X<=(XV b q).X.Hi/\(XV b q).Y.Lo<=q.Y/\q.Y<=(XV b q).Y.Hi ∧
    ((XV b q).X.Lo=b.X.Lo\/q.X=(XV b q).X.Lo)/\((XV b q).X.Hi=b.X.Hi\/q.X=(XV b q).X.Hi)/\((XV b q).Y.Lo=b.Y.Lo\/q.Y=(XV b q).Y.Lo)/\((XV b q).Y.Hi=b.Y.Hi\/q.Y=(XV b q).Y.Hi):=by
   unfold XV;simp only;refine⟨?_,?_,?_,?_,?_,?_,?_,?_,?_,?_,?_,?_⟩<;>split<;>omega
  obtain⟨g1,g2,g3,g4,g5,g6,g7,g8,g9,g10,g11,g12⟩:=d;obtain⟨m,f,j,c,i,k⟩:=X9e l (XV b q) ⟨by omega,by omega⟩
  simp only[List.foldl_cons];refine⟨by omega,fun p a=>?_,?_,?_,?_,?_⟩
  ·rcases jr.1 a with e|e
   ·subst e;omega
   ·exact f p e
  ·rcases j with h|⟨p,a,h⟩
   ·rcases g9 with g|g
    ·exact .inl (h.trans g)
    ·exact .inr ⟨q,by simp,g.trans h.symm⟩
   ·exact .inr ⟨p,by simp[a],h⟩
  ·rcases c with h|⟨p,a,h⟩
   ·rcases g10 with g|g
    ·exact .inl (h.trans g)
    ·exact .inr ⟨q,by simp,g.trans h.symm⟩
   ·exact .inr ⟨p,by simp[a],h⟩
  ·rcases i with h|⟨p,a,h⟩
   ·rcases g11 with g|g
    ·exact .inl (h.trans g)
    ·exact .inr ⟨q,by simp,g.trans h.symm⟩
   ·exact .inr ⟨p,by simp[a],h⟩
  ·rcases k with h|⟨p,a,h⟩
   ·rcases g12 with g|g
    ·exact .inl (h.trans g)
    ·exact .inr ⟨q,by simp,g.trans h.symm⟩
   ·exact .inr ⟨p,by simp[a],h⟩
theorem XaP {l:List Point} (h:l≠[]):(∀p∈l,(X3w l).X.Lo<=p.X/\p.X<=(X3w l).X.Hi/\(X3w l).Y.Lo<=p.Y/\p.Y<=(X3w l).Y.Hi)/\(∃p∈l,p.X=(X3w l).X.Lo)/\(∃p∈l,p.X=(X3w l).X.Hi)/\(∃p∈l,p.Y=(X3w l).Y.Lo)/\(∃p∈l,p.Y=(X3w l).Y.Hi):=by
 cases l with
 | nil=>exact absurd rfl h
 | cons q l =>
  obtain⟨_,a,c,d,b,e⟩:=X9e (q::l) ⟨⟨q.X,q.X⟩,⟨q.Y,q.Y⟩⟩ ⟨by simp,by simp⟩
  refine⟨a,?_,?_,?_,?_⟩
  ·rcases c with h|h
   ·exact⟨q,by simp,h.symm⟩
   ·exact h
  ·rcases d with h|h
   ·exact⟨q,by simp,h.symm⟩
   ·exact h
  ·rcases b with h|h
   ·exact⟨q,by simp,h.symm⟩
   ·exact h
  ·rcases e with h|h
   ·exact⟨q,by simp,h.symm⟩
   ·exact h
def inS (v:Int) (s:ZN):Prop:=s.Lo<=v/\v<=s.Hi
def X8Y (f:ZS) (p:Point) (ib mb:Int) (s:Nat->ZN) (l:List Zt) (i:Nat) (v:Int):Prop :=
 inS v (s i)/\∀x∈l,X5a f ib mb x=false->x.Hz1.toNat=i->(X2R f p x).2=true/\inS v (X2R f p x).1
theorem X8I (n a:ZN) (v:Int):inS v (X6g n a)↔inS v n/\inS v a:=by
 unfold inS X6g;constructor
 ·rintro⟨b,c⟩;simp only at b c;split at b<;>split at c<;>omega
 ·rintro⟨b,c⟩;simp only;constructor<;>split<;>omega
theorem X7m {f:ZS} {p:Point} {ib mb:Int} {s:Nat->ZN} {x:Zt} {l:List Zt} {i:Nat} {v:Int} :
  X8Y f p ib mb s (x::l) i v↔X8Y f p ib mb s l i v/\(X5a f ib mb x=false->x.Hz1.toNat=i->(X2R f p x).2=true/\inS v (X2R f p x).1):=by
 unfold X8Y;constructor
 ·rintro⟨b,a⟩;exact⟨⟨b,fun y hy=>a y (by simp[hy])⟩,a x (by simp)⟩
 ·rintro⟨⟨b,a⟩,c⟩;refine⟨b,fun y hy=>?_⟩;rcases jr.1 hy with e|e
  ·subst e;exact c
  ·exact a y e
theorem X8C (f:ZS) (p:Point) (ib mb:Int):∀(l:List Zt) (s:Nat->ZN),(∀i,(s i).Lo<=(s i).Hi) →
  ((atL f p ib mb s l).2=true->(∀i,((atL f p ib mb s l).1 i).Lo<=((atL f p ib mb s l).1 i).Hi)/\∀i v,inS v ((atL f p ib mb s l).1 i)↔X8Y f p ib mb s l i v) ∧
  ((atL f p ib mb s l).2=false->∃x∈l,X5a f ib mb x=false/\∀v,¬X8Y f p ib mb s l x.Hz1.toNat v)
 | [],s,hs=>by
  simp only[atL];exact⟨fun _=>⟨hs,fun i v=>by simp[X8Y]⟩,fun h=>by cases h⟩
 | x::l,s,hs=>by
  simp only[atL]
  by_cases hk:X5a f ib mb x=true
  ·rw[if_pos hk];obtain⟨g,n⟩:=X8C f p ib mb l s hs;refine⟨fun h=>⟨(g h).1,fun i v=>?_⟩,fun h=>?_⟩
   ·rw[(g h).2 i v,X7m];simp[hk]
   ·obtain⟨y,hy,k,m⟩:=n h;refine⟨y,by simp[hy],k,fun v hv=>m v ?_⟩
    exact(X7m.1 hv).1
  ·rw[if_neg hk];have d:X5a f ib mb x=false:=by simpa using hk
   by_cases hc:(X2R f p x).2=false\/(X6g (X2R f p x).1 (s x.Hz1.toNat)).Lo>(X6g (X2R f p x).1 (s x.Hz1.toNat)).Hi
   ·rw[if_pos hc];refine⟨fun h=>(by cases h),fun _=>⟨x,by simp,d,fun v hv=>?_⟩⟩
    obtain⟨g,n⟩:=X7m.1 hv;obtain⟨t,u⟩:=n d rfl;rcases hc with hc|hc
    ·rw[hc]at t;cases t
    ·have:=(X8I (X2R f p x).1 (s x.Hz1.toNat) v).2 ⟨u,g.1⟩;unfold inS at this;omega
   ·rw[if_neg hc];have o:(X2R f p x).2=true:=by
     cases h:(X2R f p x).2
     ·exact absurd (.inl h) hc
     ·rfl
    have r:(X6g (X2R f p x).1 (s x.Hz1.toNat)).Lo<=(X6g (X2R f p x).1 (s x.Hz1.toNat)).Hi:=Int.not_lt.1 fun q=>hc (.inr q);obtain⟨g,n⟩:=X8C f p ib mb l (fun j=>if j=x.Hz1.toNat then X6g (X2R f p x).1 (s x.Hz1.toNat)else s j) (fun i=>by
     by_cases e:i=x.Hz1.toNat
     ·simp only[e,if_true];exact r
     ·simp only[e,if_false];exact hs i)
    have key:∀i v,X8Y f p ib mb (fun j=>if j=x.Hz1.toNat then X6g (X2R f p x).1 (s x.Hz1.toNat)else s j) l i v↔X8Y f p ib mb s (x::l) i v:=fun i v=>by
     rw[X7m];unfold X8Y
     by_cases e:i=x.Hz1.toNat
     ·subst e;simp only[if_true,X8I,d,o,true_and,forall_const];constructor
      ·rintro⟨⟨a,b⟩,c⟩;exact⟨⟨b,c⟩,a⟩
      ·rintro⟨⟨b,c⟩,a⟩;exact⟨⟨a,b⟩,c⟩
     ·simp only[e,if_false,d,forall_const];constructor
      ·rintro⟨a,b⟩;exact⟨⟨a,b⟩,fun q=>absurd q.symm e⟩
      ·rintro⟨⟨a,b⟩,_⟩;exact⟨a,b⟩
    refine⟨fun h=>⟨(g h).1,fun i v=>((g h).2 i v).trans (key i v)⟩,fun h=>?_⟩;obtain⟨y,hy,k,m⟩:=n h;exact⟨y,by simp[hy],k,fun v hv=>m v ((key _ v).2 hv)⟩
theorem XaV {f:ZS} (a:X2E f) (i:Nat):(X3m f i).Lo<=(X3m f i).Hi:=by
 unfold X3m;split
 ·rename_i h;exact(a.off _ (jo h)).2.1
 ·simp
def Num (f:ZS) (l:List Zt) (p:Point) (ib mb:Int) (i:Nat) (v:Int):Prop:=X8Y f p ib mb (X3m f) l i v
theorem Xb7 {f:ZS} (c:X2E f) (l:List Zt) (p:Point) (ib mb:Int):(atN f l p ib mb).2=true↔∀i,∃v,Num f l p ib mb i v:=by
 obtain⟨b,d⟩:=X8C f p ib mb l (X3m f) (XaV c);unfold atN;constructor
 ·intro h i;obtain⟨a,e⟩:=b h;exact⟨_,(e i ((atL f p ib mb (X3m f) l).1 i).Lo).1 ⟨Int.le_refl _,a i⟩⟩
 ·intro h;cases hb:(atL f p ib mb (X3m f) l).2
  ·obtain⟨x,_,_,a⟩:=d hb;obtain⟨v,hv⟩:=h x.Hz1.toNat;exact absurd hv (a v)
  ·rfl
theorem X8N {f:ZS} {l:List Zt} {p:Point}:p∈X6 f l↔p∈X7W f/\(atN f l p 0 0).2=true:=by
 unfold X6;rw[List.mem_filter]
theorem X5w (f:ZS) (l:List Zt):X4B f l=some (decide ((XP f l).2=0)):=by
 rw[X7t];unfold X3a;rw[X6I];simp only[jS]
 by_cases h:(XP f l).2=0<;>simp[h,X3v]
theorem XaR {f:ZS} {x:Zt} (h:X1Z f x=0):((x.Hz1.toNat:Nat):Int)=x.Hz1/\x.Hz1.toNat<f.Hz0.length:=by
 obtain⟨⟨a,b⟩,_⟩:=X87 h;omega
theorem X4R {β σ ω:Type} (st:σ->Option (σ⊕ω)) (n:Nat) (emb:Nat->β->σ) (P:Nat->β->Prop) (Q:ω->Prop)
  (f:∀b,P n b->∃w,st (emb n b)=some (.inr w)/\Q w)
  (e:∀i b,i<n->P i b->(∃w,st (emb i b)=some (.inr w)/\Q w)\/∃b',st (emb i b)=some (.inl (emb (i+1) b'))/\P (i+1) b') :
  ∀i b,i<=n->P i b->∃w,Z9t st (emb i b)=some w/\Q w:=by
 intro i b hi d
 induction hj:n-i generalizing i b with
 | zero =>
  have:i=n:=by omega
  subst this;obtain⟨w,a,c⟩:=f b d;exact⟨w,by rw[Zio,a];rfl,c⟩
 | succ j ih =>
  rcases e i b (by omega) d with⟨w,a,c⟩|⟨b',a,c⟩
  ·exact⟨w,by rw[Zio,a];rfl,c⟩
  ·obtain⟨w,g,h⟩:=ih (i+1) b' (by omega) c (by omega)
   exact⟨w,by rw[Zio,a];exact g,h⟩
theorem X9O {f:ZS} (q:f.Hz7.length<=6) (p:Point):∃k:Int,X5f f p=some k/\((k<0/\X7E f p=none)\/(0<=k/\k.toNat<f.Hz7.length/\X7E f p=some (f.Hz7.getD k.toNat ⟨⟨0,0⟩,⟨0,0⟩,⟨0,0⟩,0⟩))):=by
 rw[X6E];unfold X2n;obtain⟨w,l,n⟩:=X4R (Wj p f) f.Hz7.length (fun i (_:Unit)=>(i:Int)) (fun i _=>X7E f p=(f.Hz7.drop i).find? fun a=>X4V a p)
  (fun w=>(w=.inr ()/\X7E f p=none)\/∃k:Nat,k<f.Hz7.length/\w=.inl (k:Int)/\X7E f p=some (f.Hz7.getD k ⟨⟨0,0⟩,⟨0,0⟩,⟨0,0⟩,0⟩))
  (fun _ b=>⟨.inr (),by simp[Wj,WB],.inl ⟨rfl,by simpa using b⟩⟩)
  (fun i _ hi b=>by
   have m:=wS i (by omega)
   have e1:decide ((i:Int)<↑f.Hz7.length)=true:=by simp[hi]
   have e2:=z0S i;obtain⟨a,j⟩:∃a,f.Hz7[i]=a:=⟨_,rfl⟩;have d:f.Hz7.getD i ⟨⟨0,0⟩,⟨0,0⟩,⟨0,0⟩,0⟩=a:=(X0 _ _ _ hi).trans j;rw[jb hi,j,List.find?_cons]at b;have c:X4V a p=(inN p.X a.X.Lo a.X.Hi&&inN p.Y a.Y.Lo a.Y.Hi):=by
    unfold X4V inN;rw[Bool.eq_iff_iff];simp<;>omega
   simp only[Wj,WB,kS,d,m,e1,e2,ju,jB,XX,jS];cases c1:inN p.X a.X.Lo a.X.Hi
   ·right;rw[c,c1]at b;exact⟨(),rfl,by simpa using b⟩
   ·simp only[jB];cases c2:inN p.Y a.Y.Lo a.Y.Hi
    ·right;rw[c,c1,c2]at b;exact⟨(),rfl,by simpa using b⟩
    ·left;rw[c,c1,c2]at b;exact⟨_,rfl,.inr ⟨i,hi,rfl,by rw[d];simpa using b⟩⟩) 0 () (by omega) rfl
 have e:X3u p f 0=some w:=l;rw[e];simp only[jS];rcases n with⟨g,h⟩|⟨k,g,h,o⟩
 ·subst g;exact⟨-1,rfl,.inl ⟨by omega,h⟩⟩
 ·subst h;exact⟨(k:Int),rfl,.inr ⟨by omega,by simpa using g,by simpa using o⟩⟩
def X9N (l:List Int) (n:Nat):Int:=if l.length=0 then 0 else l.getD (n % l.length) 0
theorem XaZ (l:List Int) (h:∀v∈l,0<=v/\v<=65535) (n:Nat):X6m l (n:Int)=some (X9N l n)/\0<=X9N l n/\X9N l n<=65535:=by
 rw[X7v];unfold X3b X9N
 by_cases h0:l.length=0
 ·simp[h0]
 ·have e0:((l.length:Int)==0)=false:=X3v (by omega)
  have b:Int.tmod (n:Int) (l.length:Int)=((n % l.length:Nat):Int):=rfl;have a:n % l.length<l.length:=Nat.mod_lt _ (by omega)
  have e1:decide ((0:Int)<=((n % l.length:Nat):Int))=true:=by simp;omega
  have e2:decide (((n % l.length:Nat):Int)<(l.length:Int))=true:=by simp;omega
  have hv:=h _ (jo a);simp only[e0,jA,b,e1,e2,ju,jB,kS,X0 _ _ _ a,h0,if_false];exact⟨by rw[w64]<;>omega,hv⟩
theorem X4S (n k:Int) (b:0<=n) (a:0<k):0<=Int.tmod n k/\Int.tmod n k<k:=⟨Int.tmod_nonneg k b,Int.tmod_lt_of_pos n a⟩
def atP (f:ZS) (x:Z7):Point:=⟨f.Step*(Int.tmod (x.Place 0) (2*f.Half+1)-f.Half),f.Step*(Int.tmod (x.Place 1) (2*f.Half+1)-f.Half)⟩
theorem XaN {f:ZS} (c:X2E f) (x:Z7) (d:∀j,j<2->0<=x.Place j/\x.Place j<=255):X71 f x=some (atP f x)/\atP f x∈X7W f:=by
 have hh:=c.half;have h:=c.step;have e:=d 0 (by omega)
 have g:=d 1 (by omega)
 have t0:=X4S (x.Place 0) (2*f.Half+1) e.1 (by omega)
 have t1:=X4S (x.Place 1) (2*f.Half+1) g.1 (by omega)
 have b0:=X1I (a:=f.Step) (b:=Int.tmod (x.Place 0) (2*f.Half+1)-f.Half) 500 8 (by omega) (by omega) (by omega) (by omega)
 have b1:=X1I (a:=f.Step) (b:=Int.tmod (x.Place 1) (2*f.Half+1)-f.Half) 500 8 (by omega) (by omega) (by omega) (by omega)
 constructor
 ·rw[X8n];unfold X4k atP;have w1:IntKind.wrap .i64 (IntKind.wrap .i64 (2*f.Half)+1)=2*f.Half+1:=by rw[w64 (x:=2*f.Half),w64]<;>omega
  rw[w1,X3v (by omega),show Int.toNat 0=0 from rfl,show Int.toNat 1=1 from rfl,w64 (x:=x.Place 0) (by omega) (by omega),w64 (x:=x.Place 1) (by omega) (by omega)]
  simp only[jA];rw[w64 (x:=Int.tmod (x.Place 0) (2*f.Half+1)-f.Half) (by omega) (by omega),w64 (x:=Int.tmod (x.Place 1) (2*f.Half+1)-f.Half) (by omega) (by omega),w64 (by omega) (by omega),w64 (by omega) (by omega)]
 ·rw[X9E hh.1];refine⟨Int.tmod (x.Place 0) (2*f.Half+1)-f.Half,Int.tmod (x.Place 1) (2*f.Half+1)-f.Half,by omega,by omega,by omega,by omega,?_⟩
  unfold atP;rw[Int.mul_comm f.Step,Int.mul_comm f.Step]
def X6L (s:ZN) (n:Int):Int:=s.Lo+Int.tmod n (s.Hi-s.Lo+1)
theorem X9c {s:ZN} (h : -1000000<=s.Lo/\s.Lo<=s.Hi/\s.Hi<=1000000) {n:Int} (a:0<=n):X4K s n=some (X6L s n)/\s.Lo<=X6L s n/\X6L s n<=s.Hi:=by
 have t:=X4S n (s.Hi-s.Lo+1) a (by omega)
 rw[X72];unfold X2L X6L;rw[w64 (x:=s.Hi-s.Lo) (by omega) (by omega),w64 (x:=s.Hi-s.Lo+1) (by omega) (by omega),X3v (by omega),w64 (x:=s.Lo+Int.tmod n (s.Hi-s.Lo+1)) (by omega) (by omega)]
 exact⟨rfl,by omega,by omega⟩
def X69 (f:ZS) (x:Z7) (k:Nat):Int:=X6L (X3m f k) (X9N x.Offs k)
theorem Xaw {f:ZS} (e:X2E f) (x:Z7) (g:∀v∈x.Offs,0<=v/\v<=65535) (k:Nat) (a:k<f.Hz0.length):X7l f x (k:Int)=some (X69 f x k)/\inS (X69 f x k) (X3m f k):=by
 rw[X7X];unfold X3B X69;have i1:decide ((0:Int)<=(k:Int))=true:=by simp
 have i2:decide ((k:Int)<(f.Hz0.length:Int))=true:=by simp[a]
 have c:f.Hz0.getD k ⟨ByteArray.empty,false,⟨0,0⟩⟩=f.Hz0[k]:=X0 _ _ _ a;obtain⟨t1,t2,t3⟩:=XaZ x.Offs g k;have h:=e.off _ (jo a);have d:0<=X4H f.Hz0[k]/\X4H f.Hz0[k]<=20:=by unfold X4H;split<;>omega
 have b:X3m f k=f.Hz0[k].Off:=by unfold X3m;rw[dif_pos a]
 obtain⟨a1,a2,a3⟩:=X9c (s:=f.Hz0[k].Off) (by omega) t2
 simp only[i1,i2,ju,jB,t1,jS,kS,c,a1,b];exact⟨trivial,a2,a3⟩
theorem X8S {f:ZS} (a:X2E f) (mark:Int) (i:0<=mark) (j:mark<f.Hz9.Hz8.length) (p:Point):X6o f.Hz9 f.Day mark p=some (X59 f mark p):=by
 have m:=a.marks;have g:=a.day;have k:=X7Z a i j;have h:mark.toNat<f.Hz9.Hz8.length:=by omega
 have c:=(a.mark _ (jo h)).2;have l:(ZgB f mark).Hz3.length<=4:=by unfold ZgB;rw[X0 _ _ _ h];exact c
 have i1:decide (0<=mark)=true:=by simp;omega
 have i2:decide (mark<(f.Hz9.Hz8.length:Int))=true:=by simp;omega
 have b:f.Hz9.Hz8.getD mark.toNat ⟨ByteArray.empty,⟨0,0⟩,[]⟩=ZgB f mark:=rfl;rw[X7z];unfold X3d;rw[X5V];unfold X1y;rw[X7a];unfold X2M;rw[X78];have d:=a.chart;simp only[jS,d,beq_self_eq_true,jB];rw[Wz,Wz];have d1:inN f.Day 0 40000=true:=by unfold inN;simp;omega
 have w1:IntKind.wrap .i64 ((f.Hz9.Hz8.length:Int)-1)=(f.Hz9.Hz8.length:Int)-1:=by rw[w64]<;>omega
 have d2:inN mark 0 ((f.Hz9.Hz8.length:Int)-1)=true:=by unfold inN;simp;omega
 rw[w1,d1,d2];simp only[jS,Bool.not_true,jA,beq_self_eq_true,jB,i1,i2,ju,b];rw[X5T _ _ (by omega)]
 unfold X59 X2Y;simp only[jS]
 by_cases hp:X4L (ZgB f mark) f.Day=0
 ·simp[hp]
 ·simp only[X3v hp,jA,jS,beq_self_eq_true,jB,Wk hp,Bool.true_eq_false,if_false,i1,i2,ju,b];rw[X4W p 30000 (by omega)]
  simp only[jS];cases hf:X3g 30000 p
  ·rw[X5M]at hf;unfold Bd at k hf;simp only[Bool.not_false,Bool.not_true,jA,jg,if_false,Bool.and_true]
   by_cases he:(ZgB f mark).At=p
   ·rw[he];simp
   ·have:((ZgB f mark).At.X==p.X&&(ZgB f mark).At.Y==p.Y)=false:=by
     cases hc:((ZgB f mark).At.X==p.X&&(ZgB f mark).At.Y==p.Y)
     ·rfl
     ·exfalso;simp at hc;exact he (Point.ext hc.1 hc.2)
    rw[this,if_neg he];simp only[jA,jk];rw[w64 (x:=(ZgB f mark).At.X-p.X) (by omega) (by omega),w64 (x:=(ZgB f mark).At.Y-p.Y) (by omega) (by omega)]
    have e:¬((ZgB f mark).At.X-p.X=0/\(ZgB f mark).At.Y-p.Y=0):=fun q=>he (Point.ext (by omega) (by omega))
    rw[X8e (by simp only;omega) e]
    rfl
  ·simp
structure X9b (f:ZS) (x:Z7) (l:List Zt):Prop where
 len:l.length<=8
 each:∀s∈l,X1Z f s=0
 true_:∀s∈l,(X2R f (atP f x) s).2=true/\inS (X69 f x s.Hz1.toNat) (X2R f (atP f x) s).1
theorem X8h {f:ZS} {x:Z7} {b:List Zt} (d:X9b f x b) {s:Zt} (hc:(XP f (b++[s])).2=0) (c:X1Z f s=0->(X2R f (atP f x) s).2=true/\inS (X69 f x s.Hz1.toNat) (X2R f (atP f x) s).1):X9b f x (b++[s]):=by
 have a:=X70 hc;refine⟨a.len,a.each,fun y hy=>?_⟩;rcases List.mem_append.1 hy with h|h
 ·exact d.true_ y h
 ·rw[List.mem_singleton]at h;subst h;exact c (a.each _ (by simp))
theorem Xb5 {f:ZS} (b:X2E f) {x:Z7} (e:∀v∈x.Offs,0<=v/\v<=65535) {l:List Zt} (h:X9b f x l):(atN f l (atP f x) 0 0).2=true/\∀i,i<f.Hz0.length->Num f l (atP f x) 0 0 i (X69 f x i):=by
 have key:∀i,i<f.Hz0.length->Num f l (atP f x) 0 0 i (X69 f x i):=fun i hi =>
  ⟨(Xaw b x e i hi).2,fun s a _ d=>by have:=h.true_ s a;rw[d]at this;exact this⟩
 refine⟨?_,key⟩;rw[Xb7 b];intro i
 by_cases c:i<f.Hz0.length
 ·exact⟨_,key i c⟩
 ·refine⟨0,?_,fun s a _ d=>?_⟩
  ·unfold inS X3m;rw[dif_neg c];simp
  ·exfalso;have:=(XaR (h.each s a)).2;omega
theorem XaX {f:ZS} (m:X2E f) (x:Z7) (hp:∀j,j<2->0<=x.Place j/\x.Place j<=255) (ho:∀v∈x.Offs,0<=v/\v<=65535) (ht:∀v∈x.Taken,0<=v/\v<=65535) (htl:x.Taken.length<=1000000000000000000):∃l,X3C (x,f)=some l/\X9b f x l:=by
 have hI:=m.inst;have hM:=m.marks;obtain⟨a1,a2⟩:=XaN m x hp;rw[X65];unfold X1V;rw[a1];simp only[jS];have a5:=X9m m a2;have hbd3:Bd 30000 (atP f x):=by unfold Bd at *;omega
 obtain⟨w,h1,h2⟩:=X4R (Xe (atP f x) x f) (x.Taken.length / 3+1) (fun i (b:List Zt)=>(((3*i:Nat):Int),b)) (fun _ b=>X9b f x b) (fun w=>X9b f x w)
  (fun b d=>by
   have e:decide (IntKind.wrap .i64 (((3*(x.Taken.length / 3+1):Nat):Int)+2)<(x.Taken.length:Int))=false:=by
    rw[w64 (by omega) (by omega)];simp;omega
   exact⟨b,by simp only[Xe,Xf,e,jA],d⟩)
  (fun i b hi d=>by
   have o:IntKind.wrap .i64 (((3*i:Nat):Int)+2)=((3*i+2:Nat):Int):=by rw[w64]<;>omega
   have a4:IntKind.wrap .i64 (((3*i:Nat):Int)+1)=((3*i+1:Nat):Int):=by rw[w64]<;>omega
   have y:IntKind.wrap .i64 (((3*i:Nat):Int)+3)=((3*(i+1):Nat):Int):=by rw[w64]<;>omega
   by_cases c1:3*i+2<x.Taken.length
   rotate_left
   ·left;have e:decide (((3*i+2:Nat):Int)<(x.Taken.length:Int))=false:=by simp;omega
    exact⟨b,by simp only[Xe,Xf,o,e,jA],d⟩
   ·by_cases c2:b.length<8
    rotate_left
    ·left;have e:decide (((3*i+2:Nat):Int)<(x.Taken.length:Int))=true:=by simp;omega
     have e2:decide ((b.length:Int)<8)=false:=by simp;omega
     exact⟨b,by simp only[Xe,Xf,o,e,e2,jA,jB],d⟩
    ·right;have e:decide (((3*i+2:Nat):Int)<(x.Taken.length:Int))=true:=by simp;omega
     have e2:decide ((b.length:Int)<8)=true:=by simp;omega
     have e3:decide ((0:Int)<=((3*i:Nat):Int))=true:=by simp;omega
     have e4:decide (((3*i:Nat):Int)<(x.Taken.length:Int))=true:=by simp;omega
     have e5:decide ((0:Int)<=((3*i+1:Nat):Int))=true:=by simp;omega
     have e6:decide (((3*i+1:Nat):Int)<(x.Taken.length:Int))=true:=by simp;omega
     have e7:decide ((0:Int)<=((3*i+2:Nat):Int))=true:=by simp;omega
     have ei:((f.Hz0.length:Int)==0)=false:=X3v (by omega)
     have u0:=ht _ (jo (show 3*i<x.Taken.length by omega))
     have u1:=ht _ (jo (show 3*i+1<x.Taken.length by omega))
     have u2:=ht _ (jo c1);have g0:x.Taken.getD (3*i) 0=x.Taken[3*i]:=X0 _ _ _ (by omega)
     have g1:x.Taken.getD (3*i+1) 0=x.Taken[3*i+1]:=X0 _ _ _ (by omega)
     have g2:x.Taken.getD (3*i+2) 0=x.Taken[3*i+2]:=X0 _ _ _ c1;generalize x.Taken[3*i]=t0 at *;generalize x.Taken[3*i+1]=t1 at *;generalize x.Taken[3*i+2]=t2 at *;have ww0:IntKind.wrap .i64 t0=t0:=by rw[w64]<;>omega
     have ww1:IntKind.wrap .i64 t1=t1:=by rw[w64]<;>omega
     have ww2:IntKind.wrap .i64 t2=t2:=by rw[w64]<;>omega
     have k0:=X4S t0 (f.Hz0.length:Int) u0.1 (by omega)
     obtain⟨k,hk⟩:∃k:Nat,Int.tmod t0 (f.Hz0.length:Int)=(k:Int):=⟨(Int.tmod t0 (f.Hz0.length:Int)).toNat,by omega⟩
     rw[hk]at k0;have g:k<f.Hz0.length:=by omega
     obtain⟨o1,o2⟩:=Xaw m x ho k g;have i1:decide ((0:Int)<=(k:Int))=true:=by simp
     have i2:decide ((k:Int)<(f.Hz0.length:Int))=true:=by simp[g]
     have a0:f.Hz0.getD k ⟨ByteArray.empty,false,⟨0,0⟩⟩=X4j f (k:Int):=rfl;have p:=m.off _ (jo g);have hfb:0<=X4H f.Hz0[k]/\X4H f.Hz0[k]<=20:=by unfold X4H;split<;>omega
     have a3:X3m f k=f.Hz0[k].Off:=by unfold X3m;rw[dif_pos g]
     have t:X4j f (k:Int)=f.Hz0[k]:=X0 _ _ _ g;have o2':=o2;unfold inS at o2';rw[a3]at o2';have ble1:Nat.ble ((0+b.length)*(32+1)) 200000000000000=true:=by apply Nat.ble_eq_true_of_le;omega
     have ble2:∀s:Zt,Nat.ble (([]++b).length+[s].length |> fun z=>z*(32+1)) 200000000000000=true:=fun s=>by
      apply Nat.ble_eq_true_of_le;simp;omega
     have ble2':∀s:Zt,Nat.ble ((([]++b).length+[s].length)*(32+1)) 200000000000000=true:=ble2;have ble3:∀s:Zt,Nat.ble ((b.length+[s].length)*(32+1)) 200000000000000=true:=fun s=>by
      apply Nat.ble_eq_true_of_le;simp;omega
     simp only[Xe,Xf,a4,o,y,e,e2,e3,e4,e5,e6,e7,ei,ju,jB,jA,kS,g0,g1,g2,ww0,ww1,ww2,hk,o1,jS,i1,i2,a0];cases hL:(X4j f (k:Int)).Lead
     ·simp only[jA]
      by_cases hm0:f.Hz9.Hz8.length=0
      ·have em:((f.Hz9.Hz8.length:Int)==0)=true:=by simp;exact List.eq_nil_of_length_eq_zero hm0
       rw[em];exact⟨b,rfl,d⟩
      ·have em:((f.Hz9.Hz8.length:Int)==0)=false:=X3v (by omega)
       have m0:=X4S t1 (f.Hz9.Hz8.length:Int) u1.1 (by omega)
       generalize hmk:Int.tmod t1 (f.Hz9.Hz8.length:Int)=mk at *;simp only[em,jA];rw[X8S m mk m0.1 m0.2];simp only[jS]
       by_cases hse:(X59 f mk (atP f x)).2=0
       ·have c:X4u f mk (atP f x)=(X59 f mk (atP f x)).1:=by unfold X4u;rw[if_neg (by simp[hse])]
        have hsb:=Xay m m0.1 m0.2 (atP f x);have hs0:0<=X4u f mk (atP f x):=by
         unfold X59 at hse c
         by_cases q1:X2Y f mk=false
         ·rw[if_pos q1]at hse;simp at hse
         ·rw[if_neg q1]at hse c
          by_cases q2:X3g 30000 (atP f x)=true
          ·rw[if_pos q2]at hse;simp at hse
          ·rw[if_neg q2]at hse c
           by_cases q3:(ZgB f mk).At=atP f x
           ·rw[if_pos q3]at hse;simp at hse
           ·rw[if_neg q3]at c;rw[c];have u:=X7Z m m0.1 m0.2;unfold Bd at u a5;have:=X82 (v:=X1 (ZgB f mk).At (atP f x)) (by unfold X1;simp only;omega) (fun q=>q3 (by unfold X1 at q;simp only at q;exact Point.ext (by omega) (by omega)))
            exact this.1
        have eb:((X59 f mk (atP f x)).2 != 0)=false:=by rw[hse];rfl
        rw[<-c];have a9:X4H f.Hz0[k]=4:=by unfold X4H;rw[<-t,hL];rfl
        rw[a9]at p;generalize hss:X4u f mk (atP f x)=s at *;have w1:IntKind.wrap .i64 (s+X69 f x k)=s+X69 f x k:=by rw[w64]<;>omega
        have w2:IntKind.wrap .i64 (s+X69 f x k+32)=s+X69 f x k+32:=by rw[w64]<;>omega
        have w3:Int.tmod (s+X69 f x k+32) 32=(s+X69 f x k+32) % 32:=Int.tmod_eq_emod_of_nonneg (by omega)
        simp only[eb,jA,w1,w2,w3,ble1,ble2',ble3,jB];rw[X5w];simp only[jS,List.nil_append]
        by_cases hck:(XP f (b++[⟨(k:Int),mk,(s+X69 f x k+32) % 32,0⟩])).2=0
        ·simp only[hck,decide_true,jB];refine⟨_,rfl,X8h d hck fun _=>?_⟩;unfold X2R;rw[hL];simp only[jg,if_false,hss];refine⟨by simp;omega,?_⟩
         unfold inS Xb2;simp only[kS];split<;>omega
        ·simp only[hck,decide_false,jA];exact⟨b,rfl,d⟩
       ·have eb:((X59 f mk (atP f x)).2 != 0)=true:=Wk hse;rw[eb];exact⟨b,rfl,d⟩
     ·simp only[jB];have r:X4H f.Hz0[k]=20:=by unfold X4H;rw[<-t,hL];rfl
      rw[r]at p;obtain⟨ak,ak1,ak2⟩:=X9O (f:=f) m.areas (atP f x);rw[ak1];simp only[jS];rcases ak2 with⟨ak2,ak3⟩|⟨ak2,ak3,ak4⟩
      ·have ea:decide (ak>=0)=false:=by simp;omega
       have d0:=X4S t1 1001 u1.1 (by omega)
       have w1:IntKind.wrap .i64 (Int.tmod t1 1001+X69 f x k)=Int.tmod t1 1001+X69 f x k:=by rw[w64]<;>omega
       simp only[ea,jA,w1,ble1,ble2',ble3,jB];rw[X5w];simp only[jS,List.nil_append]
       by_cases hck:(XP f (b++[⟨(k:Int),0,Int.tmod t1 1001+X69 f x k,0⟩])).2=0
       ·simp only[hck,decide_true,jB];refine⟨_,rfl,X8h d hck fun _=>?_⟩;unfold X2R;rw[hL,ak3];simp only[if_true];refine⟨trivial,?_⟩;unfold inS;simp only[kS];omega
       ·simp only[hck,decide_false,jA];exact⟨b,rfl,d⟩
      ·have ea:decide (ak>=0)=true:=by simp;omega
       have ea1:decide (0<=ak)=true:=by simp;omega
       have ea2:decide (ak<(f.Hz7.length:Int))=true:=by simp;omega
       have ha:=Xav (m.area _ (jo ak3));rw[X0 _ _ _ ak3]at ak4;have a7:f.Hz7.getD ak.toNat ⟨⟨0,0⟩,⟨0,0⟩,⟨0,0⟩,0⟩=f.Hz7[ak.toNat]:=X0 _ _ _ ak3;generalize f.Hz7[ak.toNat]=a at *;obtain⟨am1,am2,am3⟩:=X9c (s:=a.Hza) (n:=t1) (by omega) u1.1
       have d2:=X4S t2 2 u2.1 (by omega)
       have mb:=X1I (a:=Int.tmod t2 2) (b:=a.Hz5) 2 4 (by omega) (by omega) (by omega) (by omega)
       have w1:IntKind.wrap .i64 (X6L a.Hza t1+X69 f x k)=X6L a.Hza t1+X69 f x k:=by rw[w64]<;>omega
       have w2:IntKind.wrap .i64 (Int.tmod t2 2*a.Hz5)=Int.tmod t2 2*a.Hz5:=by rw[w64]<;>omega
       simp only[ea,ea1,ea2,a7,am1,ju,jB,jS,w1,w2,ble1,ble2',ble3];rw[X5w];simp only[jS,List.nil_append]
       by_cases hck:(XP f (b++[⟨(k:Int),0,X6L a.Hza t1+X69 f x k,Int.tmod t2 2*a.Hz5⟩])).2=0
       ·simp only[hck,decide_true,jB];refine⟨_,rfl,X8h d hck fun _=>?_⟩;unfold X2R;rw[hL,ak4];simp only[if_true];have a6:Int.tmod t2 2=0\/Int.tmod t2 2=1:=by omega
        refine⟨?_,?_⟩
        ·rcases a6 with h|h<;>simp[h]
        ·unfold inS;simp only[kS];omega
       ·simp only[hck,decide_false,jA];exact⟨b,rfl,d⟩) 0 [] (by omega) ⟨by simp,by simp,by simp⟩
 have a8:X39 (atP f x) x f (0,[])=some w:=h1;rw[a8];exact⟨w,rfl,h2⟩
end Nore
open Go Go.Ab
namespace Nore
def X6l (lo hi:Int):List Int:=(List.range (hi+1-lo).toNat).map fun(k:Nat)=>lo+(k:Int)
theorem X8L {lo hi:Int} (h:¬lo<=hi):X6l lo hi=[]:=by
 unfold X6l;rw[show(hi+1-lo).toNat=0 by omega];rfl
theorem X8l {lo hi:Int} (h:lo<=hi):X6l lo hi=lo::X6l (lo+1) hi:=by
 unfold X6l;rw[show(hi+1-lo).toNat=(hi+1-(lo+1)).toNat+1 by omega,List.range_succ_eq_map]
 simp only[jv,List.map_map];congr 1
 ·omega
 ·apply List.map_congr_left;intro k _;simp only[Function.comp];omega
theorem X5x {lo hi x:Int}:x∈X6l lo hi↔lo<=x/\x<=hi:=by
 simp only[X6l,List.mem_map,List.mem_range];constructor
 ·rintro⟨k,h,rfl⟩;omega
 ·rintro⟨a,b⟩;exact⟨(x-lo).toNat,by omega,by omega⟩
def X7K (x lo hi:Int):List Point:=(X6l lo hi).map fun y=>⟨x,y⟩
def WL (x:Int) (b:ZF):List Point:=(X6l x b.X.Hi).flatMap fun x=>X7K x b.Y.Lo b.Y.Hi
def X6n (b:ZF):List Point:=WL b.X.Lo b
theorem X7x {x:Int} {b:ZF} (h:¬x<=b.X.Hi):WL x b=[]:=by simp[WL,X8L h]
theorem X74 {x:Int} {b:ZF} (h:x<=b.X.Hi):WL x b=X7K x b.Y.Lo b.Y.Hi++WL (x+1) b:=by simp[WL,X8l h]
theorem X9W {b:ZF} {p:Point}:p∈X6n b↔b.X.Lo<=p.X/\p.X<=b.X.Hi/\b.Y.Lo<=p.Y/\p.Y<=b.Y.Hi:=by
 simp only[X6n,WL,List.mem_flatMap,X7K,List.mem_map,X5x];constructor
 ·rintro⟨x,⟨a,c⟩,y,⟨d,e⟩,rfl⟩;exact⟨a,c,d,e⟩
 ·rintro⟨a,c,d,e⟩;exact⟨p.X,⟨a,c⟩,p.Y,⟨d,e⟩,rfl⟩
theorem X9f (i:Nat) (h:i<1000000):IntKind.wrap .i64 ((i:Int)+1)=((i+1:Nat):Int):=by rw[w64]<;>omega
def X5I (G:Point->Point->Bool):Point->List Point->Bool
 | _,[]=>true
 | last,p::r=>G last p&&X5I G p r
theorem Xa2 (G:Point->Point->Bool) (l:List Point):∀k i,i+k=l.length->1<=i->(hi:i-1<l.length)->(X5I G l[i-1] (l.drop i)=true↔∀j,(d:i<=j)->(f:j<l.length)->G l[j-1] l[j]=true):=by
 intro k
 induction k with
 | zero =>
  intro i m d hi;rw[jd (by omega)]
  simp[X5I];intro j d f;omega
 | succ k ih =>
  intro i m d hi;have c:i<l.length:=by omega
  rw[jb c];simp only[X5I,jn];have:=ih (i+1) (by omega) (by omega) (by omega)
  simp only[Nat.add_sub_cancel]at this;rw[this];constructor
  ·rintro⟨g,h⟩ j a b
   by_cases e:j=i
   ·subst e;exact g
   ·exact h j (by omega) b
  ·intro h;exact⟨h i (by omega) c,fun j a b=>h j (by omega) b⟩
theorem Xa1 (G:Point->Point->Bool) (l:List Point) (g:1<=l.length):X5I G (l.getD (l.length-1) P0) l=X1C (fun i=>G (l.getD i P0) (l.getD ((i+1) % l.length) P0)) 0 l.length:=by
 rw[Bool.eq_iff_iff];have e:X5I G (l.getD (l.length-1) P0) l=(G l[l.length-1] l[0]&&X5I G l[1-1] (l.drop 1)):=by
  rw[X0 _ _ _ (by omega)]
  conv=>lhs;arg 3;rw[show l=l[0]::l.drop 1 by rw[<-jb (by omega)];rfl]
  rfl
 rw[e];simp only[jn];rw[Xa2 G l (l.length-1) 1 (by omega) (by omega) (by omega)]
 rw[X6K];constructor
 ·rintro⟨c,h⟩ i _ hi;have b:i<l.length:=by omega
  have a:(i+1) % l.length<l.length:=Nat.mod_lt _ (by omega)
  rw[X0 _ _ _ b,X0 _ _ _ a]
  by_cases hh:i+1<l.length
  ·have:=h (i+1) (by omega) hh
   simp only[Nat.mod_eq_of_lt hh];simpa using this
  ·have e1:i=l.length-1:=by omega
   subst e1;simp only[show l.length-1+1=l.length by omega,Nat.mod_self]
   exact c
 ·intro h;constructor
  ·have:=h (l.length-1) (by omega) (by omega)
   have a:(l.length-1+1) % l.length<l.length:=Nat.mod_lt _ (by omega)
   rw[X0 _ _ _ (by omega),X0 _ _ _ a]at this
   simpa only[show l.length-1+1=l.length by omega,Nat.mod_self]using this
  ·intro j f d;have:=h (j-1) (by omega) (by omega)
   have a:(j-1+1) % l.length<l.length:=Nat.mod_lt _ (by omega)
   rw[X0 _ _ _ (by omega),X0 _ _ _ a]at this
   simpa only[show j-1+1=j by omega,Nat.mod_eq_of_lt d]using this
def X5H (at_ mv a b:Point):Bool:=decide (0<=Xj (X1 b a) (X1 (X1 at_ mv) a))
def X4C (s:CtSand) (mv at_:Point):Bool:=X1C (fun i=>X5H at_ mv (s.Hz2.getD i P0) (s.Hz2.getD ((i+1) % s.Hz2.length) P0)) 0 s.Hz2.length
structure X5i (s:CtSand):Prop where
 len:3<=s.Hz2.length/\s.Hz2.length<=8
 far:s.Hz2.any (X3g 10000)=false
 box:X6M s.Hzc 500 40=0
 round:X7J s.Hz2=true
theorem XaI {s:CtSand} (h:X7h s=0):X5i s:=by
 unfold X7h at h;split at h
 ·simp at h
 ·rename_i b;split at h
  ·simp at h
  ·rename_i d;split at h
   ·rename_i a;split at h
    ·rename_i c;simp at b;exact⟨by omega,by simpa using d,a,c⟩
    ·simp at h
   ·rename_i a;exact absurd h a
theorem X4E {b:ZF} (a:X6M b 500 40=0) : -500<=b.X.Lo/\b.X.Lo<=b.X.Hi/\b.X.Hi<=500/\b.X.Hi<=b.X.Lo+40 /\ -500<=b.Y.Lo/\b.Y.Lo<=b.Y.Hi/\b.Y.Hi<=500/\b.Y.Hi<=b.Y.Lo+40:=by
 unfold X6M at a;split at a
 ·simp at a
 ·split at a
  ·simp at a
  ·rename_i c d;simp at c d;omega
theorem X94 (s:CtSand) (mv at_:Point) (m:X5i s) (k:Bd 500 mv) (j:Bd 10000 at_):X5C s mv at_=some (X4C s mv at_):=by
 unfold X5C X4C;obtain⟨n,f,_,_⟩:=m;generalize hll:s.Hz2=l at *;unfold X4n;refine(X5 (X1l l mv s at_) (fun o409=>Sum.elim (fun y410:Bool=>some y410) (fun _:Unit=>some true) o409) l.length (fun i (_:Unit)=>(i:Int)) (fun _ _=>True) (fun i _=>some (X1C (fun i=>X5H at_ mv (l.getD i P0) (l.getD ((i+1) % l.length) P0)) i (l.length-i))) ?_ ?_ 0 () (by omega) trivial)
 ·intro b _ R;simp[X1l,X1v,X1C]
 ·intro i b hi _ R g;have d:=g () trivial;have e:(i+1) % l.length<l.length:=Nat.mod_lt _ (by omega)
  rw[show l.length-i=(l.length-(i+1))+1 by omega]
  simp only[X1C];simp only[X1l,X1v];rw[X9f i (by omega)]
  have c:Int.tmod ((i+1:Nat):Int) (l.length:Int)=(((i+1) % l.length:Nat):Int):=rfl;rw[c,kS,kS,X0 _ _ _ hi,X0 _ _ _ e,X0 _ _ _ hi,X0 _ _ _ e];have b1:=X3G f i hi;have b2:=X3G f _ e;unfold Bd at b1 b2 k j;rw[X2p 10000 (by omega) (a:=l[(i+1) % l.length].X) ⟨b2.1,b2.2.1⟩ ⟨b1.1,b1.2.1⟩,X2p 10000 (by omega) (a:=l[(i+1) % l.length].Y) b2.2.2 b1.2.2,X2p 10000 (by omega) (a:=at_.X) (by omega) (by omega),X2p 10000 (by omega) (a:=at_.Y) (by omega) (by omega),
   X2p 20000 (by omega) (a:=at_.X-mv.X) (by omega) (by omega),X2p 20000 (by omega) (a:=at_.Y-mv.Y) (by omega) (by omega)]
  rw[X8c 2000000 rfl (by omega) (by omega) (by omega) (by omega)]
  have d1:decide ((i:Int)<↑l.length)=true:=by simp[hi]
  have d2:=z0S i;have d3:((l.length:Int)==0)=false:=by rw[beq_eq_false_iff_ne];omega
  have d5:decide (((((i+1) % l.length:Nat)):Int)<↑l.length)=true:=by rw[jl];omega
  have d6:decide ((0:Int)<=(((i+1) % l.length:Nat):Int))=true:=by rw[jl];omega
  simp only[d1,d2,d3,d5,d6,ju,jB,jA];change Option.bind (bif decide (Xj (X1 l[(i+1) % l.length] l[i]) (X1 (X1 at_ mv) l[i])<0)then _ else _) _=some (X5H at_ mv l[i] l[(i+1) % l.length]&&_)
  by_cases h:Xj (X1 l[(i+1) % l.length] l[i]) (X1 (X1 at_ mv) l[i])<0
  ·have:X5H at_ mv l[i] l[(i+1) % l.length]=false:=by simp only[X5H,decide_eq_false_iff_not];omega
   simp[h,this]
  ·have:X5H at_ mv l[i] l[(i+1) % l.length]=true:=by simp only[X5H,jl];omega
   simp only[h,this,decide_false,jA,jS,jz,Bool.true_and];exact d
theorem X8K (n b:Int) (a:0<b) (e : -1000000000000<=n/\n<=1000000000000):∃f,X3U n b=some f/\b*f<=n/\n<b*(f+1) /\ -1000000000001<=f/\f<=1000000000000:=by
 have d:=Int.mul_tdiv_add_tmod n b;have g:(Int.tdiv n b).natAbs<=n.natAbs:=Int.natAbs_tdiv_le_natAbs n b;have h:Int.tmod n b<b:=Int.tmod_lt_of_pos n a;have i : -b<Int.tmod n b:=by
  have:=Int.neg_emod_two;have c:(Int.tmod (-n) b)<b:=Int.tmod_lt_of_pos (-n) a;rw[Int.neg_tmod]at c;omega
 unfold X3U;have e0:(b==0)=false:=X3v (by omega)
 rw[e0];simp only[jA];have w1:IntKind.wrap .i64 (Int.tdiv n b)=Int.tdiv n b:=by rw[w64]<;>omega
 rw[w1];generalize Int.tdiv n b=q at *;generalize Int.tmod n b=r at *
 by_cases hr:r<0
 ·have w2:IntKind.wrap .i64 (q-1)=q-1:=by rw[w64]<;>omega
  refine⟨q-1,by rw[w2];simp[hr],?_,?_,by omega,by omega⟩
  ·rw[Int.mul_sub,Int.mul_one];omega
  ·rw[show q-1+1=q by omega];omega
 ·refine⟨q,by simp[hr],by omega,?_,by omega,by omega⟩
  rw[Int.mul_add,Int.mul_one];omega
theorem XaQ (e:Z8) (f least:Int) (j : -100000<=f/\f<=100000) (i : -10000000000<=least/\least<=10000000000) (d : -1000000000002<=e.lo/\e.lo<=1000000000002 /\ -1000000000004<=e.hi/\e.hi<=1000000000002) :
  ∃e',X1p e f least=some e'/\(∀t,(e'.lo<=t/\t<=e'.hi)↔((e.lo<=t/\t<=e.hi)/\least<=f*t))/\(-1000000000002<=e'.lo/\e'.lo<=1000000000002 /\ -1000000000004<=e'.hi/\e'.hi<=1000000000002):=by
 unfold X1p;have w1:IntKind.wrap .i64 (0-least) = -least:=by rw[w64]<;>omega
 have w2:IntKind.wrap .i64 (0-f) = -f:=by rw[w64]<;>omega
 have w3:IntKind.wrap .i64 (e.lo-1)=e.lo-1:=by rw[w64]<;>omega
 rw[w1,w2,w3]
 by_cases h1:f>0
 ·obtain⟨g,g1,g2,g3,g4,g5⟩:=X8K (-least) f h1 (by omega)
  have w4:IntKind.wrap .i64 (0-g) = -g:=by rw[w64]<;>omega
  rw[g1];simp only[h1,decide_true,jB,jS,w4];have a:∀t,-g<=t↔least<=f*t:=fun t=>by
   constructor
   ·intro h;have:=Int.mul_le_mul_of_nonneg_left h (show 0<=f by omega)
    rw[Int.mul_neg]at this;omega
   ·intro h;apply Int.not_lt.1;intro hc;have c:g+1 <= -t:=by omega
    have:=Int.mul_le_mul_of_nonneg_left c (show 0<=f by omega)
    rw[Int.mul_neg]at this;omega
  by_cases h2 : -g>e.lo
  ·refine⟨⟨-g,e.hi⟩,by simp[h2],fun t=>?_,by simp only;omega⟩
   rw[<-a t];simp only;omega
  ·refine⟨⟨e.lo,e.hi⟩,by simp[h2],fun t=>?_,by simp only;omega⟩
   rw[<-a t];simp only;omega
 ·by_cases h2:f<0
  ·obtain⟨g,g1,g2,g3,g4,g5⟩:=X8K (-least) (-f) (by omega) (by omega)
   rw[g1];simp only[h1,h2,decide_true,decide_false,jB,jA,jS];have a:∀t,t<=g↔least<=f*t:=fun t=>by
    constructor
    ·intro h;have:=Int.mul_le_mul_of_nonneg_left h (show 0 <= -f by omega)
     rw[Int.neg_mul]at this;omega
    ·intro h;apply Int.not_lt.1;intro hc;have c:g+1<=t:=by omega
     have:=Int.mul_le_mul_of_nonneg_left c (show 0 <= -f by omega)
     rw[Int.neg_mul (b:=t)]at this;omega
   by_cases h3:g<e.hi
   ·refine⟨⟨e.lo,g⟩,by simp[h3],fun t=>?_,by simp only;omega⟩
    rw[<-a t];simp only;omega
   ·refine⟨⟨e.lo,e.hi⟩,by simp[h3],fun t=>?_,by simp only;omega⟩
    rw[<-a t];simp only;omega
  ·have hz:f=0:=by omega
   subst hz
   by_cases h3:least>0
   ·refine⟨⟨e.lo,e.lo-1⟩,by simp[h3],fun t=>?_,by simp only;omega⟩
    rw[Int.zero_mul];simp only;omega
   ·refine⟨e,by simp[h3],fun t=>?_,d⟩
    rw[Int.zero_mul];omega
theorem XaH (s:CtSand) (x:Int) (at_:Point) (o:X5i s) (hx : -500<=x/\x<=500) (k:Bd 10000 at_) :
  ∃e,X2H ⟨s⟩ x at_=some e/\∀t,(e.lo<=t/\t<=e.hi)↔((s.Hzc.Y.Lo<=t/\t<=s.Hzc.Y.Hi)/\X4C s ⟨x,t⟩ at_=true):=by
 have z:=X4E o.box;obtain⟨hl,m,_,_⟩:=o;have j:∀t,X4C s ⟨x,t⟩ at_=X5I (fun a b=>X5H at_ ⟨x,t⟩ a b) (s.Hz2.getD (s.Hz2.length-1) P0) s.Hz2:=fun t=>(Xa1 _ _ (by omega)).symm
 simp only[j];unfold X2H;have hw:IntKind.wrap .i64 ((s.Hz2.length:Int)-1)=(s.Hz2.length:Int)-1:=by rw[w64]<;>omega
 have ht:((s.Hz2.length:Int)-1).toNat=s.Hz2.length-1:=by omega
 have y:decide ((0:Int)<=(s.Hz2.length:Int)-1)=true:=by rw[jl];omega
 have h2:decide ((s.Hz2.length:Int)-1<(s.Hz2.length:Int))=true:=by rw[jl];omega
 simp only[hw,ht,y,h2,ju,jB];have f:Bd 10000 (s.Hz2.getD (s.Hz2.length-1) P0):=by
  rw[X0 _ _ _ (by omega)];exact X3G m _ (by omega)
 unfold X2u;have gen:∀(n i:Nat) (e:Z8) (last:Point),i+n=s.Hz2.length->Bd 10000 last->(-1000000000002<=e.lo/\e.lo<=1000000000002 /\ -1000000000004<=e.hi/\e.hi<=1000000000002) →
   ∃e',Option.bind (Z9t (Xt (↑s.Hz2.length) s.Hz2 x ⟨s⟩ at_ ⟨0,0⟩ ⟨s⟩ x ⟨s⟩ at_) ((i:Int),e,last)) (fun o288=>some o288.fst)=some e'/\∀t,(e'.lo<=t/\t<=e'.hi)↔((e.lo<=t/\t<=e.hi)/\X5I (fun a b=>X5H at_ ⟨x,t⟩ a b) last (s.Hz2.drop i)=true):=by
  intro n
  induction n with
  | zero =>
   intro i e last hi d l;refine⟨e,?_,fun t=>?_⟩
   ·rw[X2o];have d1:decide ((i:Int)<↑s.Hz2.length)=false:=by rw[decide_eq_false_iff_not];omega
    simp only[Xt,XE,d1,jA,jS,jw]
   ·rw[jd (by omega)];simp[X5I]
  | succ n ih =>
   intro i e last hi d l;have h:i<s.Hz2.length:=by omega
   have bp:=X3G m i h;have bp':=bp;have r:=d;unfold Bd at bp d k;rw[X2o,jb h];simp only[Xt,XE];rw[kS,X0 _ _ _ h,X9f i (by omega)]
   rw[X2p 10000 (by omega) (a:=s.Hz2[i].X) ⟨bp.1,bp.2.1⟩ ⟨d.1,d.2.1⟩,X2p 10000 (by omega) (a:=s.Hz2[i].Y) bp.2.2 d.2.2,X2p 10000 (by omega) (a:=at_.X) ⟨k.1,k.2.1⟩ ⟨d.1,d.2.1⟩,X2p 10000 (by omega) (a:=at_.Y) k.2.2 d.2.2,X2p 20000 (by omega) (a:=at_.X-last.X) (by omega) (by omega)]
   have wn:IntKind.wrap .i64 (0-(s.Hz2[i].X-last.X)) = -(s.Hz2[i].X-last.X):=by rw[w64]<;>omega
   rw[wn,X8c 2000000 rfl (by omega) (by omega) (by omega) (by omega)]
   have d1:decide ((i:Int)<↑s.Hz2.length)=true:=by rw[jl];omega
   have d2:=z0S i;simp only[d1,d2,ju,jB];have m1:=X1I 20000 20500 (a:=s.Hz2[i].Y-last.Y) (b:=at_.X-last.X-x) (by omega) (by omega) (by omega) (by omega)
   have m2:=X1I 20000 20000 (a:=s.Hz2[i].X-last.X) (b:=at_.Y-last.Y) (by omega) (by omega) (by omega) (by omega)
   obtain⟨e1,c1,c2,c3⟩:=XaQ e (-(s.Hz2[i].X-last.X)) ((s.Hz2[i].Y-last.Y)*(at_.X-last.X-x)-(s.Hz2[i].X-last.X)*(at_.Y-last.Y)) (by omega) (by omega) l
   rw[c1];simp only[jS,jz];obtain⟨e2,i1,i2⟩:=ih (i+1) e1 s.Hz2[i] (by omega) bp' c3
   refine⟨e2,i1,fun t=>?_⟩;rw[i2 t,c2 t];simp only[X5I,jn];have g:X5H at_ ⟨x,t⟩ last s.Hz2[i]=true↔(s.Hz2[i].Y-last.Y)*(at_.X-last.X-x)-(s.Hz2[i].X-last.X)*(at_.Y-last.Y) <= -(s.Hz2[i].X-last.X)*t:=by
    unfold X5H;rw[jl];simp only[Xj,X1];generalize s.Hz2[i].X-last.X=u;generalize s.Hz2[i].Y-last.Y=v;rw[show at_.X-x-last.X=at_.X-last.X-x by omega,show at_.Y-t-last.Y=(at_.Y-last.Y)-t by omega]
    generalize at_.X-last.X-x=p;generalize at_.Y-last.Y=q;rw[Int.mul_sub,Int.neg_mul];omega
   rw[g];constructor
   ·rintro⟨⟨a,b⟩,c⟩;exact⟨a,b,c⟩
   ·rintro⟨a,b,c⟩;exact⟨⟨a,b⟩,c⟩
 obtain⟨e,h3,w⟩:=gen s.Hz2.length 0 ⟨s.Hzc.Y.Lo,s.Hzc.Y.Hi⟩ _ (by omega) f (by simp only;omega)
 exact⟨e,h3,w⟩
def X8B (s:CtSand) (at_:Point):Bool:=(X6n s.Hzc).any fun mv=>X4C s mv at_
def Xau (s:CtSand) (at_:Point):Bool:=(X6n s.Hzc).all fun mv=>X4C s mv at_
def onL (at_:Point):Nat->List CtSand->List Int×List Int
 | _,[]=>([],[])
 | i,s::l=>(if Xau s at_ then(i:Int)::(onL at_ (i+1) l).1 else(onL at_ (i+1) l).1,if X8B s at_ then(i:Int)::(onL at_ (i+1) l).2 else(onL at_ (i+1) l).2)
def X81 (c:Zo) (at_:Point):Int:=if(X2g c).2.2=0 then(if X3g 10000 at_ then 7 else 0)else(X2g c).2.2
def onN (c:Zo) (at_:Point):List Int×List Int×Int:=if X81 c at_=0 then((onL at_ 0 c.Hzb).1,(onL at_ 0 c.Hzb).2,0)else([],[],X81 c at_)
theorem X6R {c:Zo} (h:(X2g c).2.2=0):c.Hzb.length<=4/\∀s,s∈c.Hzb->X5i s:=by
 unfold X2g at h;split at h
 ·simp at h
 ·have sands:∀(l:List CtSand) (i:Nat) (names:List ByteArray),(X4X i names l).2.2=0->∀s,s∈l->X5i s:=by
   intro l
   induction l with
   | nil=>intro i names _ s a;cases a
   | cons t l ih =>
    intro i names h s a;unfold X4X at h
    by_cases he:X5Y t names=0
    ·rw[if_pos he]at h;rcases jr.1 a with rfl|a
     ·apply XaI;unfold X5Y at he;split at he
      ·exact he
      ·rename_i b;exact absurd he b
     ·exact ih _ _ h s a
    ·rw[if_neg he]at h;exact absurd h he
  have marks:∀(l:List ZC) (i:Nat) (names:List ByteArray),(X4D c.Hzb i names l).2.2=0->c.Hzb.length<=4/\∀s,s∈c.Hzb->X5i s:=by
   intro l
   induction l with
   | nil =>
    intro i names h;unfold X4D at h;split at h
    ·simp at h
    ·exact⟨by omega,sands _ _ _ h⟩
   | cons t l ih =>
    intro i names h;unfold X4D at h
    by_cases he:X4l t names=0
    ·rw[if_pos he]at h;exact ih _ _ h
    ·rw[if_neg he]at h;exact absurd h he
  exact marks _ _ _ h
theorem X91 (c:Zo) (at_:Point):X5m c at_=some (X81 c at_):=by
 unfold X5m X81;rw[X5k,X5d _ (by omega) _ (by simp)]
 simp only[jS,List.any_cons,List.any_nil,Bool.or_false]
 by_cases h:(X2g c).2.2=0
 ·rw[h];cases X3g 10000 at_<;>simp
 ·rw[X3v h,if_neg h];rfl
theorem X9X {c:Zo} {at_:Point} (h:X81 c at_=0):(X2g c).2.2=0/\Bd 10000 at_:=by
 unfold X81 at h;split at h
 ·rename_i a;refine⟨a,?_⟩;split at h
  ·simp at h
  ·rename_i b;exact(X5M _ _).1 (by simpa using b)
 ·rename_i a;exact absurd h a
theorem X8H (s:CtSand) (at_:Point) (o:X5i s) (y:Bd 10000 at_) (x0 x1:Int) (x4:List CtSand) (x7:Int) (x8:List Int) (x11:CtSand) (x12:Zo) (x13:List Int) :
  X3H x0 x1 (IntKind.wrap .i64 (IntKind.wrap .i64 (s.Hzc.X.Hi-s.Hzc.X.Lo)+1)) x4 x7 x8 at_ x11 x12 x13 ⟨s⟩ (false,true,0)=some (X8B s at_,Xau s at_):=by
 have v:=X4E o.box;have w:IntKind.wrap .i64 (IntKind.wrap .i64 (s.Hzc.X.Hi-s.Hzc.X.Lo)+1)=(((s.Hzc.X.Hi+1-s.Hzc.X.Lo).toNat:Nat):Int):=by
  rw[w64 (x:=s.Hzc.X.Hi-s.Hzc.X.Lo) (by omega) (by omega),w64]<;>omega
 rw[w];unfold X3H;have c:∀i:Nat,i<(s.Hzc.X.Hi+1-s.Hzc.X.Lo).toNat->WL (s.Hzc.X.Lo+(i:Int)) s.Hzc=X7K (s.Hzc.X.Lo+(i:Int)) s.Hzc.Y.Lo s.Hzc.Y.Hi++WL (s.Hzc.X.Lo+((i+1:Nat):Int)) s.Hzc:=fun i hi=>by
  rw[X74 (by omega)]
  congr 2;omega
 have key:=X6d (X29 x0 x1 (((s.Hzc.X.Hi+1-s.Hzc.X.Lo).toNat:Nat):Int) x4 x7 x8 at_ x11 x12 x13 ⟨s⟩) (s.Hzc.X.Hi+1-s.Hzc.X.Lo).toNat (fun i (b:Bool×Bool)=>(b.1,b.2,(i:Int))) (fun _ _=>True)
  (fun i b=>some (b.1||(WL (s.Hzc.X.Lo+(i:Int)) s.Hzc).any fun mv=>X4C s mv at_,b.2&&(WL (s.Hzc.X.Lo+(i:Int)) s.Hzc).all fun mv=>X4C s mv at_))
  (by
   intro b _ R;rw[X7x (by omega)]
   simp[X29,X2a])
  (by
   intro i b hi _ R u;simp only[X29,X2a];have q:IntKind.wrap .i64 (s.Hzc.X.Lo+(i:Int))=s.Hzc.X.Lo+(i:Int):=by rw[w64]<;>omega
   rw[q,X9f i (by omega),c i hi]
   obtain⟨e,r,d⟩:=XaH s (s.Hzc.X.Lo+(i:Int)) at_ o (by omega) y
   rw[r];have d1:decide ((i:Int)<(((s.Hzc.X.Hi+1-s.Hzc.X.Lo).toNat:Nat):Int))=true:=by rw[jl];omega
   simp only[d1,jB,jS,List.any_append,List.all_append];generalize s.Hzc.X.Lo+(i:Int)=x at *;have f:decide (e.lo<=e.hi)=(X7K x s.Hzc.Y.Lo s.Hzc.Y.Hi).any fun mv=>X4C s mv at_:=by
    rw[Bool.eq_iff_iff,jl,List.any_eq_true];constructor
    ·intro h;have:=(d e.lo).1 ⟨Int.le_refl _,h⟩;exact⟨⟨x,e.lo⟩,List.mem_map.2 ⟨e.lo,X5x.2 this.1,rfl⟩,this.2⟩
    ·rintro⟨mv,p,n⟩;obtain⟨t,m,rfl⟩:=List.mem_map.1 p;have:=(d t).2 ⟨X5x.1 m,n⟩;omega
   have j:(e.lo==s.Hzc.Y.Lo&&(e.hi==s.Hzc.Y.Hi&&true))=(X7K x s.Hzc.Y.Lo s.Hzc.Y.Hi).all fun mv=>X4C s mv at_:=by
    rw[Bool.eq_iff_iff,List.all_eq_true];simp only[Bool.and_true,jn,beq_iff_eq];constructor
    ·rintro⟨p,n⟩ mv l;obtain⟨t,m,rfl⟩:=List.mem_map.1 l;have z:=X5x.1 m;exact((d t).1 (by omega)).2
    ·intro h;have k:∀t,s.Hzc.Y.Lo<=t->t<=s.Hzc.Y.Hi->e.lo<=t/\t<=e.hi:=fun t a b=>(d t).2 ⟨⟨a,b⟩,h ⟨x,t⟩ (List.mem_map.2 ⟨t,X5x.2 ⟨a,b⟩,rfl⟩)⟩;have q1:=k s.Hzc.Y.Lo (Int.le_refl _) (by omega)
     have q2:=k s.Hzc.Y.Hi (by omega) (Int.le_refl _)
     have q3:=(d e.lo).1 ⟨Int.le_refl _,by omega⟩
     have q4:=(d e.hi).1 ⟨by omega,Int.le_refl _⟩
     omega
   rw[j,f];generalize ((X7K x s.Hzc.Y.Lo s.Hzc.Y.Hi).any fun mv=>X4C s mv at_)=A at *;generalize ((X7K x s.Hzc.Y.Lo s.Hzc.Y.Hi).all fun mv=>X4C s mv at_)=B at *;have g:=u (b.1||A,b.2&&B) trivial;simp only[<-Bool.or_assoc,<-Bool.and_assoc]at g⊢;rw[<-g];cases b.1<;>cases b.2<;>simp)
 have:=key 0 (false,true) (by omega) trivial
 simpa[X8B,Xau,X6n]using this
theorem X9w (c:Zo) (at_:Point):X6N c at_=some (onN c at_):=by
 unfold X6N onN;rw[X91];simp only[jS]
 by_cases h:X81 c at_=0
 ·obtain⟨hc,e⟩:=X9X h;obtain⟨j,f⟩:=X6R hc;rw[if_pos h,h];simp only[jk,jA];refine(X5 (X27 c.Hzb (↑c.Hzb.length) at_ c) (fun o293=>some (o293.fst,o293.snd,(0:Int))) c.Hzb.length (fun i (b:List Int×List Int)=>((i:Int),b.1,b.2)) (fun i b=>b.1.length<=i/\b.2.length<=i) (fun i b=>some (b.1++(onL at_ i (c.Hzb.drop i)).1,b.2++(onL at_ i (c.Hzb.drop i)).2,(0:Int))) ?_ ?_ 0 ([],[]) (by omega) (by simp)).trans (by simp)
  ·intro b _ R;simp[X27,X28,onL]
  ·intro i b hi g R a;simp only[X27,X28];rw[jb hi,kS,X0 _ _ _ hi,X9f i (by omega)]
   have d:=f c.Hzb[i] (jo hi);have e0:(⟨c.Hzb[i].Name,c.Hzb[i].Hz2,c.Hzb[i].Hzc⟩:CtSand)=c.Hzb[i]:=rfl;rw[e0,X8H c.Hzb[i] at_ d e];have d1:decide ((i:Int)<↑c.Hzb.length)=true:=by simp[hi]
   have d2:=z0S i;have d3:Nat.ble ((b.1.length+[(i:Int)].length)*(8+1)) 200000000000000=true:=by rw[Nat.ble_eq];simp;omega
   have d4:Nat.ble ((b.2.length+[(i:Int)].length)*(8+1)) 200000000000000=true:=by rw[Nat.ble_eq];simp;omega
   simp only[d1,d2,d3,d4,ju,jB,jS,onL];cases hA:Xau c.Hzb[i] at_<;>cases hB:X8B c.Hzb[i] at_
   ·simp only[jA,jS,jz,jg,if_false];exact a b (by omega)
   ·simp only[jA,jB,jS,jz,jg,if_false,if_true];rw[a (b.1,b.2++[(i:Int)]) (by simp;omega)]
    simp only[jj,List.cons_append,List.nil_append]
   ·simp only[jA,jB,jS,jz,jg,if_false,if_true];rw[a (b.1++[(i:Int)],b.2) (by simp;omega)]
    simp only[jj,List.cons_append,List.nil_append]
   ·simp only[jB,jS,jz,if_true];rw[a (b.1++[(i:Int)],b.2++[(i:Int)]) (by simp;omega)]
    simp only[jj,List.cons_append,List.nil_append]
 ·rw[if_neg h,Wk h];rfl
end Nore
open Go Go.Ab Go.Proofs.YtaaalkppbbpacaaGreatDoor
namespace Nore
theorem X9J {β σ ω:Type} (st:σ->Option (σ⊕ω)) (lo:Int) (n:Nat) (emb:Int->β->σ) (P:Nat->β->Prop) (Q:ω->Prop)
  (c:∀b,P n b->∃w,st (emb (lo+n) b)=some (.inr w)/\Q w) (d:∀i b,i<n->P i b->∃b',st (emb (lo+i) b)=some (.inl (emb (lo+i+1) b'))/\P (i+1) b') (b:β) (h:P 0 b):∃w,Z9t st (emb lo b)=some w/\Q w:=by
 have:=X4R st n (fun i b=>emb (lo+i) b) P Q c (fun i b hi f=>.inr (by
  obtain⟨b',a,e⟩:=d i b hi f;exact⟨b',by rw[a];congr 3;omega,e⟩)) 0 b (Nat.zero_le _) h
 simpa using this
theorem Xa0 (m:ZC) (t:Bd 30000 m.At) (b:ZF) (c:Zo) (x:Int) (z : -30000<=x/\x<=30000) (hy : -30000<=b.Y.Lo/\b.Y.Hi<=30000/\b.Y.Lo<=b.Y.Hi/\b.Y.Hi-b.Y.Lo<=40) (k:Nat) (v:k<=41) (S:Point->Prop)
  (f:Nat->Int) (q:(∀j,0<=f j/\f j<=41*k)/\∀p,S p->p≠m.At->0<f (X2m (X1 m.At p)).toNat) :
  ∃g,X21 x m b c (b.Y.Lo,f)=some g/\(∀j,0<=g j/\g j<=41*(k+1))/\∀p,(S p\/(p.X=x/\b.Y.Lo<=p.Y/\p.Y<=b.Y.Hi))->p≠m.At->0<g (X2m (X1 m.At p)).toNat:=by
 unfold X21;obtain⟨w,r,s⟩:=X9J (W6 x m b c) b.Y.Lo (b.Y.Hi-b.Y.Lo+1).toNat (fun y f=>(y,f))
  (fun i g=>(∀j,0<=g j/\g j<=41*k+i)/\∀p,(S p\/(p.X=x/\b.Y.Lo<=p.Y/\p.Y<b.Y.Lo+i))->p≠m.At->0<g (X2m (X1 m.At p)).toNat)
  (fun g=>(∀j,0<=g j/\g j<=41*(k+1))/\∀p,(S p\/(p.X=x/\b.Y.Lo<=p.Y/\p.Y<=b.Y.Hi))->p≠m.At->0<g (X2m (X1 m.At p)).toNat)
  (fun g ⟨k1,k2⟩=>⟨g,by
   have e:decide (b.Y.Lo+((b.Y.Hi-b.Y.Lo+1).toNat:Int)<=b.Y.Hi)=false:=by simp;omega
   simp only[W6,Wn,e,jA],fun j=>by have:=k1 j;omega,fun p d a=>k2 p (d.imp id fun⟨a1,a2,a3⟩=>⟨a1,a2,by omega⟩) a⟩)
  (fun i g hi ⟨k1,k2⟩=>by
   have e:decide (b.Y.Lo+(i:Int)<=b.Y.Hi)=true:=by simp;omega
   have w1:IntKind.wrap .i64 (b.Y.Lo+(i:Int)+1)=b.Y.Lo+(i:Int)+1:=by rw[w64]<;>omega
   simp only[W6,Wn,e,jB,Bool.and_true,w1]
   by_cases heq:m.At=⟨x,b.Y.Lo+i⟩
   ·have o:(x==m.At.X&&(b.Y.Lo+(i:Int)==m.At.Y))=true:=by rw[heq];simp
    rw[o];refine⟨g,rfl,fun j=>by have:=k1 j;omega,fun p d a=>?_⟩
    refine k2 p ?_ a;rcases d with d|⟨a1,a2,a3⟩
    ·exact .inl d
    ·refine .inr ⟨a1,a2,?_⟩;rcases Int.lt_or_le p.Y (b.Y.Lo+i)with h|h
     ·exact h
     ·exfalso;apply a;rw[heq];exact Point.ext a1 (by simp only;omega)
   ·have o:(x==m.At.X&&(b.Y.Lo+(i:Int)==m.At.Y))=false:=by
     cases hc:(x==m.At.X&&(b.Y.Lo+(i:Int)==m.At.Y))with
     | false=>rfl
     | true =>
      simp only[jn,beq_iff_eq]at hc;exact absurd (Point.ext hc.1.symm hc.2.symm) heq
    unfold Bd at t;have w2:IntKind.wrap .i64 (m.At.X-x)=m.At.X-x:=by rw[w64]<;>omega
    have w3:IntKind.wrap .i64 (m.At.Y-(b.Y.Lo+(i:Int)))=m.At.Y-(b.Y.Lo+(i:Int)):=by rw[w64]<;>omega
    have n:¬((⟨m.At.X-x,m.At.Y-(b.Y.Lo+(i:Int))⟩:Point).X=0/\(⟨m.At.X-x,m.At.Y-(b.Y.Lo+(i:Int))⟩:Point).Y=0):=fun⟨q1,q2⟩=>heq (Point.ext (by have q1':m.At.X-x=0:=q1;show m.At.X=x;omega) (by have q2':m.At.Y-(b.Y.Lo+(i:Int))=0:=q2;show m.At.Y=b.Y.Lo+(i:Int);omega))
    have l : -60000<=(⟨m.At.X-x,m.At.Y-(b.Y.Lo+(i:Int))⟩:Point).X/\(⟨m.At.X-x,m.At.Y-(b.Y.Lo+(i:Int))⟩:Point).X<=60000 /\ -60000<=(⟨m.At.X-x,m.At.Y-(b.Y.Lo+(i:Int))⟩:Point).Y/\(⟨m.At.X-x,m.At.Y-(b.Y.Lo+(i:Int))⟩:Point).Y<=60000:=by
     simp only;omega
    obtain⟨p1,p2⟩:=X82 l n;rw[o,w2,w3,X63 _ l n];generalize hP:X2m (⟨m.At.X-x,m.At.Y-(b.Y.Lo+(i:Int))⟩:Point)=P at *;have d1:decide (0<=P)=true:=by simp;omega
    have d2:decide (P<32)=true:=by simp;omega
    have d2':decide (P<(↑(32:Nat):Int))=true:=by simp;omega
    have d3:Nat.blt P.toNat 32=true:=Nat.ble_eq_true_of_le (by omega)
    have u:=k1 P.toNat;have w4:IntKind.wrap .i64 (g P.toNat+1)=g P.toNat+1:=by rw[w64]<;>omega
    simp only[Bool.not_false,jB,jS,d1,d2,d2',d3,ju,w4];refine⟨_,rfl,fun j=>?_,fun p d a=>?_⟩
    ·cases hb:Nat.beq j P.toNat with
     | true=>simp only[jB];omega
     | false=>simp only[jA];have:=k1 j;omega
    ·cases hb:Nat.beq (X2m (X1 m.At p)).toNat P.toNat with
     | true=>simp only[jB];omega
     | false =>
      simp only[jA];refine k2 p ?_ a;rcases d with d|⟨a1,a2,a3⟩
      ·exact .inl d
      ·refine .inr ⟨a1,a2,?_⟩;rcases Int.lt_or_le p.Y (b.Y.Lo+i)with h|h
       ·exact h
       ·exfalso;have:p=⟨x,b.Y.Lo+i⟩:=Point.ext a1 (by simp only;omega)
        subst this;rw[show X1 m.At ⟨x,b.Y.Lo+i⟩=⟨m.At.X-x,m.At.Y-(b.Y.Lo+(i:Int))⟩from rfl,hP,Nat.beq_refl]at hb;cases hb)
  f ⟨fun j=>by have:=q.1 j;omega,fun p d a=>q.2 p (d.resolve_right fun⟨_,a2,a3⟩=>by omega) a⟩
 exact⟨w,r,s⟩
theorem X8E {b:ZF} (a:X6M b 30000 40=0) : -30000<=b.X.Lo/\b.X.Hi<=30000/\b.X.Lo<=b.X.Hi/\b.X.Hi-b.X.Lo<=40 /\ -30000<=b.Y.Lo/\b.Y.Hi<=30000/\b.Y.Lo<=b.Y.Hi/\b.Y.Hi-b.Y.Lo<=40:=by
 unfold X6M at a;split at a
 ·cases a
 ·split at a
  ·cases a
  ·rename_i c d;simp only[X4F,X77,Bool.or_false,Bool.or_eq_true,jl]at c d;omega
theorem X9Z (m:ZC) (n:Bd 30000 m.At) (b:ZF) (c:Zo) (k:X6M b 30000 40=0) :
  ∃g,X10 m b c (b.X.Lo,fun _=>0)=some g/\(∀j,0<=g j/\g j<=1681)/\∀p,(b.X.Lo<=p.X/\p.X<=b.X.Hi/\b.Y.Lo<=p.Y/\p.Y<=b.Y.Hi)->p≠m.At->0<g (X2m (X1 m.At p)).toNat:=by
 obtain⟨x1,x2,x3,x4,y1,y2,y3,y4⟩:=X8E k;unfold X10;obtain⟨w,h,l⟩:=X9J (W5 m b c) b.X.Lo (b.X.Hi-b.X.Lo+1).toNat (fun x f=>(x,f))
  (fun i g=>(∀j,0<=g j/\g j<=41*(i:Nat))/\∀p,(b.X.Lo<=p.X/\p.X<b.X.Lo+i/\b.Y.Lo<=p.Y/\p.Y<=b.Y.Hi)->p≠m.At->0<g (X2m (X1 m.At p)).toNat)
  (fun g=>(∀j,0<=g j/\g j<=1681)/\∀p,(b.X.Lo<=p.X/\p.X<=b.X.Hi/\b.Y.Lo<=p.Y/\p.Y<=b.Y.Hi)->p≠m.At->0<g (X2m (X1 m.At p)).toNat)
  (fun g ⟨k1,k2⟩=>⟨g,by
   have e:decide (b.X.Lo+((b.X.Hi-b.X.Lo+1).toNat:Int)<=b.X.Hi)=false:=by simp;omega
   simp only[W5,Wm,e,jA],fun j=>by have:=k1 j;omega,fun p d a=>k2 p (by omega) a⟩)
  (fun i g hi ⟨k1,k2⟩=>by
   have e:decide (b.X.Lo+(i:Int)<=b.X.Hi)=true:=by simp;omega
   have w1:IntKind.wrap .i64 (b.X.Lo+(i:Int)+1)=b.X.Lo+(i:Int)+1:=by rw[w64]<;>omega
   obtain⟨g',q1,q2,q3⟩:=Xa0 m n b c (b.X.Lo+i) (by omega) (by omega) i (by omega) (fun p=>b.X.Lo<=p.X/\p.X<b.X.Lo+i/\b.Y.Lo<=p.Y/\p.Y<=b.Y.Hi) g ⟨k1,k2⟩
   refine⟨g',?_,fun j=>by have:=q2 j;omega,fun p d a=>q3 p ?_ a⟩
   ·simp only[W5,Wm,e,jB,q1,jS,w1]
   ·by_cases hx:p.X=b.X.Lo+i
    ·exact .inr ⟨hx,by omega,by omega⟩
    ·exact .inl (by omega))
  (fun _=>0) ⟨fun j=>⟨Int.le_refl _,by simp⟩,fun p d=>by omega⟩
 exact⟨w,h,l⟩
theorem X9G (g:Nat->Int):∃L:List Int,X22 g (0,[])=some L/\L.length<=32/\∀j:Nat,j<32->0<g j->(j:Int)∈L:=by
 unfold X22;obtain⟨w,c,d⟩:=X4R (W7 g) 32 (fun i (l:List Int)=>((i:Int),l)) (fun i l=>l.length<=i/\∀j:Nat,j<i->0<g j->(j:Int)∈l) (fun l=>l.length<=32/\∀j:Nat,j<32->0<g j->(j:Int)∈l)
  (fun l ⟨k1,k2⟩=>⟨l,by simp[W7,Wo],k1,k2⟩)
  (fun i l hi ⟨k1,k2⟩=>by
   right;have e1:decide ((i:Int)<32)=true:=by simp;omega
   have e2:decide ((0:Int)<=(i:Int))=true:=by simp
   have e3:decide ((i:Int)<(↑(32:Nat):Int))=true:=by simp;omega
   have w1:=wS i (by omega)
   simp only[W7,Wo,e1,e2,e3,jB,ju,w1,kS]
   by_cases hg:g i>0
   ·have e4:Nat.ble ((l.length+[(i:Int)].length)*(8+1)) 200000000000000=true:=by
     rw[Nat.ble_eq];simp only[List.length_cons,List.length_nil];omega
    simp only[hg,decide_true,jB,e4];refine⟨_,rfl,by simp;omega,fun j b a=>?_⟩
    by_cases q:j=i
    ·subst q;simp
    ·exact List.mem_append.2 (.inl (k2 j (by omega) a))
   ·simp only[hg,decide_false,jA];refine⟨_,rfl,by omega,fun j b a=>?_⟩
    by_cases q:j=i
    ·subst q;omega
    ·exact k2 j (by omega) a) 0 [] (by omega) ⟨by simp,fun j b=>by omega⟩
 exact⟨w,c,d⟩
theorem X9H {f:ZS} (k:X2E f) (mark:Int) (i:0<=mark) (j:mark<f.Hz9.Hz8.length) (b:ZF) (h:X2Y f mark=true) (c:X6M b 30000 40=0) :
  ∃L,X5c f.Hz9 f.Day mark b=some (L,0)/\L.length<=32/\∀p:Point,(b.X.Lo<=p.X/\p.X<=b.X.Hi/\b.Y.Lo<=p.Y/\p.Y<=b.Y.Hi)->p≠(ZgB f mark).At->X2m (X1 (ZgB f mark).At p)∈L:=by
 have l:=X7Z k i j;obtain⟨g,q1,q2,q3⟩:=X9Z (ZgB f mark) l b f.Hz9 c;obtain⟨L,q4,q6,q5⟩:=X9G g;refine⟨L,?_,q6,fun p m a=>?_⟩
 ·rw[X6u];unfold X2b;rw[X43];unfold Wc;rw[X4x k mark i j];have e:X4L (f.Hz9.Hz8.getD mark.toNat ⟨ByteArray.empty,⟨0,0⟩,[]⟩) f.Day≠0:=by
   unfold X2Y ZgB at h;simpa using h
  simp only[jS,beq_self_eq_true,jB,X3v e,jA];rw[X7M _ _ (by omega),c]
  simp only[jS,jk,jA];have q1':X10 (f.Hz9.Hz8.getD mark.toNat ⟨ByteArray.empty,⟨0,0⟩,[]⟩) b f.Hz9 (b.X.Lo,fun _=>0)=some g:=q1;rw[q1',jS,q4,jS]
 ·obtain⟨x1,x2,x3,x4,y1,y2,y3,y4⟩:=X8E c;have hv:=q3 p m a;unfold Bd at l;have d : -60000<=(X1 (ZgB f mark).At p).X/\(X1 (ZgB f mark).At p).X<=60000 /\ -60000<=(X1 (ZgB f mark).At p).Y/\(X1 (ZgB f mark).At p).Y<=60000:=by
   show -60000<=(ZgB f mark).At.X-p.X/\(ZgB f mark).At.X-p.X<=60000 /\ -60000<=(ZgB f mark).At.Y-p.Y/\(ZgB f mark).At.Y-p.Y<=60000;omega
  obtain⟨p1,p2⟩:=X82 d (fun⟨a1,a2⟩=>a (Point.ext (by have:(ZgB f mark).At.X-p.X=0:=a1;omega) (by have:(ZgB f mark).At.Y-p.Y=0:=a2;omega)))
  have:=q5 _ (by omega) hv
  rwa [Int.toNat_of_nonneg p1]at this
theorem X7D {s:ZN} (h : -1000000<=s.Lo/\s.Lo<=s.Hi/\s.Hi<=1000000) {n:Int} (a:0<=n):∃v,X3D s n=some v/\s.Lo<=v/\v<=s.Hi:=by
 have t:=X4S n (s.Hi-s.Lo+1) a (by omega)
 rw[X67];unfold X1W;rw[w64 (x:=s.Hi-s.Lo) (by omega) (by omega),w64 (x:=s.Hi-s.Lo+1) (by omega) (by omega),X3v (by omega),w64 (x:=s.Lo+Int.tmod n (s.Hi-s.Lo+1)) (by omega) (by omega)]
 exact⟨_,rfl,by omega,by omega⟩
theorem X9F (p:Point):∀(l:List CtSand) (i:Nat),(onL p i l).2=[]->∀s∈l,X8B s p=false
 | [],_,_,s,a=>by cases a
 | t::l,i,h,s,a=>by
  simp only[onL]at h;split at h
  ·cases h
  ·rename_i b;rcases jr.1 a with rfl|a
   ·cases hq:X8B s p with
    | false=>rfl
    | true=>exact absurd hq b
   ·exact X9F p l (i+1) h s a
theorem Xb1 {n:Int} (h:(Lit.int .u8 n).wf=true):0<=n/\n<=255:=by
 simp[Lit.wf,IntKind.has,IntKind.min,IntKind.max,IntKind.signed,IntKind.bits]at h;omega
theorem Xb0 {n:Int} (h:(Lit.int .u16 n).wf=true):0<=n/\n<=65535:=by
 simp[Lit.wf,IntKind.has,IntKind.min,IntKind.max,IntKind.signed,IntKind.bits]at h;omega
theorem X8Z (f:ZS) (x:Z6) (hx:Z6.Ok limW x):X3i f x=some true:=by
 obtain⟨m,hmv,_⟩:=hx;have hp:∀j,j<2->0<=x.Past.Place j/\x.Past.Place j<=255:=fun j hj=>Xb1 (m.1 j hj);have ho:∀v∈x.Past.Offs,0<=v/\v<=65535:=fun v hv=>Xb0 (m.2.1.2 v hv);have ht:∀v∈x.Past.Taken,0<=v/\v<=65535:=fun v hv=>Xb0 (m.2.2.1.2 v hv);have htl:x.Past.Taken.length<=1000000000000000000:=Nat.le_trans m.2.2.1.1 (by decide)
 have hm0:=Xb1 (hmv 0 (by omega))
 have hm1:=Xb1 (hmv 1 (by omega))
 rw[X54];unfold Ww;rw[X6G];simp only[jS]
 by_cases hf:(X2S f).2.2=0
 ·have k:=X7V hf;simp only[hf,jk,jA];obtain⟨l,hl,a0⟩:=XaX k x.Past hp ho ht htl;obtain⟨a1,a2⟩:=XaN k x.Past hp;obtain⟨t1,t2⟩:=Xb5 k ho a0;have hc:(XP f l).2=0:=X9P hf a0.len a0.each;have hbd:=X9m k a2;have hm:atP f x.Past∈X6 f l:=X8N.2 ⟨a2,t1⟩;have hne:X6 f l≠[]:=fun h=>by rw[h]at hm;cases hm
  have a5:¬(X6 f l).length=0:=fun h=>hne (List.eq_nil_of_length_eq_zero h);have hpl:=X8P k l;obtain⟨b1,_⟩:=XaP hne;have b2:=b1 _ hm;rw[hl,a1];simp only[jS];rw[X8J,X93];simp only[hc,a5,if_true,if_false,jS,jk,jA];have c:∀p∈X6 f l,X81 f.Hz9 p=0:=fun p hpp=>by
   have hb4:=X9m k (X8N.1 hpp).1;unfold X81;rw[if_pos k.chart];have:X3g 10000 p=false:=by rw[X5M];unfold Bd at *;omega
   rw[this];rfl
  have l0:∃fr:Bool,X2l (X6 f l) f (true,0)=some (.inr fr)/\(fr=true->∀p∈X6 f l,(onN f.Hz9 p).2.1=[]):=by
   obtain⟨w,y,z⟩:=X4R (Xn (X6 f l) f) (X6 f l).length (fun i (fr:Bool)=>(fr,(i:Int))) (fun i fr=>fr=true->∀p∈(X6 f l).take i,(onN f.Hz9 p).2.1=[]) (fun w=>∃fr:Bool,w=.inr fr/\(fr=true->∀p∈X6 f l,(onN f.Hz9 p).2.1=[]))
    (fun fr t=>⟨.inr fr,by simp[Xn,Xz],fr,rfl,by simpa using t⟩)
    (fun i fr hi t=>by
     right;have e1:decide ((i:Int)<((X6 f l).length:Int))=true:=by simp;omega
     have e2:decide ((0:Int)<=(i:Int))=true:=by simp
     have w1:=wS i (by omega)
     have e:(X6 f l).getD i ⟨0,0⟩=(X6 f l)[i]:=by simp[hi]
     simp only[Xn,Xz,e1,e2,jB,ju,kS,w1,e];rw[X9w];have b:(X6 f l)[i]∈X6 f l:=jo hi;have ho0:(onN f.Hz9 (X6 f l)[i]).2.2=0:=by unfold onN;rw[if_pos (c _ b)]
     simp only[jS,ho0,jk,jA];cases fr with
     | false=>exact⟨false,by simp,by simp⟩
     | true =>
      refine⟨_,rfl,fun he p o=>?_⟩;rw[List.take_succ_eq_append_getElem hi]at o;rcases List.mem_append.1 o with q|q
      ·exact t rfl p q
      ·simp only[List.mem_singleton]at q;subst q;have:((onN f.Hz9 (X6 f l)[i]).2.1.length:Int)=0:=by simpa using he
       exact List.eq_nil_of_length_eq_zero (by omega)) 0 true (by omega) (fun _ p o=>by simp at o)
   obtain⟨fr,rfl,h3⟩:=z;exact⟨fr,y,h3⟩
  obtain⟨fr,hl0,a3⟩:=l0;rw[hl0];simp only[jS,jw];have r:=X6R k.chart
  have l1:WM fr x f (atP f x.Past) 0=some (.inr ()):=by
   obtain⟨w,y,z⟩:=X4R (Xc fr x f (atP f x.Past)) f.Hz9.Hzb.length (fun i (_:Unit)=>(i:Int)) (fun _ _=>True) (fun w=>w=.inr ())
    (fun _ _=>⟨.inr (),by simp[Xc,Xd],rfl⟩)
    (fun i _ hi _=>by
     have e1:decide ((i:Int)<(f.Hz9.Hzb.length:Int))=true:=by simp;omega
     have e2:decide ((0:Int)<=(i:Int))=true:=by simp
     cases fr with
     | false=>exact .inl ⟨.inr (),by simp only[Xc,Xd,e1,jB,jA],rfl⟩
     | true =>
      right;have w1:=wS i (by omega)
      have e:f.Hz9.Hzb.getD i ⟨ByteArray.empty,[],⟨⟨0,0⟩,⟨0,0⟩⟩⟩=f.Hz9.Hzb[i]:=by simp[hi]
      have b:f.Hz9.Hzb[i]∈f.Hz9.Hzb:=jo hi;have a4:=r.2 _ b;have hmb:=X4E a4.box;obtain⟨v,g1,g2,g3⟩:=X7D (s:=f.Hz9.Hzb[i].Hzc.X) (n:=x.Hzc 0) (by omega) hm0.1
      obtain⟨u,g4,g5,g6⟩:=X7D (s:=f.Hz9.Hzb[i].Hzc.Y) (n:=x.Hzc 1) (by omega) hm1.1
      have w2:IntKind.wrap .i64 (x.Hzc 0)=x.Hzc 0:=by rw[w64]<;>omega
      have w3:IntKind.wrap .i64 (x.Hzc 1)=x.Hzc 1:=by rw[w64]<;>omega
      have d:=X9F (atP f x.Past) f.Hz9.Hzb 0 (by
       have:=a3 rfl _ hm;unfold onN at this;rw[if_pos (c _ hm)]at this;exact this) _ b
      have hlie:X4C f.Hz9.Hzb[i] ⟨v,u⟩ (atP f x.Past)=false:=by
       unfold X8B at d;rw[List.any_eq_false]at d;have:=d ⟨v,u⟩ (X9W.2 ⟨g2,g3,g5,g6⟩);simpa using this
      refine⟨(),?_,trivial⟩;simp only[Xc,Xd,e1,e2,jB,ju,kS,w1,e,show Int.toNat 0=0 from rfl,show Int.toNat 1=1 from rfl,w2,w3,g1,g4,jS];rw[X94 _ _ _ a4 (by unfold Bd;simp only;omega) (by unfold Bd at *;omega),hlie]
      rfl) 0 () (by omega) trivial
   have g:WM fr x f (atP f x.Past) 0=some w:=y;rw[g,z]
  rw[l1];simp only[jS,jw]
  have l2:WN f (X3w (X6 f l)) (atP f x.Past) 0=some (.inr ()):=by
   obtain⟨w,y,z⟩:=X4R (Xo f (X3w (X6 f l)) (atP f x.Past)) f.Hz9.Hz8.length (fun i (_:Unit)=>(i:Int)) (fun _ _=>True) (fun w=>w=.inr ())
    (fun _ _=>⟨.inr (),by simp[Xo,XA],rfl⟩)
    (fun i _ hi _=>by
     right;refine⟨(),?_,trivial⟩;have hmk:=k.marks;have e1:decide ((i:Int)<(f.Hz9.Hz8.length:Int))=true:=by simp;omega
     have w1:=wS i (by omega)
     simp only[Xo,XA,e1,jB,w1];rw[X6O k i (by omega) (by omega)]
     simp only[jS]
     by_cases hse:(X59 f i (atP f x.Past)).2=0
     ·simp only[hse,jk,jA];have hbx:=X83 (X3w (X6 f l)) 30000 (by omega)
      rw[hbx];simp only[jS]
      by_cases hbz:X6M (X3w (X6 f l)) 30000 40=0
      ·simp only[hbz,jk,jA];unfold X59 at hse⊢;split at hse
       ·cases hse
       ·rename_i k1;split at hse
        ·cases hse
        ·split at hse
         ·cases hse
         ·rename_i k2 k3;have hst:X2Y f i=true:=by simpa using k1
          obtain⟨L,q1,q3,q2⟩:=X9H k i (by omega) (by omega) (X3w (X6 f l)) hst hbz
          rw[q1,if_neg k1,if_neg k2,if_neg k3];simp only[jS,jk,jA];have hin:=q2 (atP f x.Past) b2 (fun q=>k3 q.symm);generalize X2m (X1 (ZgB f i).At (atP f x.Past))=pt at hin;have l3:WO L pt (0,false)=some true:=by
           obtain⟨w,y,z⟩:=X4R (Xp L pt) L.length (fun j (is:Bool)=>((j:Int),is)) (fun j is=>(is=true↔pt∈L.take j)/\L.length<=1000000) (fun w=>w=true)
            (fun is ⟨k1,_⟩=>⟨is,by simp[Xp,XB],by rw[k1];simpa using hin⟩)
            (fun j is hj ⟨k1,k2⟩=>by
             right;have e3:decide ((j:Int)<(L.length:Int))=true:=by simp;omega
             have e4:decide ((0:Int)<=(j:Int))=true:=by simp
             have w2:=wS j (by omega)
             have hgl:L.getD j 0=L[j]:=by simp[hj]
             simp only[Xp,XB,e3,e4,jB,ju,w2,kS,hgl];rw[List.take_succ_eq_append_getElem hj];cases is with
             | true=>exact⟨true,rfl,⟨fun _=>List.mem_append_left _ (k1.1 rfl),fun _=>rfl⟩,k2⟩
             | false =>
              have k3:pt∉L.take j:=fun q=>by have:=k1.2 q;cases this
              refine⟨L[j]==pt,rfl,?_,k2⟩;rw[beq_iff_eq,List.mem_append,List.mem_singleton];exact⟨fun q=>.inr q.symm,fun q=>(q.resolve_left k3).symm⟩) 0 false (by omega) ⟨by simp,by omega⟩
           have g:WO L pt (0,false)=some w:=y;rw[g,z]
          rw[l3];rfl
      ·simp only[Wk hbz,jB]
     ·simp only[Wk hse,jB]) 0 () (by omega) trivial
   have g:WN f (X3w (X6 f l)) (atP f x.Past) 0=some w:=y;rw[g,z]
  rw[l2];rfl
 ·simp only[Wk hf,jB]
end Nore
