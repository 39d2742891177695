/- The plain functions of the program and of the document answer alike. -/
import Derived.Test.YtaaalkppbbpacaaGreatDoorD
set_option linter.unusedSectionVars false
set_option linter.unusedVariables false
set_option linter.unusedSimpArgs false
open Go Go.Ab
namespace Nore
theorem w64 {x:Int} (h1 : -9223372036854775808≤x) (h2:x≤9223372036854775807):IntKind.wrap .i64 x=x:=by
 simp only[IntKind.wrap,IntKind.signed,IntKind.bits];simp;omega
theorem jS {α β:Type} (a:α) (f:α→Option β):Option.bind (some a) f=f a:=rfl
theorem kS (n:Nat):Int.toNat (n:Int)=n:=rfl
theorem wS (i:Nat) (h:i<9223372036854775807):IntKind.wrap .i64 ((i:Int)+1)=((i+1:Nat):Int):=by rw[w64]<;>omega
theorem z0S (i:Nat):decide ((0:Int)≤↑i)=true:=by simp
theorem X31 {σ ω γ:Type} (st:σ→Option (σ⊕ω)) (k:ω→Option γ) (s:σ):Option.bind (Z9k st s) k=Option.bind (st s) (Sum.elim (fun s'=>Option.bind (Z9k st s') k) k):=by
 rw[ZiZ];cases st s with
 | none=>rfl
 | some r=>cases r<;>rfl
theorem Xb {β σ ω γ:Type} (st:σ→Option (σ⊕ω)) (k:ω→Option γ) (n:Nat) (emb:Nat→β→σ) (P:Nat→β→Prop) (nice:Nat→β→Option γ)
  (hd:∀b,P n b→∀R:σ→Option γ,Option.bind (st (emb n b)) (Sum.elim R k)=nice n b)
  (hn:∀i b,i<n→P i b→∀R:σ→Option γ,(∀b',P (i+1) b'→R (emb (i+1) b')=nice (i+1) b')→Option.bind (st (emb i b)) (Sum.elim R k)=nice i b) :
  ∀i b,i≤n→P i b→Option.bind (Z9k st (emb i b)) k=nice i b:=by
 intro i b hi hP
 induction hj:n-i generalizing i b with
 | zero =>
  have:i=n:=by omega
  subst this;rw[X31];exact hd b hP _
 | succ j ih =>
  rw[X31];exact hn i b (by omega) hP _ fun b' hb'=>ih (i+1) b' (by omega) hb' (by omega)
theorem X2L {γ:Type} (o:Option γ):Option.bind o (fun x=>some x)=o:=by cases o<;>rfl
theorem X3U {β σ ω:Type} (st:σ→Option (σ⊕ω)) (n:Nat) (emb:Nat→β→σ) (P:Nat→β→Prop) (nice:Nat→β→Option ω)
  (hd:∀b,P n b→∀R:σ→Option ω,Option.bind (st (emb n b)) (Sum.elim R some)=nice n b)
  (hn:∀i b,i<n→P i b→∀R:σ→Option ω,(∀b',P (i+1) b'→R (emb (i+1) b')=nice (i+1) b')→Option.bind (st (emb i b)) (Sum.elim R some)=nice i b)
  (i:Nat) (b:β) (hi:i≤n) (hP:P i b):Z9k st (emb i b)=nice i b:=by
 rw[←X2L (Z9k st (emb i b))];exact Xb st some n emb P nice hd hn i b hi hP
theorem X1V {a b:Int} (h:¬a=b):(a==b)=false:=beq_eq_false_iff_ne.2 h
theorem X1s {a b:Int} (h:¬a=b):(a != b)=true:=bne_iff_ne.2 h
theorem X3 {α:Type} (l:List α) (i:Nat) (d:α) (h:i<l.length):l.getD i d=l[i]:=by simp[List.getD,h]
def XK (lo hi:Int) (l:List Int):Bool:=l.any fun n=>decide (n<lo)||decide (n>hi)
@[simp] theorem X4b (lo hi:Int):XK lo hi []=false:=rfl
@[simp] theorem X2H (lo hi n:Int) (l:List Int):XK lo hi (n::l)=(decide (n<lo)||decide (n>hi)||XK lo hi l):=rfl
def inN (n lo hi:Int):Bool:=decide (lo≤n)&&decide (n≤hi)
theorem Ww (lo up:Int) (l:List Int) (hl:l.length<1000000):WQ lo up l=some (XK lo up l):=by
 have key:=Xb (WR (↑l.length) l up lo) (fun o3=>Sum.elim (fun y4:Int=>some (decide (y4≥0))) (fun _=>some (decide ((-1:Int)≥0))) o3) l.length (fun i (_:Unit)=>(i:Int)) (fun _ _=>True) (fun i _=>some (XK lo up (l.drop i)))
  (by
   intro b _ R;simp[WR,WT])
  (by
   intro i b hi _ R hR;have hR':=hR () trivial;simp only[WR,WT];rw[List.drop_eq_getElem_cons hi];simp only[kS,X3 _ _ _ hi,X2H];have hw:=wS i (by omega)
   rw[hw];have h1:decide ((i:Int)<↑l.length)=true:=by simp[hi]
   have h2:=z0S i;simp only[h1,h2,Bool.and_self,cond_true]
   by_cases h3:l[i]<lo
   ·simp[h3]
   ·by_cases h4:l[i]>up
    ·simp[h3,h4]
    ·simp[h3,h4];exact hR')
 exact(key 0 () (by omega) trivial).trans (by simp)
theorem WU (n lo hi:Int):X18 n lo hi=some (inN n lo hi):=by
 unfold X18 inN
 by_cases h:lo≤n<;>simp[h]
end Nore
open Go Go.Ab
namespace Nore
theorem X9 (lo up:Int) (l:List Int) (hl:l.length<1000000):Xa lo up l=some (XK lo up l):=by
 have key:=Xb (XJ (↑l.length) l up lo) (fun o3=>Sum.elim (fun y4:Int=>some (decide (y4≥0))) (fun _=>some (decide ((-1:Int)≥0))) o3) l.length (fun i (_:Unit)=>(i:Int)) (fun _ _=>True) (fun i _=>some (XK lo up (l.drop i)))
  (by
   intro b _ R;simp[XJ,XP])
  (by
   intro i b hi _ R hR;have hR':=hR () trivial;simp only[XJ,XP];rw[List.drop_eq_getElem_cons hi];simp only[kS,X3 _ _ _ hi,X2H];have hw:=wS i (by omega)
   rw[hw];have h1:decide ((i:Int)<↑l.length)=true:=by simp[hi]
   have h2:=z0S i;simp only[h1,h2,Bool.and_self,cond_true]
   by_cases h3:l[i]<lo
   ·simp[h3]
   ·by_cases h4:l[i]>up
    ·simp[h3,h4]
    ·simp[h3,h4];exact hR')
 exact(key 0 () (by omega) trivial).trans (by simp)
theorem X3e (n lo hi:Int):X2o n lo hi=some (inN n lo hi):=by
 unfold X2o inN
 by_cases h:lo≤n<;>simp[h]
end Nore
open Go Go.Ab
namespace Nore
def X3J:Int→List UInt8→Option Int
 | last,[]=>some last
 | last,c::l=>if 97≤(c.toNat:Int)∧(c.toNat:Int)≤122 then X3J c.toNat l else if(c.toNat:Int)≠45∨last=45 then none else X3J c.toNat l
def X38:Option Int→Bool
 | none=>false
 | some last=>last != 45
def X4a (s:ByteArray):Bool:=decide (s.size≤14)&&X38 (X3J 45 s.toList)
theorem X64 (s:ByteArray) (i:Nat) (h:(s.get! i).toNat<128):Utf8.decode s i=((s.get! i).toNat,1):=by
 unfold Utf8.decode;simp only[Nat.add_zero];rw[if_pos h]
theorem X63 (s:ByteArray) (i:Nat) (h:¬(s.get! i).toNat<128):128≤(Utf8.decode s i).1:=by
 unfold Utf8.decode;simp only[Nat.add_zero,Utf8.runeError];rw[if_neg h]
 repeat' split
 all_goals simp_all
 all_goals omega
theorem X1b (s:ByteArray):s.toList.length=s.size:=by rw[ByteArray.toList_eq];rfl
theorem X5A (s:ByteArray) (i:Nat) (h:i<s.toList.length):s.get! i=s.toList[i]:=by
 have hs:i<s.size:=by rw[←X1b];exact h
 simp only[ByteArray.toList_eq];show s.data[i]! =_;have h2:i<s.data.size:=hs;rw[getElem!_pos s.data i h2];rfl
theorem X3X (s:ByteArray):X2N s=some (X4a s):=by
 have key:=Xb (Wx s s) (fun o0=>Sum.elim (fun y1:Bool×Nat=>some y1.fst) (fun y2:Int×Nat=>bif decide ((↑(ByteArray.size s):Int)≤14)then some (y2.fst != 45)else some false) o0) s.toList.length (fun i (b:Int)=>(b,i)) (fun _ _=>True) (fun i b=>some (decide (s.size≤14)&&X38 (X3J b (s.toList.drop i))))
  (by
   intro b _ R;have hh:(decide ((↑s.size:Int)≤14))=decide (s.size≤14):=by rw[decide_eq_decide];omega
   have hd:s.toList.drop s.size=[]:=List.drop_eq_nil_of_le (by rw[X1b];exact Nat.le_refl _)
   simp only[hd,X3J,X38,Wx,WD,X1b,hh,Nat.lt_irrefl,decide_false,cond_false,jS,Sum.elim_inr];cases decide (s.size≤14)<;>simp)
  (by
   intro i b hi _ R hR;have hs:i<s.size:=by rw[←X1b];exact hi
   have hg:=X5A s i hi;simp only[Wx,WD];rw[List.drop_eq_getElem_cons hi];simp only[X3J]
   by_cases h:(s.get! i).toNat<128
   ·rw[X64 s i h];have hR':=hR ((s.get! i).toNat:Int) trivial;rw[hg]at *;generalize s.toList[i]=c at *;simp only[hs,decide_true,cond_true]
    by_cases h1:97≤(c.toNat:Int)
    ·have q1:decide ((c.toNat:Int)≥97)=true:=decide_eq_true h1
     by_cases h2:(c.toNat:Int)≤122
     ·have q2:decide ((c.toNat:Int)≤122)=true:=decide_eq_true h2;simp only[decide_true,decide_false,q1,q2,cond_true,jS,Sum.elim_inl,h1,h2,and_self,if_true];exact hR'
     ·have q2:decide ((c.toNat:Int)≤122)=false:=decide_eq_false h2;have h3:¬((c.toNat:Int)=45):=by omega
      have q3:((c.toNat:Int) != 45)=true:=bne_iff_ne.2 h3;simp only[decide_true,decide_false,q1,q2,q3,cond_true,cond_false,jS,Sum.elim_inl,Sum.elim_inr,h2,and_false,if_false,ne_eq,h3,not_false_iff,true_or,if_true,X38,Bool.and_false]
    ·have q1:decide ((c.toNat:Int)≥97)=false:=decide_eq_false h1
     by_cases h3:(c.toNat:Int)=45
     ·have q3:((c.toNat:Int) != 45)=false:=by rw[h3];rfl
      by_cases h4:b=45
      ·have q4:(b==45)=true:=by rw[h4];rfl
       rw[q1,q3,q4,if_neg (fun hc=>h1 hc.1),if_pos (Or.inr h4)];simp[X38]
      ·have q4:(b==45)=false:=beq_eq_false_iff_ne.2 h4;simp only[decide_true,decide_false,q1,q3,q4,cond_true,cond_false,jS,Sum.elim_inl,Sum.elim_inr,h1,false_and,if_false,h4,ne_eq,h3,not_true,or_self,if_true];rw[h3]at hR';exact hR'
     ·have q3:((c.toNat:Int) != 45)=true:=bne_iff_ne.2 h3;simp only[decide_true,decide_false,q1,q3,cond_true,cond_false,jS,Sum.elim_inl,Sum.elim_inr,h1,false_and,if_false,ne_eq,h3,not_false_iff,true_or,if_true,X38,Bool.and_false]
   ·have h':=X63 s i h;rw[hg]at h;generalize s.toList[i]=c at *;simp only[hs,decide_true,cond_true];generalize (Utf8.decode s i)=d at *;have e1:((d.1:Nat):Int)≥97:=by omega
    have e2:¬((d.1:Nat):Int)≤122:=by omega
    have e3:¬((d.1:Nat):Int)=45:=by omega
    have e4:¬((c.toNat:Int)≤122):=by omega
    have e5:¬((c.toNat:Int)=45):=by omega
    have q1:decide (((d.1:Nat):Int)≥97)=true:=decide_eq_true e1;have q2:decide (((d.1:Nat):Int)≤122)=false:=decide_eq_false e2;have q3:(((d.1:Nat):Int) != 45)=true:=bne_iff_ne.2 e3;simp only[decide_true,decide_false,q1,q2,q3,cond_true,cond_false,jS,Sum.elim_inl,Sum.elim_inr,e4,and_false,if_false,ne_eq,e5,not_false_iff,true_or,if_true,X38,Bool.and_false])
 exact(key 0 45 (by omega) trivial).trans (by simp[X4a])
theorem X4Z (s:ByteArray):X2X s=some (X4a s):=by
 unfold X2X;rw[WU];simp only[jS]
 by_cases hsz:1≤s.size∧s.size≤14
 ·have e1:inN (↑s.size) 1 14=true:=by simp[inN];omega
  rw[e1];simp only[Bool.not_true,cond_false];have hl:=X1b s;have key:=Xb (Wy s) (fun o0=>Sum.elim (fun y76:Bool=>some y76) (fun _:Unit=>some true) o0) s.toList.length (fun i (_:Int)=>(i:Int)) (fun i b=>b=if i=0 then 45 else((s.toList.getD (i-1) 0).toNat:Int)) (fun i b=>some (if i<s.toList.length then X38 (X3J b (s.toList.drop i))else true))
   (by
    intro b _ R;simp[Wy,WF,X1b])
   (by
    intro i b hi hP R hR;have hs:i<s.size:=by rw[←X1b];exact hi
    simp only[Wy,WF];rw[List.drop_eq_getElem_cons hi];have hR':=hR ((s.toList[i]).toNat:Int) (by simp[List.getD,hi])
    have hw:=wS i (by omega)
    have hw1:IntKind.wrap .i64 ((i:Int)-1)=((i:Int)-1):=by rw[w64]<;>omega
    have hw2:IntKind.wrap .i64 ((s.size:Int)-1)=((s.size:Int)-1):=by rw[w64]<;>omega
    simp only[X3J,kS,X3 _ _ _ hi,hw,hw1,hw2];have d1:decide ((i:Int)<↑s.size)=true:=by simp[hs]
    have d2:=z0S i;simp only[d1,d2,Bool.and_self,cond_true,hi,if_true];generalize hc:s.toList[i]=c at *
    by_cases h1:97≤(c.toNat:Int)∧(c.toNat:Int)≤122
    ·have q1:decide ((c.toNat:Int)≥97)=true:=decide_eq_true h1.1;have q2:decide ((c.toNat:Int)≤122)=true:=decide_eq_true h1.2;simp only[decide_true,decide_false,q1,q2,cond_true,jS,Sum.elim_inl,h1,and_self,if_true];have hne:¬((c.toNat:Int)=45):=by omega
     rw[hR']
     by_cases hi2:i+1<s.toList.length
     ·simp[hi2]
     ·have:s.toList.drop (i+1)=[]:=List.drop_eq_nil_of_le (by omega)
      simp[hi2,this,X3J,X38,hne]
    ·have g:(bif decide ((c.toNat:Int)≥97)then bif decide ((c.toNat:Int)≤122)then true else false else false)=false:=by
      by_cases a1:(c.toNat:Int)≥97
      ·by_cases a2:(c.toNat:Int)≤122
       ·exact absurd ⟨a1,a2⟩ h1
       ·simp[a1,a2]
      ·simp[a1]
     have g2:∀(Z:Type) (x y:Z),(bif decide ((c.toNat:Int)≥97)then bif decide ((c.toNat:Int)≤122)then x else y else y)=y:=by
      intro Z x y
      by_cases a1:(c.toNat:Int)≥97
      ·by_cases a2:(c.toNat:Int)≤122
       ·exact absurd ⟨a1,a2⟩ h1
       ·simp[a1,a2]
      ·simp[a1]
     rw[g2,if_neg h1]
     by_cases h2:(c.toNat:Int)=45
     ·simp only[h2,bne_self_eq_false,cond_false]
      by_cases h3:i=0
      ·subst h3;simp[hP,X38]
      ·by_cases h4:i+1=s.size
       ·have:s.toList.drop (i+1)=[]:=List.drop_eq_nil_of_le (by omega)
        have e5:(i:Int)=(s.size:Int)-1:=by omega
        have e6:((s.size:Int)-1==0)=false:=by simp;omega
        simp only[e5,e6,this,X3J]
        by_cases h5:b=45<;>simp[h5,X38]
       ·have e5:((i:Int)==(s.size:Int)-1)=false:=by simp;omega
        have e6:((i:Int)==0)=false:=by simp;omega
        have e7:(0:Int)≤(i:Int)-1:=by omega
        have e8:(i:Int)-1<(s.size:Int):=by omega
        have e9:((i:Int)-1).toNat=i-1:=by omega
        simp only[e5,e6,e7,e8,e9,cond_false,decide_true,Bool.and_self,cond_true];simp only[h3,if_false]at hP;rw[←hP]
        by_cases h5:b=45
        ·simp[h5,X38]
        ·have q5:(b==45)=false:=beq_eq_false_iff_ne.2 h5;rw[h2]at hR';rw[q5];simp only[cond_false,jS,Sum.elim_inl,ne_eq,not_true,false_or,h5,if_false];rw[hR'];simp[show i+1<s.toList.length by omega]
     ·have:((c.toNat:Int) != 45)=true:=by simp[h2]
      simp[this,h2,X38])
  have:=key 0 45 (by omega) (by simp)
  refine this.trans ?_;simp[X4a,show 0<s.toList.length by omega,hsz.2]
 ·have e1:inN (↑s.size) 1 14=false:=by
   simp[inN];omega
  rw[e1];simp only[Bool.not_false,cond_true,X4a]
  by_cases h:s.size≤14
  ·have h0:s.toList=[]:=by
    apply List.eq_nil_of_length_eq_zero;rw[X1b];omega
   simp[h0,X3J,X38]
  ·simp[h]
end Nore
open Go Go.Ab
namespace Nore
def X2f (m:Int) (p:Point):Bool:=XK (-m) m [p.X,p.Y]
def X3a:Int→List Zs→Int
 | _,[]=>0
 | last,p::l=>if XK 0 40000 [p.Day]||XK 0 4 [p.Hz4]then 7 else if p.Day≤last then 2 else X3a p.Day l
def X2E (l:List Zs):Int:=if XK 1 4 [(l.length:Int)]then 3 else X3a (-1) l
def X2d (b:ZF) (m w:Int):Int:=if XK (-m) m [b.X.Lo,b.X.Hi,b.Y.Lo,b.Y.Hi]then 7 else if XK 0 w [b.X.Hi-b.X.Lo,b.Y.Hi-b.Y.Lo]then 2 else 0
theorem X1C (n lo hi:Int):inN n lo hi = !XK lo hi [n]:=by
 simp only[inN,X2H,X4b,Bool.or_false,Bool.not_or];congr 1<;>rw[←decide_not,decide_eq_decide]<;>omega
theorem X3s (m:Int) (hm:0≤m∧m≤1000000) (l:List Point) (hl:l.length<1000000):X2F m l=some (l.any (X2f m)):=by
 have hm1:IntKind.wrap .i64 (0-m) = -m:=by rw[w64]<;>omega
 have key:=Xb (WP (↑l.length) l m) (fun o7=>Sum.elim (fun y8:Int×Point×(List Int)=>some (decide (y8.fst≥0))) (fun _=>some (decide ((-1:Int)≥0))) o7) l.length (fun i (_:Unit)=>(i:Int)) (fun _ _=>True) (fun i _=>some ((l.drop i).any (X2f m)))
  (by
   intro b _ R;simp[WP,WS])
  (by
   intro i b hi _ R hR;have hR':=hR () trivial;simp only[WP,WS];rw[List.drop_eq_getElem_cons hi];have hw:=wS i (by omega)
   simp only[kS,X3 _ _ _ hi,List.any_cons,hm1,hw];rw[Ww _ _ _ (by simp)]
   have h1:decide ((i:Int)<↑l.length)=true:=by simp[hi]
   have h2:=z0S i;simp only[h1,h2,Bool.and_self,cond_true,jS];change Option.bind (bif X2f m l[i]then _ else _) _=_;cases h3:X2f m l[i]
   ·simp;exact hR'
   ·simp)
 exact(key 0 () (by omega) trivial).trans (by simp)
theorem X3z (p:Point) (m:Int) (hm:0≤m∧m≤1000000):X1E p m=some (!X2f m p):=by
 have hm1:IntKind.wrap .i64 (0-m) = -m:=by rw[w64]<;>omega
 unfold X1E;rw[WU,WU,hm1,X1C,X1C];simp only[jS,X2f,X2H,X4b,Bool.or_false];cases(decide (p.X < -m)||decide (p.X>m))<;>simp
theorem X4t (l:List Zs):X24 l=some (X2E l):=by
 unfold X24 X2E;rw[Ww _ _ _ (by simp)]
 simp only[jS];cases hb:XK 1 4 [(l.length:Int)]
 ·simp only[cond_false,Bool.false_eq_true,if_false];have hl:1≤l.length∧l.length≤4:=by simp at hb;omega
  exact Xb (XT (↑l.length) l [↑l.length]) _ l.length (fun i (b:Int)=>(b,(i:Int))) (fun _ _=>True) (fun i b=>some (X3a b (l.drop i)))
   (by
    intro b _ R;simp[XT,W6,X3a])
   (by
    intro i b hi _ R hR;have hR':=hR (l[i].Day) trivial;simp only[XT,W6];rw[List.drop_eq_getElem_cons hi];have hw:=wS i (by omega)
    simp only[kS,X3 _ _ _ hi,X3a,hw];rw[Ww _ _ _ (by simp),Ww _ _ _ (by simp)]
    have h1:decide ((i:Int)<↑l.length)=true:=by simp[hi]
    have h2:=z0S i;simp only[h1,h2,Bool.and_self,cond_true,jS];cases h3:XK 0 40000 [l[i].Day]
    ·cases h4:XK 0 4 [l[i].Hz4]
     ·by_cases h5:l[i].Day≤b
      ·simp[h5]
      ·simp[h5];exact hR'
     ·simp
    ·simp) 0 (-1) (by omega) trivial
 ·simp
theorem X4u (l:List Zs):X1F l=some (X2E l):=by
 unfold X1F X2E;rw[WU,X1C];simp only[jS];cases hb:XK 1 4 [(l.length:Int)]
 ·simp only[Bool.not_false,Bool.not_true,cond_false,Bool.false_eq_true,if_false];have hl:1≤l.length∧l.length≤4:=by simp at hb;omega
  exact Xb (XV l) _ l.length (fun i (_:Int)=>(i:Int)) (fun i b=>b=if i=0 then -1 else(l.getD (i-1) ⟨0,0⟩).Day) (fun i b=>some (X3a b (l.drop i)))
   (by
    intro b _ R;simp[XV,W9,X3a])
   (by
    intro i b hi hP R hR;have hR':=hR (l[i].Day) (by simp[List.getD,hi])
    simp only[XV,W9];rw[List.drop_eq_getElem_cons hi];have hw:=wS i (by omega)
    have hw1:IntKind.wrap .i64 ((i:Int)-1)=((i:Int)-1):=by rw[w64]<;>omega
    simp only[kS,X3 _ _ _ hi,X3a,hw,hw1];rw[WU,WU,X1C,X1C];have h1:decide ((i:Int)<↑l.length)=true:=by simp[hi]
    have h2:=z0S i;simp only[h1,h2,Bool.and_self,cond_true,jS];cases h3:XK 0 40000 [l[i].Day]
    ·cases h4:XK 0 4 [l[i].Hz4]
     ·by_cases h0:i=0
      ·subst h0;simp at hP h3;have h5:¬l[0].Day≤b:=by omega
       simp[h5];simpa using hR'
      ·have e7:(0:Int)≤(i:Int)-1:=by omega
       have e8:(i:Int)-1<(l.length:Int):=by omega
       have e9:((i:Int)-1).toNat=i-1:=by omega
       have e10:(i:Int)>0:=by omega
       simp only[e7,e8,e9,e10,decide_true,Bool.and_self,cond_true];simp only[h0,if_false]at hP;rw[←hP]
       by_cases h5:l[i].Day≤b
       ·simp[h5]
       ·simp[h5];exact hR'
     ·simp
    ·simp) 0 (-1) (by omega) (by simp)
 ·simp
theorem X5g (b:ZF) (m:Int) (hm:0≤m∧m≤1000000):X3k b m=some (X2d b m 40):=by
 have hm1:IntKind.wrap .i64 (0-m) = -m:=by rw[w64]<;>omega
 unfold X3k X2d;rw[Ww _ _ _ (by simp),hm1]
 simp only[jS];cases hb:XK (-m) m [b.X.Lo,b.X.Hi,b.Y.Lo,b.Y.Hi]
 ·simp at hb;have h1:IntKind.wrap .i64 (b.X.Hi-b.X.Lo)=b.X.Hi-b.X.Lo:=by rw[w64]<;>omega
  have h2:IntKind.wrap .i64 (b.Y.Hi-b.Y.Lo)=b.Y.Hi-b.Y.Lo:=by rw[w64]<;>omega
  rw[h1,h2,Ww _ _ _ (by simp)]
  simp only[jS,cond_false,Bool.false_eq_true,if_false];cases XK 0 40 [b.X.Hi-b.X.Lo,b.Y.Hi-b.Y.Lo]<;>simp
 ·simp
def X1G (lo hi:Int):Int→List ZO→Int
 | e,[]=>e
 | e,s::l=>if XK lo hi [s.Lo,s.Hi]then 7 else X1G lo hi (if s.Lo>s.Hi then 2 else e) l
theorem X2s (l:List ZO) (lo hi:Int) (hl:l.length<1000000):X1g l lo hi=some (X1G lo hi 0 l):=by
 unfold X1g;exact Xb (XU lo l hi) _ l.length (fun i (b:Int)=>(b,(i:Int))) (fun _ _=>True) (fun i b=>some (X1G lo hi b (l.drop i)))
   (by
    intro b _ R;simp[XU,W8,X1G])
   (by
    intro i b hi' _ R hR;simp only[XU,W8];rw[List.drop_eq_getElem_cons hi'];have hw:=wS i (by omega)
    simp only[kS,X3 _ _ _ hi',X1G,hw];rw[WU,WU,X1C,X1C];have h1:decide ((i:Int)<↑l.length)=true:=by simp[hi']
    have h2:=z0S i;simp only[h1,h2,Bool.and_self,cond_true,jS];have hsplit:XK lo hi [l[i].Lo,l[i].Hi]=(XK lo hi [l[i].Lo]||XK lo hi [l[i].Hi]):=by simp
    rw[hsplit];cases h3:XK lo hi [l[i].Lo]
    ·cases h4:XK lo hi [l[i].Hi]
     ·by_cases h5:l[i].Lo>l[i].Hi
      ·have:=hR 2 trivial;simp only[h5];simp;simpa using this
      ·have:=hR b trivial;simp only[h5];simp;simpa using this
     ·simp
    ·simp) 0 0 (by omega) trivial
theorem X4T (b:ZF) (m w:Int) (hw:0≤w):(let e:=X1G (-m) m 0 [b.X,b.Y];if e=0 then(if b.X.Hi-b.X.Lo>w then 2 else if b.Y.Hi-b.Y.Lo>w then 2 else 0)else e)=X2d b m w:=by
 simp only[X1G,X2d,X2H,X4b,Bool.or_false];generalize b.X.Lo=x,b.X.Hi=X,b.Y.Lo=y,b.Y.Hi=Y
 by_cases a1:x < -m∨x>m∨X < -m∨X>m
 ·have e1:(decide (x < -m)||decide (x>m)||(decide (X < -m)||decide (X>m)))=true:=by simp;omega
  have e2:(decide (x < -m)||decide (x>m)||(decide (X < -m)||decide (X>m)||(decide (y < -m)||decide (y>m)||(decide (Y < -m)||decide (Y>m)))))=true:=by simp;omega
  rw[e1,e2];simp
 ·have e1:(decide (x < -m)||decide (x>m)||(decide (X < -m)||decide (X>m)))=false:=by simp;omega
  rw[e1]
  by_cases a2:y < -m∨y>m∨Y < -m∨Y>m
  ·have e2:(decide (y < -m)||decide (y>m)||(decide (Y < -m)||decide (Y>m)))=true:=by simp;omega
   have e3:(decide (x < -m)||decide (x>m)||(decide (X < -m)||decide (X>m)||(decide (y < -m)||decide (y>m)||(decide (Y < -m)||decide (Y>m)))))=true:=by simp;omega
   rw[e3,e2];simp
  ·have e2:(decide (y < -m)||decide (y>m)||(decide (Y < -m)||decide (Y>m)))=false:=by simp;omega
   have e3:(decide (x < -m)||decide (x>m)||(decide (X < -m)||decide (X>m)||(decide (y < -m)||decide (y>m)||(decide (Y < -m)||decide (Y>m)))))=false:=by simp;omega
   rw[e3,e2];simp only[Bool.false_eq_true,if_false]
   by_cases b1:Y<y
   ·have e4:(decide (X-x<0)||decide (X-x>w)||(decide (Y-y<0)||decide (Y-y>w)))=true:=by simp;omega
    rw[e4];simp[b1]
   ·by_cases b2:X<x
    ·have e4:(decide (X-x<0)||decide (X-x>w)||(decide (Y-y<0)||decide (Y-y>w)))=true:=by simp;omega
     rw[e4];simp[b1,b2]
    ·simp only[gt_iff_lt,b1,b2,if_false]
     by_cases b3:X-x>w
     ·have e4:(decide (X-x<0)||decide (w<X-x)||(decide (Y-y<0)||decide (w<Y-y)))=true:=by simp;omega
      rw[e4];simp;omega
     ·by_cases b4:Y-y>w
      ·have e4:(decide (X-x<0)||decide (w<X-x)||(decide (Y-y<0)||decide (w<Y-y)))=true:=by simp;omega
       rw[e4];simp;omega
      ·have e4:(decide (X-x<0)||decide (w<X-x)||(decide (Y-y<0)||decide (w<Y-y)))=false:=by simp;omega
       rw[e4];simp;omega
theorem X5d (lo hi:Int) (b:ZF) (h:X1G lo hi 0 [b.X,b.Y]=0):lo≤b.X.Lo∧b.X.Hi≤hi∧b.X.Lo≤b.X.Hi∧lo≤b.Y.Lo∧b.Y.Hi≤hi∧b.Y.Lo≤b.Y.Hi:=by
 simp only[X1G,X2H,X4b,Bool.or_false]at h;split at h
 ·simp at h
 ·split at h
  ·simp at h
  ·rename_i h1 h2;simp at h1 h2;split at h
   ·simp at h
   ·split at h
    ·simp at h
    ·omega
theorem X5l (b:ZF) (m:Int) (hm:0≤m∧m≤1000000):X3p b (-m) m=some (X2d b m 40):=by
 unfold X3p;rw[X2s _ _ _ (by simp)]
 rw[←X4T b m 40 (by omega)]
 simp only[jS]
 by_cases h:X1G (-m) m 0 [b.X,b.Y]=0
 ·have hb:=X5d _ _ _ h;have h1:IntKind.wrap .i64 (b.X.Hi-b.X.Lo)=b.X.Hi-b.X.Lo:=by rw[w64]<;>omega
  have h2:IntKind.wrap .i64 (b.Y.Hi-b.Y.Lo)=b.Y.Hi-b.Y.Lo:=by rw[w64]<;>omega
  rw[h1,h2,h]
  by_cases h3:b.X.Hi-b.X.Lo>40
  ·simp[h3]
  ·by_cases h4:b.Y.Hi-b.Y.Lo>40<;>simp[h3,h4]
 ·have h':(X1G (-m) m 0 [b.X,b.Y]==0)=false:=beq_eq_false_iff_ne.2 h;rw[h',if_neg h];rfl
end Nore
open Go Go.Ab
namespace Nore
theorem X25 {a b:Int} (A B:Int) (h1 : -A≤a) (h2:a≤A) (h3 : -B≤b) (h4:b≤B) : -(A*B)≤a*b∧a*b≤A*B:=by
 have p1:=Int.mul_nonneg (show 0≤A-a by omega) (show 0≤B+b by omega)
 have p2:=Int.mul_nonneg (show 0≤A+a by omega) (show 0≤B-b by omega)
 have p3:=Int.mul_nonneg (show 0≤A-a by omega) (show 0≤B-b by omega)
 have p4:=Int.mul_nonneg (show 0≤A+a by omega) (show 0≤B+b by omega)
 constructor<;>grind
def WZ (p:Nat→Bool):Nat→Nat→Bool
 | _,0=>true
 | i,k+1=>p i&&WZ p (i+1) k
theorem X1U (p:Nat→Bool) (k i:Nat):WZ p i k=true↔∀j,i≤j→j<i+k→p j=true:=by
 induction k generalizing i with
 | zero=>simp[WZ];intro j h1 h2;omega
 | succ k ih =>
  simp only[WZ,Bool.and_eq_true,ih];constructor
  ·rintro⟨h1,h2⟩ j h3 h4
   by_cases h:j=i
   ·subst h;exact h1
   ·exact h2 j (by omega) (by omega)
  ·intro h;exact⟨h i (by omega) (by omega),fun j h1 h2=>h j (by omega) (by omega)⟩
def X0 (a b:Point):Point:=⟨a.X-b.X,a.Y-b.Y⟩
def X1 (a b:Point):Int:=a.X*b.Y-a.Y*b.X
def P0:Point:=⟨0,0⟩
def X4R (l:List Point) (i:Nat):Bool :=
 WZ (fun m=>m==i||m==(i+1) % l.length||decide (0<X1 (X0 (l.getD ((i+1) % l.length) P0) (l.getD i P0)) (X0 (l.getD m P0) (l.getD i P0)))) 0 l.length
def X3M (l:List Point):Bool:=WZ (X4R l) 0 l.length
def X3P (s:CtSand):Int :=
 if XK 3 8 [(s.Hz2.length:Int)]then 3 else if s.Hz2.any (X2f 10000)then 7 else if X2d s.Hzc 500 40=0 then(if X3M s.Hz2 then 0 else 9)else X2d s.Hzc 500 40
def Bd (A:Int) (p:Point):Prop := -A≤p.X∧p.X≤A ∧ -A≤p.Y∧p.Y≤A
theorem X45 (A:Int) (p:Point):X2f A p=false↔Bd A p:=by
 simp[X2f,Bd];omega
theorem X2i {A:Int} {l:List Point} (h:l.any (X2f A)=false) (i:Nat) (hi:i<l.length):Bd A l[i]:=by
 rw[List.any_eq_false]at h;rw[←X45];simpa using h l[i] (List.getElem_mem hi)
theorem X1w {a b:Int} (A:Int) (hA:A≤1000000) (h1 : -A≤a∧a≤A) (h2 : -A≤b∧b≤A):IntKind.wrap .i64 (a-b)=a-b:=by rw[w64]<;>omega
theorem X4I {a b c d:Int} (A:Int) (hA:A=2000000) (h1 : -A≤a∧a≤A) (h2 : -A≤b∧b≤A) (h3 : -A≤c∧c≤A) (h4 : -A≤d∧d≤A):IntKind.wrap .i64 (IntKind.wrap .i64 (a*b)-IntKind.wrap .i64 (c*d))=a*b-c*d:=by
 subst hA;have p:=X25 _ _ h1.1 h1.2 h2.1 h2.2;have q:=X25 _ _ h3.1 h3.2 h4.1 h4.2;rw[w64 (x:=a*b),w64 (x:=c*d),w64]<;>omega
theorem X52 (l:List Point) (hl:3≤l.length∧l.length≤8) (hf:l.any (X2f 10000)=false) (i:Nat) (hi:i<l.length) :
  X1h (i:Int) l (((i+1) % l.length:Nat):Int) 0=some (if X4R l i then .inr ()else .inl false):=by
 have hk:(i+1) % l.length<l.length:=Nat.mod_lt _ (by omega)
 unfold X4R;generalize hkk:(i+1) % l.length=k at *;have key:=X3U (Wl (i:Int) l (k:Int)) l.length (fun j (_:Unit)=>(j:Int)) (fun _ _=>True) (fun j _=>some (if WZ (fun m=>m==i||m==k||decide (0<X1 (X0 (l.getD k P0) (l.getD i P0)) (X0 (l.getD m P0) (l.getD i P0)))) j (l.length-j)then .inr ()else .inl false))
  (by
   intro b _ R;simp[Wl,Wu,WZ])
  (by
   intro m b hm _ R hR;have hR':=hR () trivial;rw[show l.length-m=(l.length-(m+1))+1 by omega]
   simp only[WZ];simp only[Wl,Wu];have hw:=wS m (by omega)
   simp only[kS,X3 _ _ _ hm,X3 _ _ _ hi,X3 _ _ _ hk,hw];have b1:=X2i hf m hm;have b2:=X2i hf i hi;have b3:=X2i hf k hk;unfold Bd at b1 b2 b3;rw[X1w 10000 (by omega) ⟨b3.1,b3.2.1⟩ ⟨b2.1,b2.2.1⟩,X1w 10000 (by omega) b1.2.2 b2.2.2,X1w 10000 (by omega) b3.2.2 b2.2.2,X1w 10000 (by omega) ⟨b1.1,b1.2.1⟩ ⟨b2.1,b2.2.1⟩]
   rw[X4I 2000000 rfl (by omega) (by omega) (by omega) (by omega)]
   have d1:decide ((m:Int)<↑l.length)=true:=by simp[hm]
   have d2:=z0S m;have d3:decide ((i:Int)<↑l.length)=true:=by simp[hi]
   have d4:=z0S i;have d5:decide ((k:Int)<↑l.length)=true:=by simp[hk]
   have d6:=z0S k;simp only[d1,d2,d3,d4,d5,d6,Bool.and_self,cond_true];change Option.bind (bif((m:Int) != ↑i)then bif((m:Int) != ↑k)then bif decide (X1 (X0 l[k] l[i]) (X0 l[m] l[i])≤0)then _ else _ else _ else _) _=_
   by_cases e1:m=i
   ·have:((m:Int) != (i:Int))=false:=by simp[e1]
    rw[this];simp[e1];simpa[e1,hi,hk]using hR'
   ·have t1:((m:Int) != (i:Int))=true:=by simp;omega
    by_cases e2:m=k
    ·have:((m:Int) != (k:Int))=false:=by simp[e2]
     rw[t1,this];simp[e2];simpa[e2,hi,hk]using hR'
    ·have t2:((m:Int) != (k:Int))=true:=by simp;omega
     rw[t1,t2]
     by_cases e3:X1 (X0 l[k] l[i]) (X0 l[m] l[i])≤0
     ·have t3:¬0<X1 (X0 l[k] l[i]) (X0 l[m] l[i]):=by omega
      simp[e1,e2,e3,t3]
     ·have t3:0<X1 (X0 l[k] l[i]) (X0 l[m] l[i]):=by omega
      simp[e1,e2,e3,t3];simpa[hi,hk]using hR')
 have:=key 0 () (by omega) trivial
 simpa[X1h]using this
theorem X4M (l:List Point) (hl:3≤l.length∧l.length≤8) (hf:l.any (X2f 10000)=false):X2m l=some (X3M l):=by
 unfold X2m X3M;have key:=Xb (Wk l) (fun o103=>Sum.elim (fun y104:Bool=>some y104) (fun _:Unit=>some true) o103) l.length (fun i (_:Unit)=>(i:Int)) (fun _ _=>True) (fun i _=>some (WZ (X4R l) i (l.length-i)))
  (by
   intro b _ R;simp[Wk,Wt,WZ])
  (by
   intro i b hi _ R hR;have hR':=hR () trivial;rw[show l.length-i=(l.length-(i+1))+1 by omega]
   simp only[WZ];simp only[Wk,Wt];have hw:=wS i (by omega)
   have hm:Int.tmod ((i+1:Nat):Int) (l.length:Int)=(((i+1) % l.length:Nat):Int):=rfl;have d1:decide ((i:Int)<↑l.length)=true:=by simp[hi]
   have d2:((l.length:Int)==0)=false:=by simp;intro h;simp[h]at hl
   simp only[hw,hm,d1,d2,cond_true,cond_false];rw[X52 l hl hf i hi];simp only[jS];cases h:X4R l i
   ·simp
   ·simp;simpa using hR')
 exact(key 0 () (by omega) trivial).trans (by simp)
theorem X50 (s:CtSand):X2Z s=some (X3P s):=by
 unfold X2Z X3P;rw[WU,X1C];simp only[jS];cases hb:XK 3 8 [(s.Hz2.length:Int)]
 ·have hl:3≤s.Hz2.length∧s.Hz2.length≤8:=by simp at hb;omega
  simp only[Bool.not_false,Bool.not_true,cond_false,Bool.false_eq_true,if_false];have key:=X3U (XW s) s.Hz2.length (fun i (_:Unit)=>(i:Int)) (fun _ _=>True) (fun i _=>some (if(s.Hz2.drop i).any (X2f 10000)then .inl 7 else .inr ()))
   (by
    intro b _ R;simp[XW,WG])
   (by
    intro i b hi _ R hR;have hR':=hR () trivial;simp only[XW,WG];rw[List.drop_eq_getElem_cons hi];have hw:=wS i (by omega)
    simp only[kS,X3 _ _ _ hi,List.any_cons,hw];rw[X3z _ _ (by omega)]
    have h1:decide ((i:Int)<↑s.Hz2.length)=true:=by simp[hi]
    have h2:=z0S i;simp only[h1,h2,Bool.and_self,cond_true,jS]
    by_cases h3:X2f 10000 s.Hz2[i]=true
    ·simp[h3]
    ·simp[h3];simpa using hR')
  have k0:=key 0 () (by omega) trivial
  simp only[List.drop_zero,Int.natCast_zero]at k0;unfold X27;have k0':Z9k (XW s) 0=some (if s.Hz2.any (X2f 10000)then .inl 7 else .inr ()):=k0;rw[k0'];simp only[jS];cases hf:s.Hz2.any (X2f 10000)
  ·simp only[Bool.false_eq_true,if_false,Sum.elim_inr];rw[X5l _ _ (by omega),X4M _ hl hf]
   simp only[jS]
   by_cases h:X2d s.Hzc 500 40=0
   ·rw[h];cases X3M s.Hz2<;>simp
   ·simp[h,X1V h]
  ·simp
 ·simp
end Nore
open Go Go.Ab
namespace Nore
theorem X6L {α:Type} (P:α→Bool) (l:List α):l.countP P=0↔∀m,(h:m<l.length)→P l[m]=false:=by
 rw[List.countP_eq_zero];constructor
 ·intro h m hm;simpa using h l[m] (List.getElem_mem hm)
 ·intro h a ha;obtain⟨m,hm,rfl⟩:=List.getElem_of_mem ha;simp[h m hm]
theorem X6F {α:Type} (P:α→Bool) (l:List α):∀i,(hi:i<l.length)→P l[i]=true→(l.countP P=1↔∀m,(h:m<l.length)→m≠i→P l[m]=false):=by
 induction l with
 | nil=>intro i hi;simp at hi
 | cons a t ih =>
  intro i hi hP;cases i with
  | zero =>
   simp only[List.getElem_cons_zero]at hP;rw[List.countP_cons_of_pos hP];rw[show(t.countP P+1=1)↔t.countP P=0 by omega,X6L]
   constructor
   ·intro h m hm hne;cases m with
    | zero=>exact absurd rfl hne
    | succ m=>simpa using h m (by simpa using hm)
   ·intro h m hm;exact h (m+1) (by simpa using hm) (by omega)
  | succ i =>
   simp only[List.getElem_cons_succ]at hP;have hi':i<t.length:=by simpa using hi
   have hpos:0<t.countP P:=by
    rw[List.countP_pos_iff];exact⟨t[i],List.getElem_mem hi',hP⟩
   have ih':=ih i hi' hP;cases ha:P a
   ·rw[List.countP_cons_of_neg (by simp[ha]),ih']
    constructor
    ·intro h m hm hne;cases m with
     | zero=>simpa using ha
     | succ m=>simpa using h m (by simpa using hm) (by omega)
    ·intro h m hm hne;exact h (m+1) (by simpa using hm) (by omega)
   ·rw[List.countP_cons_of_pos ha];constructor
    ·intro h;omega
    ·intro h;have:=h 0 (by simp) (by omega)
     simp[ha]at this
theorem X6G {α:Type} (P:α→Bool) (l:List α):∀i k,(hi:i<l.length)→(hk:k<l.length)→i<k→P l[i]=true→P l[k]=true→(l.countP P=2↔∀m,(h:m<l.length)→m≠i→m≠k→P l[m]=false):=by
 induction l with
 | nil=>intro i k hi;simp at hi
 | cons a t ih =>
  intro i k hi hk hik hP hQ;cases k with
  | zero=>omega
  | succ k =>
   simp only[List.getElem_cons_succ]at hQ;have hk':k<t.length:=by simpa using hk
   cases i with
   | zero =>
    simp only[List.getElem_cons_zero]at hP;rw[List.countP_cons_of_pos hP];rw[show(t.countP P+1=2)↔t.countP P=1 by omega,X6F P t k hk' hQ]
    constructor
    ·intro h m hm hne hne2;cases m with
     | zero=>exact absurd rfl hne
     | succ m=>simpa using h m (by simpa using hm) (by omega)
    ·intro h m hm hne;exact h (m+1) (by simpa using hm) (by omega) (by omega)
   | succ i =>
    simp only[List.getElem_cons_succ]at hP;have hi':i<t.length:=by simpa using hi
    have ih':=ih i k hi' hk' (by omega) hP hQ
    cases ha:P a
    ·rw[List.countP_cons_of_neg (by simp[ha]),ih']
     constructor
     ·intro h m hm hne hne2;cases m with
      | zero=>simpa using ha
      | succ m=>simpa using h m (by simpa using hm) (by omega) (by omega)
     ·intro h m hm hne hne2;exact h (m+1) (by simpa using hm) (by omega) (by omega)
    ·have hpos:2≤t.countP P:=by
      have h1:=X6F P t i hi' hP;have:0<t.countP P:=by
       rw[List.countP_pos_iff];exact⟨t[i],List.getElem_mem hi',hP⟩
      by_cases e:t.countP P=1
      ·have:=h1.1 e k hk' (by omega)
       simp[hQ]at this
      ·omega
     rw[List.countP_cons_of_pos ha];constructor
     ·intro h;omega
     ·intro h;have:=h 0 (by simp) (by omega) (by omega)
      simp[ha]at this
def X2Q (l:List Point) (a b:Point):Bool :=
 (l.countP fun p=>decide (X1 (X0 b a) (X0 p a)≤0))==2 && !((b.X-a.X==0)&&(b.Y-a.Y==0))
def X3i (l:List Point):Point→List Point→Bool
 | _,[]=>true
 | last,p::r=>X2Q l last p&&X3i l p r
theorem X65 (a b:Point):X1 (X0 b a) (X0 b a)=0:=by simp[X1,Int.mul_comm]
theorem X66 (a b:Point):X1 (X0 b a) (X0 a a)=0:=by simp[X1,X0]
theorem X5j (l:List Point) (hl:3≤l.length) (i k:Nat) (hi:i<l.length) (hk:k<l.length) (hne:i≠k) :
  X2Q l l[i] l[k]=WZ (fun m=>m==i||m==k||decide (0<X1 (X0 (l.getD k P0) (l.getD i P0)) (X0 (l.getD m P0) (l.getD i P0)))) 0 l.length:=by
 rw[Bool.eq_iff_iff,X1U];have hPi:decide (X1 (X0 l[k] l[i]) (X0 l[i] l[i])≤0)=true:=by rw[X66];rfl
 have hPk:decide (X1 (X0 l[k] l[i]) (X0 l[k] l[i])≤0)=true:=by rw[X65];rfl
 have hc:(l.countP fun p=>decide (X1 (X0 l[k] l[i]) (X0 p l[i])≤0))=2↔∀m,(h:m<l.length)→m≠i→m≠k→decide (X1 (X0 l[k] l[i]) (X0 l[m] l[i])≤0)=false:=by
  by_cases hik:i<k
  ·exact X6G (fun p=>decide (X1 (X0 l[k] l[i]) (X0 p l[i])≤0)) l i k hi hk hik hPi hPk
  ·have:=X6G (fun p=>decide (X1 (X0 l[k] l[i]) (X0 p l[i])≤0)) l k i hk hi (by omega) hPk hPi
   rw[this];constructor
   ·intro h m hm h1 h2;exact h m hm h2 h1
   ·intro h m hm h1 h2;exact h m hm h2 h1
 simp only[X2Q,Bool.and_eq_true,beq_iff_eq,hc];constructor
 ·rintro⟨h,_⟩ m _ hm;have hm':m<l.length:=by omega
  by_cases e1:m=i
  ·simp[e1]
  ·by_cases e2:m=k
   ·simp[e2]
   ·have:=h m hm' e1 e2;simp only[X3 _ _ _ hm',X3 _ _ _ hi,X3 _ _ _ hk];simp at this;simp[this]
 ·intro h;have h':∀m,(hm:m<l.length)→m≠i→m≠k→0<X1 (X0 l[k] l[i]) (X0 l[m] l[i]):=fun m hm e1 e2=>by
   have:=h m (by omega) (by omega)
   simp only[X3 _ _ _ hm,X3 _ _ _ hi,X3 _ _ _ hk]at this;simpa[e1,e2]using this
  refine⟨fun m hm e1 e2=>?_,?_⟩
  ·have:=h' m hm e1 e2;simp;omega
  ·have:∃m,m<l.length∧m≠i∧m≠k:=by
    by_cases a0:0≠i∧0≠k
    ·exact⟨0,by omega,a0⟩
    ·by_cases a1:1≠i∧1≠k
     ·exact⟨1,by omega,a1⟩
     ·exact⟨2,by omega,by omega,by omega⟩
   obtain⟨m,hm,e1,e2⟩:=this;have:=h' m hm e1 e2;rw[Bool.not_eq_true',Bool.eq_false_iff];intro hz;simp only[Bool.and_eq_true,beq_iff_eq]at hz;simp[X1,X0,hz.1,hz.2]at this
theorem X5H (l:List Point):∀k i,i+k=l.length→1≤i→(hi:i-1<l.length)→(X3i l l[i-1] (l.drop i)=true↔∀j,(h1:i≤j)→(h2:j<l.length)→X2Q l l[j-1] l[j]=true):=by
 intro k
 induction k with
 | zero =>
  intro i hk h1 hi;rw[List.drop_eq_nil_of_le (by omega)]
  simp[X3i];intro j h1 h2;omega
 | succ k ih =>
  intro i hk h1 hi;have hi2:i<l.length:=by omega
  rw[List.drop_eq_getElem_cons hi2];simp only[X3i,Bool.and_eq_true];have:=ih (i+1) (by omega) (by omega) (by omega)
  simp only[Nat.add_sub_cancel]at this;rw[this];constructor
  ·rintro⟨g,h⟩ j a b
   by_cases e:j=i
   ·subst e;exact g
   ·exact h j (by omega) b
  ·intro h;exact⟨h i (by omega) hi2,fun j a b=>h j (by omega) b⟩
theorem X5w (l:List Point) (hl:3≤l.length):X3i l (l.getD (l.length-1) P0) l=X3M l:=by
 rw[Bool.eq_iff_iff];have e:X3i l (l.getD (l.length-1) P0) l=(X2Q l l[l.length-1] l[0]&&X3i l l[1-1] (l.drop 1)):=by
  conv=>lhs;rw[show l=l[0]::l.drop 1 by rw[←List.drop_eq_getElem_cons (by omega)];rfl]
  rw[←show l=l[0]::l.drop 1 by rw[←List.drop_eq_getElem_cons (by omega)];rfl]
  rw[X3 _ _ _ (by omega)]
  conv=>lhs;arg 3;rw[show l=l[0]::l.drop 1 by rw[←List.drop_eq_getElem_cons (by omega)];rfl]
  rfl
 rw[e];simp only[Bool.and_eq_true];rw[X5H l (l.length-1) 1 (by omega) (by omega) (by omega)]
 unfold X3M;rw[X1U];have hside:∀i,(hi:i<l.length)→X4R l i=X2Q l l[i] (l[(i+1) % l.length]'(Nat.mod_lt _ (by omega))):=fun i hi=>by
  have hk:(i+1) % l.length<l.length:=Nat.mod_lt _ (by omega)
  have hne:i≠(i+1) % l.length:=by
   by_cases h:i+1<l.length
   ·rw[Nat.mod_eq_of_lt h];omega
   ·have:i+1=l.length:=by omega
    rw[this,Nat.mod_self];omega
  rw[X5j l hl i _ hi hk hne];rfl
 constructor
 ·rintro⟨h0,h⟩ i _ hi;have hi':i<l.length:=by omega
  rw[hside i hi']
  by_cases hh:i+1<l.length
  ·have:=h (i+1) (by omega) hh
   simp only[Nat.mod_eq_of_lt hh];simpa using this
  ·have e1:i=l.length-1:=by omega
   subst e1;simp only[show l.length-1+1=l.length by omega,Nat.mod_self]
   exact h0
 ·intro h;constructor
  ·have:=h (l.length-1) (by omega) (by omega)
   rw[hside _ (by omega)]at this
   simpa only[show l.length-1+1=l.length by omega,Nat.mod_self]using this
  ·intro j h1 h2;have:=h (j-1) (by omega) (by omega)
   rw[hside _ (by omega)]at this
   simpa only[show j-1+1=j by omega,Nat.mod_eq_of_lt h2]using this
theorem X4s (l:List Point) (hl:l.length≤8) (hf:l.any (X2f 10000)=false) (x4:Zf) (x5:Bool) (x6:Int) (x7:Bool) (x8:Zf) (x9:Bool) (x10:Int) (x11:Zf) (s:Ze) (a b:Point) (ha:Bd 10000 a) (hb:Bd 10000 b) (hs:s=⟨a,X0 b a⟩) :
  Wh (↑l.length) l x4 x5 x6 x7 x8 x9 x10 x11 s (0,0)=some ((l.countP fun p=>decide (X1 (X0 b a) (X0 p a)≤0):Nat):Int):=by
 subst hs;unfold Bd at ha hb;have key:=X3U (Xn (↑l.length) l x4 x5 x6 x7 x8 x9 x10 x11 ⟨a,X0 b a⟩) l.length (fun i (c:Nat)=>((c:Int),(i:Int))) (fun i c=>c≤i) (fun i c=>some (((c+(l.drop i).countP fun p=>decide (X1 (X0 b a) (X0 p a)≤0):Nat)):Int))
  (by
   intro b _ R;simp[Xn,Xw])
  (by
   intro i c hi hc R hR;simp only[Xn,Xw];rw[List.drop_eq_getElem_cons hi];have hw:=wS i (by omega)
   have hw2:=wS c (by omega)
   have bp:=X2i hf i hi;unfold Bd at bp;simp only[kS,X3 _ _ _ hi,hw,hw2,X0];rw[X1w 10000 (by omega) bp.2.2 ha.2.2,X1w 10000 (by omega) ⟨bp.1,bp.2.1⟩ ⟨ha.1,ha.2.1⟩]
   rw[X4I 2000000 rfl (by omega) (by omega) (by omega) (by omega)]
   have h1:decide ((i:Int)<↑l.length)=true:=by simp[hi]
   have h2:=z0S i;simp only[h1,h2,Bool.and_self,cond_true];change Option.bind (bif decide (X1 (X0 b a) (X0 l[i] a)≤0)then _ else _) _=_;change _=some (((c+List.countP (fun p=>decide (X1 (X0 b a) (X0 p a)≤0)) (l[i]::List.drop (i+1) l):Nat)):Int)
   by_cases h:X1 (X0 b a) (X0 l[i] a)≤0
   ·rw[List.countP_cons_of_pos (by simpa using h)]
    simp only[h,decide_true,cond_true,jS,Sum.elim_inl];rw[hR (c+1) (by omega)]
    congr 1;show((_:Nat):Int)=((_:Nat):Int);congr 1;show c+1+_=c+(_+1);simp only[X0];omega
   ·rw[List.countP_cons_of_neg (by simpa using h)]
    simp only[h,decide_false,cond_false,jS,Sum.elim_inl];rw[hR c (by omega)])
 have:=key 0 0 (by omega) (by omega)
 simpa[Wh]using this
theorem X3V (s:Zf):X15 s=some (X3P s.CtSand):=by
 obtain⟨s⟩:=s;unfold X15 X3P;rw[Ww _ _ _ (by simp)]
 simp only[jS];cases hb:XK 3 8 [(s.Hz2.length:Int)]
 ·have hl:3≤s.Hz2.length∧s.Hz2.length≤8:=by simp at hb;omega
  simp only[cond_false,Bool.false_eq_true,if_false];rw[X3s _ (by omega) _ (by omega)]
  simp only[jS];cases hf:s.Hz2.any (X2f 10000)
  ·simp only[cond_false,Bool.false_eq_true,if_false];rw[X5g _ _ (by omega)]
   simp only[jS]
   by_cases h:X2d s.Hzc 500 40=0
   ·have hw:IntKind.wrap .i64 ((s.Hz2.length:Int)-1)=(s.Hz2.length:Int)-1:=by rw[w64]<;>omega
    have ht:((s.Hz2.length:Int)-1).toNat=s.Hz2.length-1:=by omega
    have h1:decide ((0:Int)≤(s.Hz2.length:Int)-1)=true:=by simp;omega
    have h2:decide ((s.Hz2.length:Int)-1<(s.Hz2.length:Int))=true:=by simp;omega
    simp only[h,hw,ht,h1,h2,bne_self_eq_false,cond_false,Bool.and_self,cond_true,if_true];rw[←X5w _ hl.1];have hlast:Bd 10000 (s.Hz2.getD (s.Hz2.length-1) P0):=by
     rw[X3 _ _ _ (by omega)];exact X2i hf _ (by omega)
    refine(Xb (Xm (↑s.Hz2.length) s.Hz2 ⟨s⟩ false 0 false ⟨s⟩ false 0 ⟨s⟩ [(↑s.Hz2.length:Int)]) _ s.Hz2.length (fun i (b:Point)=>((i:Int),b)) (fun _ b=>Bd 10000 b) (fun i b=>some (if X3i s.Hz2 b (s.Hz2.drop i)then 0 else 9)) ?_ ?_ 0 _ (by omega) hlast).trans (by simp)
    ·intro b _ R;simp[Xm,Xv,X3i]
    ·intro i b hi hP R hR;have bp:=X2i hf i hi;have hR':=hR s.Hz2[i] bp;simp only[Xm,Xv];rw[List.drop_eq_getElem_cons hi];have hw:=wS i (by omega)
     simp only[kS,X3 _ _ _ hi,hw,X3i];have bp':=bp;have hP':=hP;unfold Bd at bp' hP';rw[X1w 10000 (by omega) bp'.2.2 hP'.2.2,X1w 10000 (by omega) ⟨bp'.1,bp'.2.1⟩ ⟨hP'.1,hP'.2.1⟩]
     rw[X4s s.Hz2 hl.2 hf _ _ _ _ _ _ _ _ ⟨⟨b.X,b.Y⟩,⟨s.Hz2[i].X-b.X,s.Hz2[i].Y-b.Y⟩⟩ b s.Hz2[i] hP bp rfl];have h1:decide ((i:Int)<↑s.Hz2.length)=true:=by simp[hi]
     have h2:=z0S i;simp only[h1,h2,Bool.and_self,cond_true,jS];have hg:X2Q s.Hz2 b s.Hz2[i]=((s.Hz2.countP fun p=>decide (X1 (X0 s.Hz2[i] b) (X0 p b)≤0))==2 && !((s.Hz2[i].X-b.X==0)&&(s.Hz2[i].Y-b.Y==0))):=rfl;generalize (s.Hz2.countP fun p=>decide (X1 (X0 s.Hz2[i] b) (X0 p b)≤0))=c at hg⊢
     by_cases h3:c=2
     ·subst h3;cases h4:(s.Hz2[i].X-b.X==0)
      ·simp only[h4,Bool.false_and,Bool.not_false,Bool.and_true,beq_self_eq_true]at hg;simp[hg];simpa using hR'
      ·cases h5:(s.Hz2[i].Y-b.Y==0)
       ·simp only[h4,h5,Bool.and_false,Bool.not_false,Bool.and_true,beq_self_eq_true]at hg;simp[hg];simpa using hR'
       ·simp only[h4,h5,Bool.and_self,Bool.not_true,Bool.and_false]at hg;simp[hg]
     ·have h3':(((c:Nat):Int) != 2)=true:=by simp;omega
      have h3'':(c==2)=false:=by simp[h3]
      rw[h3'',Bool.false_and]at hg;simp[h3',hg]
   ·rw[X1s h,if_neg h];rfl
  ·simp
 ·simp
end Nore
open Go Go.Ab
namespace Nore
theorem Z8v (a b:ByteArray):(a==b)=(a.data==b.data):=by cases a;cases b;rfl
instance:LawfulBEq ByteArray where
 rfl:=by intro a;rw[Z8v];simp
 eq_of_beq:=by
  intro a b h;rw[Z8v]at h;have:=eq_of_beq h;cases a;cases b;simp only at this;rw[this]
instance:DecidableEq ByteArray:=fun a b=>if h:(a==b)=true then isTrue (eq_of_beq h)else isFalse (fun e=>h (by rw[e];simp))
theorem X42 {v:Int} (s k:ByteArray):∀m:List (ByteArray×Int),Z93 (fun a b=>a==b) s (Zid (fun a b=>a==b) k v m)=if s=k then some v else Z93 (fun a b=>a==b) s m
 | []=>by
  by_cases h:s=k
  ·simp[Zid,Z93,h]
  ·have h':(s==k)=false:=beq_eq_false_iff_ne.2 h;simp[Zid,Z93,h,h']
 | (k',v')::m=>by
  have ih:=X42 s k m (v:=v);simp only[Zid]
  by_cases h1:k=k'
  ·subst h1;simp only[beq_self_eq_true,cond_true,Z93]
   by_cases h:s=k
   ·simp[h]
   ·have h':(s==k)=false:=beq_eq_false_iff_ne.2 h;simp[h,h']
  ·have:(k==k')=false:=by simp[h1]
   simp only[this,cond_false,Z93]
   by_cases h2:s=k'
   ·subst h2;have h3:s≠k:=fun h=>h1 h.symm;simp[h3]
   ·have:(s==k')=false:=by simp[h2]
    simp only[this,cond_false,ih]
def X1v (s:ByteArray) (names:List ByteArray):Int:=if X4a s then(if s∈names then 5 else 0)else 6
theorem X5J {a b:ByteArray} (h:a.toList=b.toList):a=b:=by
 cases a;cases b;simp only[ByteArray.toList_eq]at h;congr 1;exact Array.ext' h
theorem X3L (s:ByteArray) (names:List ByteArray) (hl:names.length<1000000):X1Z s names=some (X1v s names):=by
 unfold X1Z X1v;rw[X4Z];simp only[jS];cases X4a s
 ·simp
 ·simp only[Bool.not_true,cond_false,if_true];unfold X3c;have key:=Xb (XH s names) (fun o78=>Option.bind (Sum.elim (fun y79:Int=>some y79) (fun _:Unit=>some (-1)) o78) fun r82=>bif decide (r82≥0)then some (5:Int)else some 0) names.length (fun i (_:Unit)=>(i:Int)) (fun _ _=>True) (fun i _=>some (if s∈names.drop i then 5 else 0))
   (by
    intro b _ R;simp[XH,Ws])
   (by
    intro i b hi _ R hR;have hR':=hR () trivial;simp only[XH,Ws];rw[List.drop_eq_getElem_cons hi];have hw:=wS i (by omega)
    simp only[kS,X3 _ _ _ hi,hw];have h1:decide ((i:Int)<↑names.length)=true:=by simp[hi]
    have h2:=z0S i;simp only[h1,h2,Bool.and_self,cond_true]
    by_cases h:names[i]=s
    ·simp[h]
    ·have h':(names[i].toList==s.toList)=false:=by
      simp only[beq_eq_false_iff_ne];intro hh;exact h (X5J hh)
     have h'':¬s=names[i]:=fun hh=>h hh.symm;simp only[h',cond_false,jS,Sum.elim_inl,List.mem_cons,h'',false_or];exact hR')
  have:=key 0 () (by omega) trivial
  simp only[List.drop_zero]at this;rw[←this];show Option.bind (Option.bind _ _) _=Option.bind _ _;unfold X1R;simp only[Int.natCast_zero];cases Z9k (XH s names) 0<;>rfl
def X2k (m:ZC) (names:List ByteArray):Int:=if X1v m.Name names=0 then(if X2f 30000 m.At then 7 else X2E m.Hz3)else X1v m.Name names
def X3f (s:CtSand) (names:List ByteArray):Int:=if X1v s.Name names=0 then X3P s else X1v s.Name names
def X2t:Nat→List ByteArray→List CtSand→Int×Int×Int
 | _,_,[]=>(0,0,0)
 | i,names,s::l=>if X3f s names=0 then X2t (i+1) (names++[s.Name]) l else(2,(i:Int),X3f s names)
def X2S (sands:List CtSand):Nat→List ByteArray→List ZC→Int×Int×Int
 | _,names,[]=>if 4<sands.length then(2,0,3)else X2t 0 names sands
 | i,names,m::l=>if X2k m names=0 then X2S sands (i+1) (names++[m.Name]) l else(1,(i:Int),X2k m names)
def WW (c:Zp):Int×Int×Int:=if 8<c.Hz8.length then(1,0,3)else X2S c.Hzb 0 [] c.Hz8
def Z2C (m:List (ByteArray×Int)) (names:List ByteArray):Prop:=∀s,Option.getD (Z93 (fun a b=>a==b) s m) 0=if s∈names then 1 else 0
theorem X5s {m:List (ByteArray×Int)} {names:List ByteArray} (h:Z2C m names) (s:ByteArray) (hs:s∉names):Z2C (Zid (fun a b=>a==b) s (IntKind.wrap .i64 (Option.getD (Z93 (fun a b=>a==b) s m) 0+1)) m) (names++[s]):=by
 intro t;rw[X42,h s,if_neg hs]
 by_cases e:t=s
 ·simp[e];rfl
 ·simp[e];simpa using h t
theorem X4H {m:List (ByteArray×Int)} {names:List ByteArray} (h:Z2C m names) (s:ByteArray):decide (Option.getD (Z93 (fun a b=>a==b) s (Zid (fun a b=>a==b) s (IntKind.wrap .i64 (Option.getD (Z93 (fun a b=>a==b) s m) 0+1)) m)) 0>1)=decide (s∈names):=by
 rw[X42,h s];simp only[if_true,Option.getD_some]
 by_cases e:s∈names
 ·simp only[e,if_true];rfl
 ·simp only[e,if_false];rfl
theorem X5p (c:Zp) (hl:c.Hzb.length≤4) (m:List (ByteArray×Int)) (names:List ByteArray) (hm:Z2C m names) (k:_→Option (Int×Int×Int))
  (hk:k=fun o56=>Sum.elim (fun(y57:Int×Int×Int×(List (ByteArray×Int))×CtSand)=>some (y57.snd.snd.fst,y57.fst,y57.snd.fst)) (fun y58=>Sum.elim (fun(y59:Int×Int×Int×(List (ByteArray×Int))×CtSand)=>some (y59.snd.snd.fst,y59.fst,y59.snd.fst)) (fun y60=>Sum.elim (fun(y61:Int×Int×Int×(List (ByteArray×Int))×CtSand)=>some (y61.snd.snd.fst,y61.fst,y61.snd.fst)) (fun(_:List (ByteArray×Int))=>some (0,0,0)) y60) y58) o56) :
  Option.bind (X1c (↑c.Hzb.length) c.Hzb c (0,m)) k=some (X2t 0 names c.Hzb):=by
 subst hk;unfold X1c;exact Xb (Wg (↑c.Hzb.length) c.Hzb c) _ c.Hzb.length (fun i (b:List (ByteArray×Int)×List ByteArray)=>((i:Int),b.1)) (fun _ b=>Z2C b.1 b.2) (fun i b=>some (X2t i b.2 (c.Hzb.drop i)))
  (by
   intro b _ R;simp[Wg,Wo,X2t])
  (by
   intro i b hi hP R hR;simp only[Wg,Wo];rw[List.drop_eq_getElem_cons hi];have hw:=wS i (by omega)
   simp only[kS,X3 _ _ _ hi,hw,X2t];rw[X3X,X3V,X4H hP];have h1:decide ((i:Int)<↑c.Hzb.length)=true:=by simp[hi]
   have h2:=z0S i;simp only[h1,h2,Bool.and_self,cond_true,jS]
   by_cases hn:X4a c.Hzb[i].Name=true
   ·by_cases he:c.Hzb[i].Name∈b.2
    ·have hE:X3f c.Hzb[i] b.2=5:=by simp[X3f,X1v,hn,he]
     simp[hn,he,hE]
    ·have e0:(⟨c.Hzb[i].Name,c.Hzb[i].Hz2,c.Hzb[i].Hzc⟩:CtSand)=c.Hzb[i]:=rfl;have hE:X3f c.Hzb[i] b.2=X3P c.Hzb[i]:=by simp[X3f,X1v,hn,he]
     rw[e0];simp only[hn,he,Bool.not_true,decide_false,cond_false,hE]
     by_cases hs:X3P c.Hzb[i]=0
     ·simp only[hs,bne_self_eq_false,cond_false,if_true,jS,Sum.elim_inl];exact hR (_,b.2++[c.Hzb[i].Name]) (X5s hP _ he)
     ·simp[hs,X1s hs]
   ·have hE:X3f c.Hzb[i] b.2=6:=by simp[X3f,X1v,hn]
    simp[hn,hE]) 0 (m,names) (by omega) hm
theorem X3C (c:Zp):X1W c=some (WW c):=by
 unfold X1W WW
 by_cases h8:8<c.Hz8.length
 ·have:decide ((c.Hz8.length:Int)>8)=true:=by simp;omega
  rw[this];simp[h8]
 ·have:decide ((c.Hz8.length:Int)>8)=false:=by simp;omega
  rw[this];simp only[cond_false,h8,if_false];exact Xb (Wf (↑c.Hz8.length) c.Hz8 c) _ c.Hz8.length (fun i (b:List (ByteArray×Int)×List ByteArray)=>((i:Int),b.1)) (fun _ b=>Z2C b.1 b.2) (fun i b=>some (X2S c.Hzb i b.2 (c.Hz8.drop i)))
   (by
    intro b hP R;simp only[Wf,Wn];have h1:decide ((c.Hz8.length:Int)<↑c.Hz8.length)=false:=by simp
    simp only[h1,cond_false,jS,Sum.elim_inr,List.drop_length,X2S]
    by_cases h4:4<c.Hzb.length
    ·have:decide ((c.Hzb.length:Int)>4)=true:=by simp;omega
     rw[this];simp[h4]
    ·have:decide ((c.Hzb.length:Int)>4)=false:=by simp;omega
     rw[this];simp only[cond_false,h4,if_false];exact X5p c (by omega) _ _ hP _ rfl)
   (by
    intro i b hi hP R hR;simp only[Wf,Wn];rw[List.drop_eq_getElem_cons hi];have hw:=wS i (by omega)
    simp only[kS,X3 _ _ _ hi,hw,X2S];rw[X3X,X4t,X4H hP,X3s _ (by omega) _ (by simp)]
    have h1:decide ((i:Int)<↑c.Hz8.length)=true:=by simp[hi]
    have h2:=z0S i;simp only[h1,h2,Bool.and_self,cond_true,jS,List.any_cons,List.any_nil,Bool.or_false]
    by_cases hn:X4a c.Hz8[i].Name=true
    ·by_cases he:c.Hz8[i].Name∈b.2
     ·have hE:X2k c.Hz8[i] b.2=5:=by simp[X2k,X1v,hn,he]
      simp[hn,he,hE]
     ·by_cases hfar:X2f 30000 c.Hz8[i].At=true
      ·have hE:X2k c.Hz8[i] b.2=7:=by simp[X2k,X1v,hn,he,hfar]
       simp[hn,he,hfar,hE]
      ·have hE:X2k c.Hz8[i] b.2=X2E c.Hz8[i].Hz3:=by simp[X2k,X1v,hn,he,hfar]
       simp only[hn,he,hfar,Bool.not_true,decide_false,cond_false,hE]
       by_cases hs:X2E c.Hz8[i].Hz3=0
       ·simp only[hs,bne_self_eq_false,cond_false,if_true,jS,Sum.elim_inl];exact hR (_,b.2++[c.Hz8[i].Name]) (X5s hP _ he)
       ·simp[hs,X1s hs]
    ·have hE:X2k c.Hz8[i] b.2=6:=by simp[X2k,X1v,hn]
     simp[hn,hE]) 0 ([],[]) (by omega) (by intro s;simp[Z93])
theorem X5v (c:Zp) (hl:c.Hzb.length≤4) (names:List ByteArray) (hm:names.length≤8) (k:_→Option (Int×Int×Int))
  (hk:k=fun o134=>Sum.elim (fun(y135:Int×Int×Int×(List ByteArray)×(List ByteArray))=>some (y135.snd.snd.fst,y135.fst,y135.snd.fst)) (fun y136=>Sum.elim (fun(y137:Int×Int×Int×(List ByteArray)×(List ByteArray))=>some (y137.snd.snd.fst,y137.fst,y137.snd.fst)) (fun(_:List ByteArray)=>some (0,0,0)) y136) o134) :
  Option.bind (X1f c (0,names)) k=some (X2t 0 names c.Hzb):=by
 subst hk;unfold X1f;exact Xb (Wj c) _ c.Hzb.length (fun i (b:List ByteArray)=>((i:Int),b)) (fun i b=>b.length≤8+i) (fun i b=>some (X2t i b (c.Hzb.drop i)))
  (by
   intro b _ R;simp[Wj,Wr,X2t])
  (by
   intro i b hi hP R hR;simp only[Wj,Wr];rw[List.drop_eq_getElem_cons hi];have hw:=wS i (by omega)
   simp only[kS,X3 _ _ _ hi,hw,X2t];rw[X3L _ _ (by omega),X50]
   have h1:decide ((i:Int)<↑c.Hzb.length)=true:=by simp[hi]
   have h2:=z0S i;have h3:Nat.ble ((b.length+[c.Hzb[i].Name].length)*(16+1)) 200000000000000=true:=by
    rw[Nat.ble_eq];simp;omega
   simp only[h1,h2,h3,Bool.and_self,cond_true,jS]
   by_cases hf:X1v c.Hzb[i].Name b=0
   ·have hE:X3f c.Hzb[i] b=X3P c.Hzb[i]:=by simp[X3f,hf]
    simp only[hf,hE,beq_self_eq_true,cond_true]
    by_cases hs:X3P c.Hzb[i]=0
    ·simp only[hs,bne_self_eq_false,cond_false,if_true,jS,Sum.elim_inl];exact hR (b++[c.Hzb[i].Name]) (by simp;omega)
    ·simp[hs,X1s hs]
   ·have hE:X3f c.Hzb[i] b=X1v c.Hzb[i].Name b:=by simp[X3f,hf]
    simp[hE,hf,X1V hf,X1s hf]) 0 names (by omega) (by omega)
theorem X4J (c:Zp):X2l c=some (WW c):=by
 unfold X2l WW
 by_cases h8:8<c.Hz8.length
 ·have:decide ((c.Hz8.length:Int)>8)=true:=by simp;omega
  rw[this];simp[h8]
 ·have:decide ((c.Hz8.length:Int)>8)=false:=by simp;omega
  rw[this];simp only[cond_false,h8,if_false];exact Xb (Wi c) _ c.Hz8.length (fun i (b:List ByteArray)=>((i:Int),b)) (fun i b=>b.length≤i) (fun i b=>some (X2S c.Hzb i b (c.Hz8.drop i)))
   (by
    intro b hP R;simp only[Wi,Wq];have h1:decide ((c.Hz8.length:Int)<↑c.Hz8.length)=false:=by simp
    simp only[h1,cond_false,jS,Sum.elim_inr,List.drop_length,X2S]
    by_cases h4:4<c.Hzb.length
    ·have:decide ((c.Hzb.length:Int)>4)=true:=by simp;omega
     rw[this];simp[h4]
    ·have:decide ((c.Hzb.length:Int)>4)=false:=by simp;omega
     rw[this];simp only[cond_false,h4,if_false];exact X5v c (by omega) _ (by omega) _ rfl)
   (by
    intro i b hi hP R hR;simp only[Wi,Wq];rw[List.drop_eq_getElem_cons hi];have hw:=wS i (by omega)
    simp only[kS,X3 _ _ _ hi,hw,X2S];rw[X3L _ _ (by omega),X4u,X3z _ _ (by omega)]
    have h1:decide ((i:Int)<↑c.Hz8.length)=true:=by simp[hi]
    have h2:=z0S i;have h3:Nat.ble ((b.length+[c.Hz8[i].Name].length)*(16+1)) 200000000000000=true:=by
     rw[Nat.ble_eq];simp;omega
    simp only[h1,h2,h3,Bool.and_self,cond_true,jS]
    by_cases hf:X1v c.Hz8[i].Name b=0
    ·by_cases hfar:X2f 30000 c.Hz8[i].At=true
     ·have hE:X2k c.Hz8[i] b=7:=by simp[X2k,hf,hfar]
      simp[hf,hfar,hE]
     ·have hE:X2k c.Hz8[i] b=X2E c.Hz8[i].Hz3:=by simp[X2k,hf,hfar]
      simp only[hf,hfar,hE,Bool.not_false,Bool.not_true,cond_false,beq_self_eq_true,cond_true]
      by_cases hs:X2E c.Hz8[i].Hz3=0
      ·simp only[hs,bne_self_eq_false,cond_false,if_true,jS,Sum.elim_inl];exact hR (b++[c.Hz8[i].Name]) (by simp;omega)
      ·simp[hs,X1s hs]
    ·have hE:X2k c.Hz8[i] b=X1v c.Hz8[i].Name b:=by simp[X2k,hf]
     simp[hE,hf,X1V hf,X1s hf]) 0 [] (by omega) (by simp)
end Nore
open Go Go.Ab
namespace Nore
theorem X4f (b:ZF):X2J b=some (X2d b 9000 16):=by
 unfold X2J X2d;rw[X9 _ _ _ (by simp),X9 _ _ _ (by simp),X9 _ _ _ (by simp)]
 simp only[jS];cases hb:XK (-9000) 9000 [b.X.Lo,b.X.Hi,b.Y.Lo,b.Y.Hi]
 ·simp at hb;have h1:IntKind.wrap .i64 (b.X.Lo+16)=b.X.Lo+16:=by rw[w64]<;>omega
  have h2:IntKind.wrap .i64 (b.Y.Lo+16)=b.Y.Lo+16:=by rw[w64]<;>omega
  rw[h1,h2];simp only[cond_false,Bool.false_eq_true,if_false]
  by_cases c1:b.X.Hi<b.X.Lo∨b.X.Hi>b.X.Lo+16
  ·have e1:XK b.X.Lo (b.X.Lo+16) [b.X.Hi]=true:=by simp;omega
   have e2:XK 0 16 [b.X.Hi-b.X.Lo,b.Y.Hi-b.Y.Lo]=true:=by simp;omega
   rw[e1,e2];simp
  ·have e1:XK b.X.Lo (b.X.Lo+16) [b.X.Hi]=false:=by simp;omega
   rw[e1]
   by_cases c2:b.Y.Hi<b.Y.Lo∨b.Y.Hi>b.Y.Lo+16
   ·have e1:XK b.Y.Lo (b.Y.Lo+16) [b.Y.Hi]=true:=by simp;omega
    have e2:XK 0 16 [b.X.Hi-b.X.Lo,b.Y.Hi-b.Y.Lo]=true:=by simp;omega
    rw[e1,e2];simp
   ·have e1:XK b.Y.Lo (b.Y.Lo+16) [b.Y.Hi]=false:=by simp;omega
    have e2:XK 0 16 [b.X.Hi-b.X.Lo,b.Y.Hi-b.Y.Lo]=false:=by simp;omega
    rw[e1,e2];simp
 ·simp
theorem X4c (b:ZF):X2I b=some (X2d b 9000 16):=by
 unfold X2I;rw[X2s _ _ _ (by simp)]
 rw[←X4T b 9000 16 (by omega)]
 simp only[jS]
 by_cases h:X1G (-9000) 9000 0 [b.X,b.Y]=0
 ·have hb:=X5d _ _ _ h;have h1:IntKind.wrap .i64 (b.X.Hi-b.X.Lo)=b.X.Hi-b.X.Lo:=by rw[w64]<;>omega
  have h2:IntKind.wrap .i64 (b.Y.Hi-b.Y.Lo)=b.Y.Hi-b.Y.Lo:=by rw[w64]<;>omega
  rw[h1,h2,h]
  by_cases h3:b.X.Hi-b.X.Lo>16
  ·simp[h3]
  ·by_cases h4:b.Y.Hi-b.Y.Lo>16<;>simp[h3,h4]
 ·rw[X1V h,if_neg h];rfl
def X2j (m:SgMooring):Int×Int :=
 if(WW m.Hz9).2.2≠0 then(1,(WW m.Hz9).2.2)else if X2d m.Anchor 9000 16≠0 then(2,X2d m.Anchor 9000 16)else
 if XK 0 200 [m.Ring.Lo,m.Ring.Hi]||XK 0 20000 [m.Near]then(3,7)else if m.Ring.Lo>m.Ring.Hi then(3,2)else(0,0)
theorem X4U (m:SgMooring):X2p m=some (X2j m):=by
 unfold X2p X2j;rw[X3C,X4f,X9 _ _ _ (by simp),X9 _ _ _ (by simp)]
 simp only[jS]
 by_cases h1:(WW m.Hz9).2.2=0
 ·by_cases h2:X2d m.Anchor 9000 16=0
  ·simp only[h1,h2,bne_self_eq_false,cond_false,ne_eq,not_true,if_false];cases XK 0 200 [m.Ring.Lo,m.Ring.Hi]
   ·cases XK 0 20000 [m.Near]
    ·by_cases h3:m.Ring.Lo>m.Ring.Hi<;>simp[h3]
    ·simp
   ·simp
  ·simp[h1,h2,X1s h2]
 ·simp[h1,X1s h1]
theorem X4N (m:SgMooring):X2n m=some (X2j m):=by
 unfold X2n X2j X3d;rw[X4J,X4c,X2s _ _ _ (by simp),X3e,X1C]
 simp only[jS]
 by_cases h1:(WW m.Hz9).2.2=0
 ·by_cases h2:X2d m.Anchor 9000 16=0
  ·simp only[h1,h2,bne_self_eq_false,cond_false,ne_eq,not_true,if_false,X1G];cases XK 0 200 [m.Ring.Lo,m.Ring.Hi]
   ·cases XK 0 20000 [m.Near]
    ·by_cases h3:m.Ring.Lo>m.Ring.Hi
     ·have h3':m.Ring.Hi<m.Ring.Lo:=h3;simp[h3,h3']
     ·have h3':¬m.Ring.Hi<m.Ring.Lo:=h3;simp[h3,h3']
    ·by_cases h3:m.Ring.Lo>m.Ring.Hi
     ·have h3':m.Ring.Hi<m.Ring.Lo:=h3;simp[h3,h3']
     ·have h3':¬m.Ring.Hi<m.Ring.Lo:=h3;simp[h3,h3']
   ·simp
  ·simp[h1,h2,X1s h2]
 ·simp[h1,X1s h1]
def X48 (Xu:Int) (x:ZD):Int :=
 if X2d x.At 9000 16=7∨XK 0 100000 [x.Minute]=true∨XK 0 31 [x.Point]=true∨XK 1 32 [x.Points]=true then 7 else
 if X2d x.At 9000 16=0∧x.Minute≤Xu then 2 else X2d x.At 9000 16
def X3h:Nat→Int→List ZD→Int×Int
 | _,_,[]=>(0,0)
 | i,Xu,x::l=>if X48 Xu x=0 then X3h (i+1) x.Minute l else((i:Int),X48 Xu x)
def X2 (m:SgMooring) (l:List ZD):Int×Int:=if(X2j m).2≠0 then(0,(X2j m).2)else if 8<l.length then(0,3)else X3h 0 (-1) l
theorem X51 (x:ZD) (Xu:Int):X30 x Xu=some (X48 Xu x):=by
 unfold X30 X48;rw[X4c,X3e,X3e,X3e,X1C,X1C,X1C];simp only[jS]
 by_cases h:X2d x.At 9000 16=7
 ·simp[h]
 ·cases h1:XK 0 100000 [x.Minute]
  ·cases h2:XK 0 31 [x.Point]
   ·cases h3:XK 1 32 [x.Points]
    ·by_cases h4:X2d x.At 9000 16=0
     ·by_cases h5:x.Minute≤Xu<;>simp[h4,h5]
     ·simp[h,h4,X1V h,X1V h4]
    ·simp[h,X1V h]
   ·simp[h,X1V h]
  ·simp[h,X1V h]
theorem X2B (m:SgMooring) (l:List ZD):Wz m l=some (X2 m l):=by
 unfold Wz X2;rw[X4N];simp only[jS]
 by_cases h:(X2j m).2=0
 ·simp only[h,beq_self_eq_true,cond_true,bne_self_eq_false,cond_false,ne_eq,not_true,if_false]
  by_cases h8:8<l.length
  ·have:decide ((l.length:Int)>8)=true:=by simp;omega
   rw[this];simp[h8]
  ·have:decide ((l.length:Int)>8)=false:=by simp;omega
   rw[this];simp only[cond_false,h8,if_false];exact Xb (Xo l m) _ l.length (fun i (b:Int)=>((i:Int),b)) (fun _ _=>True) (fun i b=>some (X3h i b (l.drop i)))
    (by
     intro b _ R;simp[Xo,Xy,X3h])
    (by
     intro i b hi _ R hR;have hR':=hR l[i].Minute trivial;simp only[Xo,Xy];rw[List.drop_eq_getElem_cons hi];have hw:=wS i (by omega)
     simp only[kS,X3 _ _ _ hi,hw,X3h];rw[X51];have h1:decide ((i:Int)<↑l.length)=true:=by simp[hi]
     have h2:=z0S i;simp only[h1,h2,Bool.and_self,cond_true,jS]
     by_cases he:X48 b l[i]=0
     ·simp only[he,bne_self_eq_false,cond_false,jS,Sum.elim_inl,if_true];exact hR'
     ·simp[he,X1s he]) 0 (-1) (by omega) trivial
 ·simp[h,X1s h,X1V h]
theorem X2C (m:SgMooring) (l:List ZD):WA m l=some (X2 m l):=by
 unfold WA X2;rw[X4U];simp only[jS]
 by_cases h:(X2j m).2=0
 ·simp only[h,bne_self_eq_false,cond_false,ne_eq,not_true,if_false]
  by_cases h8:8<l.length
  ·have:decide ((l.length:Int)>8)=true:=by simp;omega
   rw[this];simp[h8]
  ·have:decide ((l.length:Int)>8)=false:=by simp;omega
   rw[this];simp only[cond_false,h8,if_false];exact Xb (Xp l (↑l.length) l) _ l.length (fun i (_:Int)=>(i:Int)) (fun i b=>b=if i=0 then -1 else(l.getD (i-1) ⟨0,0,0,⟨⟨0,0⟩,⟨0,0⟩⟩⟩).Minute) (fun i b=>some (X3h i b (l.drop i)))
    (by
     intro b _ R;simp[Xp,Xz,X3h])
    (by
     intro i b hi hP R hR;have hR':=hR l[i].Minute (by simp[List.getD,hi])
     simp only[Xp,Xz];rw[List.drop_eq_getElem_cons hi];have hw:=wS i (by omega)
     have hw1:IntKind.wrap .i64 ((i:Int)-1)=(i:Int)-1:=by rw[w64]<;>omega
     simp only[kS,X3 _ _ _ hi,hw,hw1,X3h];rw[X4f,X9 _ _ _ (by simp),X9 _ _ _ (by simp),X9 _ _ _ (by simp)]
     have h1:decide ((i:Int)<↑l.length)=true:=by simp[hi]
     have h2:=z0S i;simp only[h1,h2,Bool.and_self,cond_true,jS];generalize hx:l[i]=x at *;unfold X48
     by_cases h7:X2d x.At 9000 16=7
     ·simp[h7]
     ·cases e1:XK 0 100000 [x.Minute]
      ·cases e2:XK 0 31 [x.Point]
       ·cases e3:XK 1 32 [x.Points]
        ·by_cases h0:X2d x.At 9000 16=0
         ·by_cases hz:i=0
          ·subst hz;simp at hP e1;have h5:¬x.Minute≤b:=by omega
           simp[h0,h5];simpa using hR'
          ·have e7:(0:Int)≤(i:Int)-1:=by omega
           have e8:(i:Int)-1<(l.length:Int):=by omega
           have e9:((i:Int)-1).toNat=i-1:=by omega
           have e10:(i:Int)>0:=by omega
           simp only[e7,e8,e9,e10,decide_true,Bool.and_self,cond_true];simp only[hz,if_false]at hP;rw[←hP]
           by_cases h5:x.Minute≤b
           ·simp[h0,h5]
           ·simp[h0,h5];simpa using hR'
         ·simp[h7,h0,X1V h7,X1V h0,X1s h0]
        ·simp[h7,X1V h7]
       ·simp[h7,X1V h7]
      ·simp[h7,X1V h7]) 0 (-1) (by omega) (by simp)
 ·simp[h,X1s h]
end Nore
namespace Nore.Geo
def vxL:List Int:=[0,195,383,556,707,831,924,981,1000,981,924,831,707,556,383,195,0,-195,-383,-556,-707,-831,-924,-981,-1000,-981,-924,-831,-707,-556,-383,-195]
def vyL:List Int:=[1000,981,924,831,707,556,383,195,0,-195,-383,-556,-707,-831,-924,-981,-1000,-981,-924,-831,-707,-556,-383,-195,0,195,383,556,707,831,924,981]
def vx (p:Nat):Int:=vxL.getD p 0
def vy (p:Nat):Int:=vyL.getD p 0
def crs (p:Nat) (X Y:Int):Int:=vx p*Y-vy p*X
def cc (p q:Nat):Int:=vx p*vy q-vy p*vx q
theorem plucker (t u p:Nat) (X Y:Int):cc u t*crs p X Y=cc p t*crs u X Y+(- crs t X Y)*cc p u:=by
 unfold cc crs;generalize vx t=a,vy t=b,vx u=c,vy u=d,vx p=e,vy p=f
 grind
def Tow (t:Nat) (X Y:Int):Prop:=crs t X Y≤0∧crs ((t+1) % 32) X Y>0
theorem tab0:∀t,t<32→cc ((t+1) % 32) t>0:=by decide
theorem tab1:∀t,t<32→∀j,j<15→cc ((t+(j+1)) % 32) t>0∧cc ((t+(j+1)) % 32) ((t+1) % 32)≥0:=by decide
theorem tab2:∀t,t<32→∀j,j<16→cc ((t+(j+17)) % 32) t≤0∧cc ((t+(j+17)) % 32) ((t+1) % 32)≤0:=by decide
theorem tow_pos {t:Nat} {X Y:Int} (ht:t<32) (h:Tow t X Y) (j:Nat) (h1:1≤j) (h2:j≤15):crs ((t+j) % 32) X Y>0:=by
 obtain⟨ha,hb⟩:=h;have k0:=tab0 t ht;have k1:=tab1 t ht (j-1) (by omega)
 rw[show j-1+1=j by omega]at k1
 have e:=plucker t ((t+1) % 32) ((t+j) % 32) X Y;generalize crs ((t+j) % 32) X Y=z at *;generalize crs ((t+1) % 32) X Y=y at *;generalize crs t X Y=x at *;obtain⟨k1,k2⟩:=k1;generalize cc ((t+1) % 32) t=K at *;generalize cc ((t+j) % 32) t=A at *;generalize cc ((t+j) % 32) ((t+1) % 32)=B at *;have p1:A*y>0:=Int.mul_pos k1 hb;have p2:(-x)*B≥0:=Int.mul_nonneg (by omega) k2
 have p3:K*z>0:=by omega
 exact Int.pos_of_mul_pos_right p3 k0 |> fun h=>h
theorem tow_neg {t:Nat} {X Y:Int} (ht:t<32) (h:Tow t X Y) (j:Nat) (h1:17≤j) (h2:j≤32):crs ((t+j) % 32) X Y≤0:=by
 obtain⟨ha,hb⟩:=h;have k0:=tab0 t ht;have k1:=tab2 t ht (j-17) (by omega)
 rw[show j-17+17=j by omega]at k1
 have e:=plucker t ((t+1) % 32) ((t+j) % 32) X Y;generalize crs ((t+j) % 32) X Y=z at *;generalize crs ((t+1) % 32) X Y=y at *;generalize crs t X Y=x at *;obtain⟨k1,k2⟩:=k1;generalize cc ((t+1) % 32) t=K at *;generalize cc ((t+j) % 32) t=A at *;generalize cc ((t+j) % 32) ((t+1) % 32)=B at *;have p1:A*y≤0:=Int.mul_nonpos_of_nonpos_of_nonneg k1 (by omega)
 have p2:(-x)*B≤0:=Int.mul_nonpos_of_nonneg_of_nonpos (by omega) k2
 have p3:K*z≤0:=by omega
 apply Int.not_lt.1;intro hz;have:=Int.mul_pos k0 hz;omega
theorem tow_sign {t:Nat} {X Y:Int} (ht:t<32) (h:Tow t X Y) (p:Nat) (hp:p<32) (hne:p≠(t+16) % 32):(crs p X Y>0)↔(1≤(p+32-t) % 32∧(p+32-t) % 32≤15):=by
 have hj:(t+(p+32-t) % 32) % 32=p:=by omega
 constructor
 ·intro hs
  by_cases h1:1≤(p+32-t) % 32∧(p+32-t) % 32≤15
  ·exact h1
  ·exfalso
   by_cases h0:(p+32-t) % 32=0
   ·have:p=t:=by omega
    subst this;have:=h.1;omega
   ·have:=tow_neg ht h ((p+32-t) % 32) (by omega) (by omega)
    rw[hj]at this;omega
 ·intro h1;have:=tow_pos ht h _ h1.1 h1.2;rw[hj]at this;exact this
theorem opp:∀p,p<16→vx (p+16) = - vx p∧vy (p+16) = - vy p:=by decide
theorem tow_exists {X Y:Int} (h:X≠0∨Y≠0):∃t,t<32∧Tow t X Y:=by
 by_cases hx:∃t,t<32∧Tow t X Y
 ·exact hx
 ·exfalso;have hn:∀t,t<32→crs t X Y≤0→crs ((t+1) % 32) X Y≤0:=fun t ht h1=>by
   apply Int.not_lt.1;intro h2;exact hx ⟨t,ht,h1,h2⟩
  have all:∀t,t<32→crs t X Y≤0→∀j,crs ((t+j) % 32) X Y≤0:=fun t ht h1 j=>by
   induction j with
   | zero=>rw[show(t+0) % 32=t by omega];exact h1
   | succ j ih =>
    have:=hn ((t+j) % 32) (by omega) ih
    rw[show((t+j) % 32+1) % 32=(t+(j+1)) % 32 by omega]at this
    exact this
  have o:=opp;have c0:crs 0 X Y = - (1000*X):=by unfold crs;simp only[show vx 0=0 from rfl,show vy 0=1000 from rfl];omega
  have c8:crs 8 X Y=1000*Y:=by unfold crs;simp only[show vx 8=1000 from rfl,show vy 8=0 from rfl];omega
  have c16:crs 16 X Y=1000*X:=by unfold crs;simp only[show vx 16=0 from rfl,show vy 16 = -1000 from rfl];omega
  have c24:crs 24 X Y = - (1000*Y):=by unfold crs;simp only[show vx 24 = -1000 from rfl,show vy 24=0 from rfl];omega
  have z:∃t,t<32∧crs t X Y≤0:=by
   by_cases h0:crs 0 X Y≤0
   ·exact⟨0,by omega,h0⟩
   ·exact⟨16,by omega,by omega⟩
  obtain⟨t,ht,h1⟩:=z;have r:∀p,p<32→crs p X Y≤0:=fun p hp=>by
   have:=all t ht h1 (p+32-t);rw[show(t+(p+32-t)) % 32=p by omega]at this
   exact this
  have r0:=r 0 (by omega)
  have r8:=r 8 (by omega)
  have r16:=r 16 (by omega)
  have r24:=r 24 (by omega)
  omega
def isTow (X Y:Int) (t:Nat):Bool:=decide (crs t X Y≤0)&&decide (crs ((t+1) % 32) X Y>0)
def tow (X Y:Int):Nat:=((List.range 32).find? (isTow X Y)).getD 0
theorem isTow_iff {X Y:Int} {t:Nat}:isTow X Y t=true↔Tow t X Y:=by simp[isTow,Tow]
theorem tow_spec {X Y:Int} (h:X≠0∨Y≠0):tow X Y<32∧Tow (tow X Y) X Y:=by
 obtain⟨t,ht,hT⟩:=tow_exists h;unfold tow;cases hf:(List.range 32).find? (isTow X Y)with
 | none =>
  rw[List.find?_eq_none]at hf;exact absurd (isTow_iff.2 hT) (hf t (by simp[ht]))
 | some u =>
  have h1:=List.find?_some hf;have h2:=List.mem_of_find?_eq_some hf;simp only[Option.getD_some];exact⟨by simpa using h2,isTow_iff.1 h1⟩
theorem sector {X Y:Int} {t a m:Nat} (ht:t<32) (hT:Tow t X Y) (ha:a<32) (h1:1≤m) (h8:m≤8):(¬crs a X Y>0∧crs ((a+m) % 32) X Y>0)↔(t+32-a) % 32<m:=by
 have s1:=tow_sign ht hT a ha;have s2:=tow_sign ht hT ((a+m) % 32) (by omega)
 by_cases e1:a=(t+16) % 32
 ·have e2:(a+m) % 32≠(t+16) % 32:=by omega
  have s2:=s2 e2;constructor
  ·intro h;have:=s2.1 h.2;omega
  ·intro h;omega
 ·have s1:=s1 e1
  by_cases e2:(a+m) % 32=(t+16) % 32
  ·constructor
   ·intro h;have:¬(1≤(a+32-t) % 32∧(a+32-t) % 32≤15):=fun hh=>h.1 (s1.2 hh);omega
   ·intro h;omega
  ·have s2:=s2 e2;constructor
   ·intro h;have h3:¬(1≤(a+32-t) % 32∧(a+32-t) % 32≤15):=fun hh=>h.1 (s1.2 hh);have:=s2.1 h.2;omega
   ·intro h;refine⟨fun hc=>?_,s2.2 (by omega)⟩
    have:=s1.1 hc;omega
end Nore.Geo
open Go Go.Ab
namespace Nore
def X4V:Nat→Point→Point
 | 0,v=>v
 | k+1,v=>X4V k ⟨v.Y,-v.X⟩
def X3o (j:Nat):Point:=bif Nat.beq j 7 then Point.mk 981 195 else bif Nat.beq j 6 then Point.mk 924 383 else bif Nat.beq j 5 then Point.mk 831 556 else bif Nat.beq j 4 then Point.mk 707 707 else bif Nat.beq j 3 then Point.mk 556 831 else bif Nat.beq j 2 then Point.mk 383 924 else bif Nat.beq j 1 then Point.mk 195 981 else bif Nat.beq j 0 then Point.mk 0 1000 else Point.mk 0 0
def X5T (p:Nat):Point:=⟨Geo.vx p,Geo.vy p⟩
theorem X6p:∀p,p<32→(X4V (p / 8) (X3o (p % 8))).X=Geo.vx p∧(X4V (p / 8) (X3o (p % 8))).Y=Geo.vy p:=by decide
theorem X5F:∀j,j<8→Bd 1000 (X3o j):=by unfold Bd;decide
theorem X6D:∀p,p<32 → -1000≤Geo.vx p∧Geo.vx p≤1000 ∧ -1000≤Geo.vy p∧Geo.vy p≤1000:=by decide
theorem X6q (p:Nat) (hp:p<32):X4V (p / 8) (X3o (p % 8))=X5T p:=by
 have:=X6p p hp;cases h:X4V (p / 8) (X3o (p % 8))with
 | mk a b=>rw[h]at this;simp only[X5T,Point.mk.injEq];exact this
theorem X6J {a:Int} (h : -1000000≤a∧a≤1000000):IntKind.wrap .i64 (0-a) = -a:=by rw[w64]<;>omega
theorem X3u (p:Nat) (hp:p<32):X1A (p:Int)=some (X5T p,0):=by
 unfold X1A;rw[Ww _ _ _ (by simp)]
 have h0:XK 0 31 [(p:Int)]=false:=by simp;omega
 rw[h0];simp only[jS,cond_false];have hm:Int.tmod (p:Int) 8=((p % 8:Nat):Int):=rfl;have hd:Int.tdiv (p:Int) 8=((p / 8:Nat):Int):=rfl;have hw:IntKind.wrap .i64 ((p / 8:Nat):Int)=((p / 8:Nat):Int):=by rw[w64]<;>omega
 rw[hm,hd,hw];have c1:decide ((0:Int)≤((p % 8:Nat):Int))=true:=by simp;omega
 have c2:decide (((p % 8:Nat):Int)<((8:Nat):Int))=true:=by simp;omega
 have c2':decide (((p % 8:Nat):Int)<(8:Int))=true:=by simp;omega
 have loop:=Xb (XQ ((p / 8:Nat):Int) [(p:Int)] (Point.mk 0 0)) (fun o181=>some (o181,(0:Int))) (p / 8) (fun i (b:Point)=>((i:Int),b)) (fun _ b=>Bd 1000 b) (fun i b=>some (X4V (p / 8-i) b,0))
  (by
   intro b _ R;simp[XQ,W2,X4V])
  (by
   intro i b hi hP R hR;have hb:Bd 1000 ⟨b.Y,-b.X⟩:=by unfold Bd at *;simp only;omega
   have hR':=hR ⟨b.Y,-b.X⟩ hb;simp only[XQ,W2];have hw:=wS i (by omega)
   have h1:decide ((i:Int)<((p / 8:Nat):Int))=true:=by simp only[decide_eq_true_eq];omega
   have h2:IntKind.wrap .i64 (0-b.X) = -b.X:=X6J (by unfold Bd at hP;omega)
   simp only[h1,cond_true,hw,h2,jS,Sum.elim_inl];rw[hR',show p / 8-i=(p / 8-(i+1))+1 by omega]
   rfl) 0 (X3o (p % 8)) (by omega) (X5F _ (by omega))
 simp only[Nat.sub_zero,X6q p hp]at loop;have e:(decide ((0:Int)≤((p % 8:Nat):Int))&&decide (((p % 8:Nat):Int)<((8:Nat):Int)))=true:=by rw[c1,c2];rfl
 refine Eq.trans ?_ loop;show(bif(decide ((0:Int)≤((p % 8:Nat):Int))&&decide (((p % 8:Nat):Int)<((8:Nat):Int)))then _ else none)=_;rw[e];rfl
theorem X6B (p:Nat) (hp:p<32) (v:Point) (hv:Bd 20000 v):IntKind.wrap .i64 (IntKind.wrap .i64 ((X5T p).X*v.Y)-IntKind.wrap .i64 ((X5T p).Y*v.X))=Geo.crs p v.X v.Y:=by
 have bd:=X6D p hp;unfold Bd at hv;rw[X4I 2000000 rfl (by simp only[X5T];omega) (by omega) (by simp only[X5T];omega) (by omega)]
 rfl
def X3j (m:SgMooring) (x:ZD) (a p:Point):Bool :=
 inN ((p.X-a.X)*(p.X-a.X)+(p.Y-a.Y)*(p.Y-a.Y)) (m.Ring.Lo*m.Ring.Lo) (m.Ring.Hi*m.Ring.Hi)&&inN p.X x.At.X.Lo x.At.X.Hi&&inN p.Y x.At.Y.Lo x.At.Y.Hi &&
 (decide (p.X-a.X=0∧p.Y-a.Y=0)||decide ((Geo.tow (p.X-a.X) (p.Y-a.Y)+32-x.Point.toNat) % 32<x.Points.toNat))
structure X4h (x:ZD):Prop where
 p0:0≤x.Point
 p1:x.Point≤31
 n0:1≤x.Points
 n1:x.Points≤32
theorem X5I {a:Int} (h : -20000≤a∧a≤20000):IntKind.wrap .i64 (a*a)=a*a∧0≤a*a∧a*a≤400000000:=by
 have p:=X25 20000 20000 h.1 h.2 h.1 h.2;have q:0≤a*a:=by
  by_cases h0:0≤a
  ·exact Int.mul_nonneg h0 h0
  ·exact Int.mul_nonneg_of_nonpos_of_nonpos (by omega) (by omega)
 exact⟨by rw[w64]<;>omega,q,by omega⟩
theorem X6y {a b:Int}:a*a+b*b=0↔a=0∧b=0:=by
 have pos:∀a:Int,0≤a*a:=fun a=>by
  by_cases h0:0≤a
  ·exact Int.mul_nonneg h0 h0
  ·exact Int.mul_nonneg_of_nonpos_of_nonpos (by omega) (by omega)
 constructor
 ·intro h;have h1:=pos a;have h2:=pos b;have ha:a*a=0:=by omega
  have hb:b*b=0:=by omega
  rw[Int.mul_eq_zero]at ha hb;exact⟨by omega,by omega⟩
 ·rintro⟨rfl,rfl⟩;rfl
end Nore
open Go Go.Ab
namespace Nore
theorem X4F (n lo hi:Int):XK lo hi [n] = !inN n lo hi:=by rw[X1C];simp
theorem X54 (y:Za) (x:ZD) (a p:Point) (hx:X4h x) (hr:0≤y.SgMooring.Ring.Lo∧y.SgMooring.Ring.Lo≤200∧0≤y.SgMooring.Ring.Hi∧y.SgMooring.Ring.Hi≤200) (ha:Bd 9000 a) (hp:Bd 9000 p):XD y x a p=some (X3j y.SgMooring x a p):=by
 generalize hm:y.SgMooring=m at *;unfold XD X3j;rw[hm];unfold Bd at ha hp;rw[X1w 9000 (by omega) (a:=p.X) ⟨hp.1,hp.2.1⟩ ⟨ha.1,ha.2.1⟩,X1w 9000 (by omega) (a:=p.Y) hp.2.2 ha.2.2]
 have s1:=X5I (a:=p.X-a.X) (by omega)
 have s2:=X5I (a:=p.Y-a.Y) (by omega)
 have s3:=X5I (a:=m.Ring.Lo) (by omega)
 have s4:=X5I (a:=m.Ring.Hi) (by omega)
 have hw:IntKind.wrap .i64 ((p.X-a.X)*(p.X-a.X)+(p.Y-a.Y)*(p.Y-a.Y))=(p.X-a.X)*(p.X-a.X)+(p.Y-a.Y)*(p.Y-a.Y):=by rw[w64]<;>omega
 rw[s1.1,s2.1,s3.1,s4.1,hw,X9 _ _ _ (by simp),X9 _ _ _ (by simp),X9 _ _ _ (by simp),X4F,X4F,X4F]
 simp only[jS]
 by_cases g2:inN p.X x.At.X.Lo x.At.X.Hi=true
 ·by_cases g3:inN p.Y x.At.Y.Lo x.At.Y.Hi=true
  ·by_cases g1:inN ((p.X-a.X)*(p.X-a.X)+(p.Y-a.Y)*(p.Y-a.Y)) (m.Ring.Lo*m.Ring.Lo) (m.Ring.Hi*m.Ring.Hi)=true
   ·simp only[g1,g2,g3,Bool.not_true,cond_false,Bool.true_and]
    by_cases hz:p.X-a.X=0∧p.Y-a.Y=0
    ·simp[hz.1,hz.2]
    ·have hz2:¬((p.X-a.X)*(p.X-a.X)+(p.Y-a.Y)*(p.Y-a.Y)=0):=fun h=>hz (X6y.1 h);have hT:=Geo.tow_spec (X:=p.X-a.X) (Y:=p.Y-a.Y) (by omega)
     obtain⟨q1,q2,q3,q4⟩:=hx;simp only[X1V hz2,cond_false,hz,decide_false,Bool.false_or]
     by_cases hall:x.Points=32
     ·have e:(x.Points==32)=true:=by simp[hall]
      rw[e];simp only[cond_true];congr 1;symm;simp;omega
     ·rw[X1V hall];simp only[cond_false];have eP:x.Point=((x.Point.toNat:Nat):Int):=by omega
      have eN:x.Points=((x.Points.toNat:Nat):Int):=by omega
      have hP:x.Point.toNat<32:=by omega
      have hN1:1≤x.Points.toNat:=by omega
      have hN2:x.Points.toNat<32:=by omega
      generalize x.Point.toNat=P at *;generalize hN:x.Points.toNat=N at *;generalize ht:Geo.tow (p.X-a.X) (p.Y-a.Y)=t at *;have hv:Bd 20000 ⟨p.X-a.X,p.Y-a.Y⟩:=by unfold Bd;simp only;omega
      refine(Xb (Xe _ _ _ _ _ _ _ _) _ ((N+7) / 8) (fun i (_:Unit)=>((8*i:Nat):Int)) (fun _ _=>True) (fun i _=>some (decide (8*i≤(t+32-P) % 32∧(t+32-P) % 32<N))) ?_ ?_ 0 () (by omega) trivial).trans (by simp)
      ·intro b _ R;simp only[Xe,Xl];have h1:decide (((8*((N+7) / 8):Nat):Int)<x.Points)=false:=by simp only[decide_eq_false_iff_not];omega
       rw[h1];simp only[cond_false,jS,Sum.elim_inr];congr 1;symm;rw[decide_eq_false_iff_not];omega
      ·intro i b hi _ R hR;have hR':=hR () trivial;simp only[Xe,Xl];have h1:decide (((8*i:Nat):Int)<x.Points)=true:=by simp only[decide_eq_true_eq];omega
       have w1:IntKind.wrap .i64 (x.Point+((8*i:Nat):Int))=((P+8*i:Nat):Int):=by rw[w64]<;>omega
       have w2:IntKind.wrap .i64 (x.Points-((8*i:Nat):Int))=((N-8*i:Nat):Int):=by rw[w64]<;>omega
       have w4:IntKind.wrap .i64 (((8*i:Nat):Int)+8)=((8*(i+1):Nat):Int):=by rw[w64]<;>omega
       rw[h1,w1,w2,w4];have w3:(bif decide (((N-8*i:Nat):Int)<8)then((N-8*i:Nat):Int)else 8)=((min 8 (N-8*i):Nat):Int):=by
        by_cases hh:((N-8*i:Nat):Int)<8
        ·simp only[hh,decide_true,cond_true];omega
        ·simp only[hh,decide_false,cond_false];omega
       rw[w3];have w5:IntKind.wrap .i64 (((P+8*i:Nat):Int)+((min 8 (N-8*i):Nat):Int))=((P+8*i+min 8 (N-8*i):Nat):Int):=by rw[w64]<;>omega
       rw[w5];have m1:Int.tmod ((P+8*i:Nat):Int) 32=(((P+8*i) % 32:Nat):Int):=rfl;have m2:Int.tmod ((P+8*i+min 8 (N-8*i):Nat):Int) 32=(((P+8*i+min 8 (N-8*i)) % 32:Nat):Int):=rfl;rw[m1,m2,X3u _ (Nat.mod_lt _ (by omega)),X3u _ (Nat.mod_lt _ (by omega))]
       simp only[cond_true,jS];rw[X6B _ (Nat.mod_lt _ (by omega)) _ hv,X6B _ (Nat.mod_lt _ (by omega)) _ hv]
       simp only;have sec:=Geo.sector hT.1 hT.2 (a:=(P+8*i) % 32) (m:=min 8 (N-8*i)) (Nat.mod_lt _ (by omega)) (by omega) (by omega)
       rw[show((P+8*i) % 32+min 8 (N-8*i)) % 32=(P+8*i+min 8 (N-8*i)) % 32 by omega]at sec
       by_cases c1:Geo.crs ((P+8*i) % 32) (p.X-a.X) (p.Y-a.Y)>0
       ·simp only[c1,decide_true,Bool.not_true,cond_false,jS,Sum.elim_inl];rw[hR'];congr 1;have:¬(t+32-(P+8*i) % 32) % 32<min 8 (N-8*i):=fun h=>(sec.2 h).1 c1;rw[decide_eq_decide];omega
       ·by_cases c2:Geo.crs ((P+8*i+min 8 (N-8*i)) % 32) (p.X-a.X) (p.Y-a.Y)>0
        ·simp only[c1,c2,decide_true,decide_false,Bool.not_false,cond_true,jS,Sum.elim_inl,Sum.elim_inr];congr 1;have:=sec.1 ⟨c1,c2⟩;symm;rw[decide_eq_true_eq];omega
        ·simp only[c1,c2,decide_true,decide_false,Bool.not_false,cond_true,cond_false,jS,Sum.elim_inl,Sum.elim_inr];rw[hR'];congr 1;have:¬(t+32-(P+8*i) % 32) % 32<min 8 (N-8*i):=fun h=>c2 (sec.2 h).2;rw[decide_eq_decide];omega
   ·simp[g1,g2,g3]
  ·simp[g2,g3]
 ·simp[g2]
end Nore
open Go Go.Ab
namespace Nore
def X2R (lo hi:Int):List Int:=(List.range (hi+1-lo).toNat).map fun(k:Nat)=>lo+(k:Int)
theorem X4G {lo hi:Int} (h:¬lo≤hi):X2R lo hi=[]:=by
 unfold X2R;rw[show(hi+1-lo).toNat=0 by omega];rfl
theorem X4p {lo hi:Int} (h:lo≤hi):X2R lo hi=lo::X2R (lo+1) hi:=by
 unfold X2R;rw[show(hi+1-lo).toNat=(hi+1-(lo+1)).toNat+1 by omega,List.range_succ_eq_map]
 simp only[List.map_cons,List.map_map];congr 1
 ·omega
 ·apply List.map_congr_left;intro k _;simp only[Function.comp];omega
theorem X4Y (lo hi:Int):(X2R lo hi).length=(hi+1-lo).toNat:=by simp[X2R]
theorem X2T {lo hi x:Int}:x∈X2R lo hi↔lo≤x∧x≤hi:=by
 simp only[X2R,List.mem_map,List.mem_range];constructor
 ·rintro⟨k,h,rfl⟩;omega
 ·rintro⟨h1,h2⟩;exact⟨(x-lo).toNat,by omega,by omega⟩
def X28 (x lo hi:Int):List Point:=(X2R lo hi).map fun y=>⟨x,y⟩
def X8 (x:Int) (b:ZF):List Point:=(X2R x b.X.Hi).flatMap fun x=>X28 x b.Y.Lo b.Y.Hi
def X4 (b:ZF):List Point:=X8 b.X.Lo b
theorem X4d {x lo hi:Int} (h:¬lo≤hi):X28 x lo hi=[]:=by simp[X28,X4G h]
theorem X3T {x lo hi:Int} (h:lo≤hi):X28 x lo hi=⟨x,lo⟩::X28 x (lo+1) hi:=by simp[X28,X4p h]
theorem X3N (x lo hi:Int):(X28 x lo hi).length=(hi+1-lo).toNat:=by simp[X28,X4Y]
theorem X1o {x:Int} {b:ZF} (h:¬x≤b.X.Hi):X8 x b=[]:=by simp[X8,X4G h]
theorem X16 {x:Int} {b:ZF} (h:x≤b.X.Hi):X8 x b=X28 x b.Y.Lo b.Y.Hi++X8 (x+1) b:=by simp[X8,X4p h]
theorem X3n (b:ZF):∀n x,(b.X.Hi+1-x).toNat=n→(X8 x b).length=n*(b.Y.Hi+1-b.Y.Lo).toNat:=by
 intro n
 induction n with
 | zero=>intro x h;rw[X1o (by omega)];simp
 | succ n ih =>
  intro x h;rw[X16 (by omega),List.length_append,X3N,ih (x+1) (by omega),Nat.succ_mul]
  omega
theorem X2U {b:ZF} {p:Point}:p∈X4 b↔b.X.Lo≤p.X∧p.X≤b.X.Hi∧b.Y.Lo≤p.Y∧p.Y≤b.Y.Hi:=by
 simp only[X4,X8,List.mem_flatMap,X28,List.mem_map,X2T];constructor
 ·rintro⟨x,⟨h1,h2⟩,y,⟨h3,h4⟩,rfl⟩;exact⟨h1,h2,h3,h4⟩
 ·rintro⟨h1,h2,h3,h4⟩;exact⟨p.X,⟨h1,h2⟩,p.Y,⟨h3,h4⟩,rfl⟩
def X1r {α β:Type} (f:Nat→α→β→β):Nat→List α→β→β
 | _,[],b=>b
 | i,a::l,b=>X1r f (i+1) l (f i a b)
theorem X46 {α β:Type} (f:Nat→α→β→β) (l2:List α):∀(l1:List α) (i:Nat) (b:β),X1r f i (l1++l2) b=X1r f (i+l1.length) l2 (X1r f i l1 b)
 | [],i,b=>rfl
 | a::l1,i,b=>by
  simp only[List.cons_append,X1r,X46 f l2 l1,List.length_cons];rw[show i+1+l1.length=i+(l1.length+1) by omega]
theorem X4e {β σ ω:Type} (st:σ→Option (σ⊕ω)) (emb:Nat→Int→β→σ) (ex:Nat→β→ω) (f:Nat→Point→β→β) (P:Nat→β→Prop) (x lo hi:Int) (N:Nat)
  (hd:∀i y b,¬y≤hi→st (emb i y b)=some (.inr (ex i b)))
  (hn:∀i y b,lo≤y→y≤hi→i<N→P i b→st (emb i y b)=some (.inl (emb (i+1) (y+1) (f i ⟨x,y⟩ b)))∧P (i+1) (f i ⟨x,y⟩ b)) :
  ∀n y i b,(hi+1-y).toNat=n→lo≤y→i+n≤N→P i b→Z9k st (emb i y b)=some (ex (i+n) (X1r f i (X28 x y hi) b))∧P (i+n) (X1r f i (X28 x y hi) b):=by
 intro n
 induction n with
 | zero =>
  intro y i b h1 h2 h3 hP;rw[ZiZ,hd i y b (by omega),X4d (by omega)]
  exact⟨rfl,hP⟩
 | succ n ih =>
  intro y i b h1 h2 h3 hP;have h:=hn i y b h2 (by omega) (by omega) hP
  rw[ZiZ,h.1,X3T (by omega)]
  have:=ih (y+1) (i+1) (f i ⟨x,y⟩ b) (by omega) (by omega) (by omega) h.2
  rw[show i+(n+1)=i+1+n by omega]
  exact this
theorem X44 {β σ ω:Type} (st:σ→Option (σ⊕ω)) (emb:Nat→Int→β→σ) (ex:Nat→β→ω) (f:Nat→Point→β→β) (P:Nat→β→Prop) (b:ZF) (N:Nat)
  (hd:∀i x c,¬x≤b.X.Hi→st (emb i x c)=some (.inr (ex i c)))
  (hn:∀i x c,b.X.Lo≤x→x≤b.X.Hi→i+(b.Y.Hi+1-b.Y.Lo).toNat≤N→P i c→st (emb i x c)=some (.inl (emb (i+(b.Y.Hi+1-b.Y.Lo).toNat) (x+1) (X1r f i (X28 x b.Y.Lo b.Y.Hi) c)))∧P (i+(b.Y.Hi+1-b.Y.Lo).toNat) (X1r f i (X28 x b.Y.Lo b.Y.Hi) c)) :
  ∀n x i c,(b.X.Hi+1-x).toNat=n→b.X.Lo≤x→i+n*(b.Y.Hi+1-b.Y.Lo).toNat≤N→P i c→Z9k st (emb i x c)=some (ex (i+n*(b.Y.Hi+1-b.Y.Lo).toNat) (X1r f i (X8 x b) c))∧P (i+n*(b.Y.Hi+1-b.Y.Lo).toNat) (X1r f i (X8 x b) c):=by
 intro n
 induction n with
 | zero =>
  intro x i c h1 h2 h3 hP;rw[ZiZ,hd i x c (by omega),X1o (by omega),Nat.zero_mul]
  exact⟨rfl,hP⟩
 | succ n ih =>
  intro x i c h1 h2 h3 hP;rw[Nat.succ_mul]at h3;have h:=hn i x c h2 (by omega) (by omega) hP
  rw[ZiZ,h.1,X16 (by omega),X46,X3N]
  have:=ih (x+1) (i+(b.Y.Hi+1-b.Y.Lo).toNat) _ (by omega) (by omega) (by omega) h.2
  rw[show i+(n+1)*(b.Y.Hi+1-b.Y.Lo).toNat=i+(b.Y.Hi+1-b.Y.Lo).toNat+n*(b.Y.Hi+1-b.Y.Lo).toNat by rw[Nat.succ_mul];omega]
  exact this
theorem X6x {σ ω:Type} (st:σ→Option (σ⊕ω)) (emb:Nat→Int→σ) (hit:Point→ω) (fin:Nat→ω) (p:Point→Bool) (x lo hi:Int) (N:Nat)
  (hd:∀i y,¬y≤hi→st (emb i y)=some (.inr (fin i)))
  (hn:∀i y,lo≤y→y≤hi→i<N→st (emb i y)=some (if p ⟨x,y⟩=true then .inr (hit ⟨x,y⟩)else .inl (emb (i+1) (y+1)))) :
  ∀n y i,(hi+1-y).toNat=n→lo≤y→i+n≤N→((X28 x y hi).any p=true∧∃q,Z9k st (emb i y)=some (hit q))∨((X28 x y hi).any p=false∧Z9k st (emb i y)=some (fin (i+n))):=by
 intro n
 induction n with
 | zero =>
  intro y i h1 h2 h3;right;rw[ZiZ,hd i y (by omega),X4d (by omega)]
  exact⟨rfl,rfl⟩
 | succ n ih =>
  intro y i h1 h2 h3;rw[ZiZ,hn i y h2 (by omega) (by omega),X3T (by omega)]
  by_cases hp:p ⟨x,y⟩=true
  ·left;simp only[hp,if_true];exact⟨by simp[hp],_,rfl⟩
  ·simp only[hp,List.any_cons,Bool.false_or];have:=ih (y+1) (i+1) (by omega) (by omega) (by omega)
   rw[show i+(n+1)=i+1+n by omega]
   exact this
theorem X6t {σ ω:Type} (st:σ→Option (σ⊕ω)) (emb:Nat→Int→σ) (hit:Point→ω) (fin:Nat→ω) (p:Point→Bool) (b:ZF) (N:Nat)
  (hd:∀i x,¬x≤b.X.Hi→st (emb i x)=some (.inr (fin i)))
  (hn:∀i x,b.X.Lo≤x→x≤b.X.Hi→i+(b.Y.Hi+1-b.Y.Lo).toNat≤N→((X28 x b.Y.Lo b.Y.Hi).any p=true∧∃q,st (emb i x)=some (.inr (hit q)))∨((X28 x b.Y.Lo b.Y.Hi).any p=false∧st (emb i x)=some (.inl (emb (i+(b.Y.Hi+1-b.Y.Lo).toNat) (x+1))))) :
  ∀n x i,(b.X.Hi+1-x).toNat=n→b.X.Lo≤x→i+n*(b.Y.Hi+1-b.Y.Lo).toNat≤N→((X8 x b).any p=true∧∃q,Z9k st (emb i x)=some (hit q))∨((X8 x b).any p=false∧∃k,Z9k st (emb i x)=some (fin k)):=by
 intro n
 induction n with
 | zero =>
  intro x i h1 h2 h3;right;rw[ZiZ,hd i x (by omega),X1o (by omega)]
  exact⟨rfl,_,rfl⟩
 | succ n ih =>
  intro x i h1 h2 h3;rw[Nat.succ_mul]at h3;rw[X16 (by omega),List.any_append]
  rcases hn i x h2 (by omega) (by omega)with⟨ha,q,hq⟩|⟨ha,hq⟩
  ·left;refine⟨by rw[ha,Bool.true_or],q,?_⟩
   rw[ZiZ,hq];rfl
  ·have:=ih (x+1) (i+(b.Y.Hi+1-b.Y.Lo).toNat) (by omega) (by omega) (by omega)
   rw[ha,Bool.false_or,ZiZ,hq];exact this
def WX (s:Nat→Int) (i:Nat):Bool:=(s (i / 64)).toNat.testBit (i % 64)
def X1i (s:Nat→Int):Prop:=∀k,k<5→0≤s k∧s k<18446744073709551616
def X5k (s:Nat→Int) (i:Nat):Nat→Int:=fun j=>bif Nat.beq j (i / 64)then(((s (i / 64)).toNat ||| 2 ^ (i % 64):Nat):Int)else s j
theorem X6E {x:Int} (h1:0≤x) (h2:x<18446744073709551616):IntKind.wrap .u64 x=x:=by
 simp only[IntKind.wrap,IntKind.signed,IntKind.bits];simp;omega
theorem X39 (w:Int) (h1:0≤w) (h2:w<18446744073709551616):(BitVec.ofInt 64 w).toNat=w.toNat:=by
 rw[BitVec.toNat_ofInt];have:w % ((2 ^ 64:Nat):Int)=w:=Int.emod_eq_of_lt h1 (by rw[show((2 ^ 64:Nat):Int)=18446744073709551616 from rfl];exact h2)
 rw[this]
theorem X6K (w:Int) (r:Nat) (hr:r<64) (h1:0≤w) (h2:w<18446744073709551616) :
  IntKind.wrap .u64 ((BitVec.ofInt (IntKind.bits .u64) w ||| BitVec.ofInt (IntKind.bits .u64) (IntKind.wrap .u64 (1*2 ^ min r (IntKind.bits .u64)))).toNat:Int)=((w.toNat ||| 2 ^ r:Nat):Int)∧(w.toNat ||| 2 ^ r)<18446744073709551616:=by
 have hb:IntKind.bits .u64=64:=rfl;have hlt:(2:Nat) ^ r<2 ^ 64:=Nat.pow_lt_pow_right (by omega) hr
 have hlt2:w.toNat<2 ^ 64:=by omega
 have hor:(w.toNat ||| 2 ^ r)<2 ^ 64:=Nat.or_lt_two_pow hlt2 hlt;rw[hb,show min r 64=r by omega,Int.one_mul]
 have hp:((2:Int) ^ r)=((2 ^ r:Nat):Int):=by simp
 rw[hp];generalize 2 ^ r=z at *;rw[X6E (x:=(z:Int)) (by omega) (by omega)]
 refine⟨?_,by omega⟩
 rw[BitVec.toNat_or,X39 _ h1 h2,X39 _ (by omega) (by omega),kS]
 exact X6E (by omega) (by omega)
theorem X6A (a b:Int) (h1:0≤a) (h2:a<18446744073709551616) (h3:0≤b) (h4:b<18446744073709551616) :
  IntKind.wrap .u64 ((BitVec.ofInt (IntKind.bits .u64) a &&& BitVec.ofInt (IntKind.bits .u64) b).toNat:Int)=((a.toNat &&& b.toNat:Nat):Int)∧(a.toNat &&& b.toNat)<18446744073709551616:=by
 have hb:IntKind.bits .u64=64:=rfl;have hle:a.toNat &&& b.toNat≤a.toNat:=Nat.and_le_left;rw[hb];refine⟨?_,by omega⟩
 rw[BitVec.toNat_and,X39 _ h1 h2,X39 _ h3 h4];exact X6E (by omega) (by omega)
theorem X6H (w:Int) (r:Nat) (hr:r<64) (h1:0≤w) (h2:w<18446744073709551616) :
  (IntKind.wrap .u64 ((BitVec.ofInt (IntKind.bits .u64) (Int.fdiv w (2 ^ min r (IntKind.bits .u64))) &&& BitVec.ofInt (IntKind.bits .u64) 1).toNat:Int)==1)=w.toNat.testBit r:=by
 have hb:IntKind.bits .u64=64:=rfl;have hp:((2:Int) ^ r)=((2 ^ r:Nat):Int):=by simp
 have hd:Int.fdiv w (2 ^ min r (IntKind.bits .u64))=((w.toNat / 2 ^ r:Nat):Int):=by
  rw[hb,show min r 64=r by omega,hp]
  conv=>lhs;rw[show w=((w.toNat:Nat):Int) by omega]
  rw[Int.ofNat_fdiv]
 have hle:w.toNat / 2 ^ r≤w.toNat:=Nat.div_le_self _ _;rw[Nat.testBit_eq_decide_div_mod_eq];rw[hd];generalize w.toNat / 2 ^ r=z at *;rw[(X6A _ 1 (by omega) (by omega) (by omega) (by omega)).1,kS]
 rw[Bool.eq_iff_iff];simp only[beq_iff_eq];rw[show((1:Int).toNat)=1 from rfl,Nat.and_one_is_mod,decide_eq_true_eq];omega
theorem X60 {s:Nat→Int} (hs:X1i s) (i:Nat) (hi:i<320):X1i (X5k s i):=by
 intro k hk;unfold X5k
 by_cases h:k=i / 64
 ·have hb:Nat.beq k (i / 64)=true:=by rw[h];exact Nat.beq_refl _
  rw[hb,cond_true];have h1:=hs (i / 64) (by omega)
  have:=(X6K (s (i / 64)) (i % 64) (by omega) h1.1 h1.2).2
  omega
 ·have hb:Nat.beq k (i / 64)=false:=by rw[←Bool.not_eq_true,Nat.beq_eq];exact h
  rw[hb,cond_false];exact hs k hk
theorem X5W (s:Nat→Int) (i j:Nat):WX (X5k s i) j=(WX s j||decide (j=i)):=by
 unfold WX X5k
 by_cases h:j / 64=i / 64
 ·have hb:Nat.beq (j / 64) (i / 64)=true:=by rw[h];exact Nat.beq_refl _
  rw[hb,cond_true,kS,Nat.testBit_or,Nat.testBit_two_pow,h];congr 1;rw[decide_eq_decide];omega
 ·have hb:Nat.beq (j / 64) (i / 64)=false:=by rw[←Bool.not_eq_true,Nat.beq_eq];exact h
  rw[hb,cond_false];have:decide (j=i)=false:=by rw[decide_eq_false_iff_not];intro e;exact h (by rw[e])
  rw[this,Bool.or_false]
def X3W (l:List Point) (q:Point→Bool) (s:Nat→Int):Prop:=X1i s∧∀j,j<320→WX s j=((l[j]?).map q).getD false
def X26 (q:Point→Bool) (i:Nat) (p:Point) (s:Nat→Int):Nat→Int:=if q p=true then X5k s i else s
theorem X5X (q:Point→Bool):∀(l:List Point) (i:Nat) (s:Nat→Int),i+l.length≤320→X1i s→X1i (X1r (X26 q) i l s)∧∀j,j<320→WX (X1r (X26 q) i l s) j=(WX s j||(decide (i≤j)&&((l[j-i]?).map q).getD false))
 | [],i,s,_,hs=>⟨hs,fun j _=>by simp[X1r]⟩
 | p::l,i,s,h,hs=>by
  simp only[List.length_cons]at h;have hs':X1i (X26 q i p s):=by
   unfold X26
   by_cases hq:q p=true
   ·rw[if_pos hq];exact X60 hs i (by omega)
   ·rw[if_neg hq];exact hs
  obtain⟨h1,h2⟩:=X5X q l (i+1) (X26 q i p s) (by omega) hs'
  refine⟨h1,fun j hj=>?_⟩;simp only[X1r];rw[h2 j hj]
  by_cases e:j=i
  ·subst e;have d1:decide (j+1≤j)=false:=by simp
   have d2:decide (j≤j)=true:=by simp
   rw[d1,d2];simp only[Bool.false_and,Bool.or_false,Nat.sub_self,List.getElem?_cons_zero,Option.map_some,Option.getD_some,Bool.true_and];unfold X26
   by_cases hq:q p=true
   ·rw[if_pos hq,X5W,hq];simp
   ·rw[if_neg hq];simp[hq]
  ·have hb:WX (X26 q i p s) j=WX s j:=by
    unfold X26
    by_cases hq:q p=true
    ·rw[if_pos hq,X5W];simp[e]
    ·rw[if_neg hq]
   rw[hb]
   by_cases hle:i≤j
   ·have e2:j-i=(j-(i+1))+1:=by omega
    have d1:decide (i+1≤j)=true:=by simp;omega
    have d2:decide (i≤j)=true:=by simp[hle]
    rw[d1,d2,e2,List.getElem?_cons_succ]
   ·have d1:decide (i+1≤j)=false:=by simp;omega
    have d2:decide (i≤j)=false:=by simp;omega
    rw[d1,d2,Bool.false_and,Bool.false_and]
theorem X5n:X1i (fun _=>0):=fun k _=>by show(0:Int)≤0∧(0:Int)<18446744073709551616;omega
theorem X6r (j:Nat):WX (fun _=>0) j=false:=by simp[WX]
theorem X4P (q:Point→Bool) (l:List Point) (h:l.length≤320):X3W l q (X1r (X26 q) 0 l (fun _=>0)):=by
 obtain⟨h1,h2⟩:=X5X q l 0 (fun _=>0) (by omega) X5n
 exact⟨h1,fun j hj=>by rw[h2 j hj,X6r];simp⟩
theorem X4Q (s:Nat→Int) (hs:X1i s) (i:Nat) (hi:i<320):X1q s (i:Int)=some (WX s i):=by
 unfold X1q WX;have hd:Int.tdiv (i:Int) 64=((i / 64:Nat):Int):=rfl;have hm:Int.tmod (i:Int) 64=((i % 64:Nat):Int):=rfl;have hw:IntKind.wrap .i64 ((i / 64:Nat):Int)=((i / 64:Nat):Int):=by rw[w64]<;>omega
 rw[hd,hm,hw];have h1:=hs (i / 64) (by omega)
 rw[kS,kS,X6H _ _ (by omega) h1.1 h1.2]
 have c1:decide ((0:Int)≤((i / 64:Nat):Int))=true:=by simp only[decide_eq_true_eq];omega
 have c2:decide (((i / 64:Nat):Int)<((5:Nat):Int))=true:=by simp only[decide_eq_true_eq];omega
 have c3:Nat.blt (i / 64) 5=true:=by simp only[Nat.blt,Nat.ble_eq];omega
 have c4:decide (((i % 64:Nat):Int)<0)=false:=by simp only[decide_eq_false_iff_not];omega
 have c2':(decide ((0:Int)≤((i / 64:Nat):Int))&&decide (((i / 64:Nat):Int)<((5:Nat):Int)))=true:=by rw[c1,c2];rfl
 show(bif(decide ((0:Int)≤((i / 64:Nat):Int))&&decide (((i / 64:Nat):Int)<((5:Nat):Int)))then _ else none)=_;rw[c2',cond_true,c3,cond_true,c4,cond_false]
end Nore
open Go Go.Ab
namespace Nore
def X1T (b:ZF):Prop:=X2d b 9000 16=0
theorem X1t {b:ZF} (h:X1T b) : -9000≤b.X.Lo∧b.X.Lo≤b.X.Hi∧b.X.Hi≤9000∧b.X.Hi≤b.X.Lo+16 ∧ -9000≤b.Y.Lo∧b.Y.Lo≤b.Y.Hi∧b.Y.Hi≤9000∧b.Y.Hi≤b.Y.Lo+16:=by
 unfold X1T X2d at h;split at h
 ·simp at h
 ·split at h
  ·simp at h
  ·rename_i h1 h2;simp at h1 h2;omega
theorem X2g {b:ZF} (h:X1T b):(X4 b).length≤289:=by
 have hb:=X1t h;unfold X4;rw[X3n b _ _ rfl];have h1:(b.X.Hi+1-b.X.Lo).toNat≤17:=by omega
 have h2:(b.Y.Hi+1-b.Y.Lo).toNat≤17:=by omega
 exact Nat.mul_le_mul h1 h2
theorem X2G {b:ZF} (h:X1T b):(b.X.Hi+1-b.X.Lo).toNat*(b.Y.Hi+1-b.Y.Lo).toNat≤289:=by
 have:=X2g h;unfold X4 at this
 rwa [X3n b _ _ rfl]at this
theorem X49 {b:ZF} (h:X1T b) {p:Point} (hp:p∈X4 b):Bd 9000 p:=by
 have:=X1t h;rw[X2U]at hp;unfold Bd;omega
def X4z (m:SgMooring):Prop:=0≤m.Ring.Lo∧m.Ring.Lo≤200∧0≤m.Ring.Hi∧m.Ring.Hi≤200
def X1z (m:SgMooring) (x:ZD) (a:Point):Bool:=(X4 x.At).any (X3j m x a)
theorem X6m (s:Nat→Int) (hs:X1i s) (i:Nat) (hi:i<320) :
  (fun j=>bif Nat.beq j (Int.toNat (IntKind.wrap .i64 (Int.tdiv (i:Int) 64)))then IntKind.wrap .u64 (BitVec.toNat (BitVec.ofInt (IntKind.bits .u64) (s (Int.toNat (IntKind.wrap .i64 (Int.tdiv (i:Int) 64)))) ||| BitVec.ofInt (IntKind.bits .u64) (IntKind.wrap .u64 (1*2 ^ min (Int.toNat (Int.tmod (i:Int) 64)) (IntKind.bits .u64)))):Int)else s j)=X5k s i:=by
 have hd:Int.tdiv (i:Int) 64=((i / 64:Nat):Int):=rfl;have hm:Int.tmod (i:Int) 64=((i % 64:Nat):Int):=rfl;have hw:IntKind.wrap .i64 ((i / 64:Nat):Int)=((i / 64:Nat):Int):=by rw[w64]<;>omega
 have h1:=hs (i / 64) (by omega)
 rw[hd,hm,hw,kS,kS,(X6K _ _ (by omega) h1.1 h1.2).1]
 rfl
theorem X6I (i:Nat) (hi:i<320):(decide ((0:Int)≤IntKind.wrap .i64 (Int.tdiv (i:Int) 64))&&decide (IntKind.wrap .i64 (Int.tdiv (i:Int) 64)<((5:Nat):Int)))=true∧Nat.blt (Int.toNat (IntKind.wrap .i64 (Int.tdiv (i:Int) 64))) 5=true∧decide (Int.tmod (i:Int) 64<0)=false:=by
 have hd:Int.tdiv (i:Int) 64=((i / 64:Nat):Int):=rfl;have hm:Int.tmod (i:Int) 64=((i % 64:Nat):Int):=rfl;have hw:IntKind.wrap .i64 ((i / 64:Nat):Int)=((i / 64:Nat):Int):=by rw[w64]<;>omega
 rw[hd,hm,hw];have c1:decide ((0:Int)≤((i / 64:Nat):Int))=true:=by simp only[decide_eq_true_eq];omega
 have c2:decide (((i / 64:Nat):Int)<((5:Nat):Int))=true:=by simp only[decide_eq_true_eq];omega
 have c3:Nat.blt (i / 64) 5=true:=by simp only[Nat.blt,Nat.ble_eq];omega
 have c4:decide (((i % 64:Nat):Int)<0)=false:=by simp only[decide_eq_false_iff_not];omega
 rw[c1,c2,kS,c3,c4];exact⟨rfl,rfl,rfl⟩
theorem X2w (i:Nat) (h:i<1000000):IntKind.wrap .i64 ((i:Int)+1)=((i+1:Nat):Int):=by rw[w64]<;>omega
theorem X3x (y:Int) (h : -1000000≤y∧y≤1000000):IntKind.wrap .i64 (y+1)=y+1:=by rw[w64]<;>omega
def X3r (m:SgMooring):Nat→Int:=X1r (X26 fun _=>true) 0 (X4 m.Anchor) (fun _=>0)
theorem X5u (q:Point→Bool) (i:Nat) (p:Point) (s:Nat→Int) (hi:i<320) (hs:X1i s):X1i (X26 q i p s):=by
 unfold X26
 by_cases h:q p=true
 ·rw[if_pos h];exact X60 hs i hi
 ·rw[if_neg h];exact hs
theorem X55 (m:SgMooring) (hb:X1T m.Anchor):X33 m=some ⟨m,X3r m⟩:=by
 have hB:=X1t hb;have hM:=X2G hb;unfold X33;have key:=X44 (W0 0 0 0 0 0 0 0 (fun _=>0) m.Anchor m m) (fun i x c=>((i:Int),x,(⟨m,c⟩:Za))) (fun _ c=>(⟨m,c⟩:Za)) (X26 fun _=>true) (fun _ c=>X1i c) m.Anchor 289
  (by
   intro i x c hx;simp only[W0,WJ];rw[decide_eq_false hx];rfl)
  (by
   intro i x c hx1 hx2 hi hc;have row:=X4e (WC x 0 0 0 0 0 0 0 (fun _=>0) m.Anchor m m) (fun i y c=>((i:Int),y,(⟨m,c⟩:Za))) (fun i c=>((i:Int),(⟨m,c⟩:Za))) (X26 fun _=>true) (fun _ c=>X1i c) x m.Anchor.Y.Lo m.Anchor.Y.Hi 289
    (by
     intro i y c hy;simp only[WC,WK];rw[decide_eq_false hy];rfl)
    (by
     intro i y c hy1 hy2 hi hc;refine⟨?_,X5u _ _ _ _ (by omega) hc⟩
     simp only[WC,WK];rw[decide_eq_true hy2,X2w i (by omega),X3x y (by omega)]
     obtain⟨k1,k2,k3⟩:=X6I i (by omega)
     have pe:=X6m c hc i (by omega)
     rw[cond_true];show(bif(decide ((0:Int)≤IntKind.wrap .i64 (Int.tdiv (i:Int) 64))&&decide (IntKind.wrap .i64 (Int.tdiv (i:Int) 64)<((5:Nat):Int)))then(bif _ then(bif _ then none else(bif(decide ((0:Int)≤IntKind.wrap .i64 (Int.tdiv (i:Int) 64))&&decide (IntKind.wrap .i64 (Int.tdiv (i:Int) 64)<((5:Nat):Int)))then(bif _ then _ else none)else none))else none)else none)=_;rw[k1,k2,k3];simp only[cond_true,cond_false,pe];rfl)
   have r:=row _ m.Anchor.Y.Lo i c rfl (by omega) hi hc
   refine⟨?_,r.2⟩;simp only[W0,WJ];rw[decide_eq_true hx2,cond_true];unfold X2c;rw[r.1,X3x x (by omega)]
   rfl)
 have r:=(key _ m.Anchor.X.Lo 0 (fun _=>0) rfl (by omega) (by omega) X5n).1
 unfold X2b;show Option.bind (Z9k (W0 0 0 0 0 0 0 0 (fun _=>0) m.Anchor m m) (((0:Nat):Int),m.Anchor.X.Lo,(⟨m,fun _=>0⟩:Za))) _=_;rw[r];rfl
theorem X3R (y:Za) (x:ZD) (hx:X4h x) (hr:X4z y.SgMooring) (ha:X1T y.SgMooring.Anchor) (hb:X1T x.At) (a p:Point) (h1:a∈X4 y.SgMooring.Anchor) (h2:p∈X4 x.At):XD y x a p=some (X3j y.SgMooring x a p) :=
 X54 y x a p hx hr (X49 ha h1) (X49 hb h2)
def X1n (m:SgMooring) (x:ZD):Nat→Int:=X1r (X26 (X1z m x)) 0 (X4 m.Anchor) (fun _=>0)
theorem X53 (y:Za) (x:ZD) (hx:X4h x) (hr:X4z y.SgMooring) (ha:X1T y.SgMooring.Anchor) (hb:X1T x.At):WI y x=some (X1n y.SgMooring x):=by
 have hA:=X1t ha;have hX:=X1t hb;have hMA:=X2G ha;have hMX:=X2G hb
 have inner:∀(i:Nat) (a:Point) (c:Nat→Int) (z1 z2:Int),i<289→a∈X4 y.SgMooring.Anchor→X1i c →
   (X1z y.SgMooring x a=true∧∃q,Z9k (X6 y.SgMooring.Anchor x y x x (i:Int) y z1 z2 x.At y a c (i:Int)) (0,x.At.X.Lo)=some (.inl (q,X5k c i)))∨(X1z y.SgMooring x a=false∧Z9k (X6 y.SgMooring.Anchor x y x x (i:Int) y z1 z2 x.At y a c (i:Int)) (0,x.At.X.Lo)=some (.inr ())):=by
  intro i a c z1 z2 hi hain hc;have key:=X6t (X6 y.SgMooring.Anchor x y x x (i:Int) y z1 z2 x.At y a c (i:Int)) (fun k x=>((k:Int),x)) (fun q=>.inl (q,X5k c i)) (fun _=>.inr ()) (X3j y.SgMooring x a) x.At 289
   (by
    intro k x' hx';simp only[X6,Xj];rw[decide_eq_false hx'];rfl)
   (by
    intro k x' hx1 hx2 hk;have row:=X6x (Xd x' y.SgMooring.Anchor x y x x (i:Int) y z1 z2 x.At y a c (i:Int)) (fun k y=>((k:Int),y)) (fun q=>.inl (q,X5k c i)) (fun k=>.inr (k:Int)) (X3j y.SgMooring x a) x' x.At.Y.Lo x.At.Y.Hi 289
     (by
      intro k y' hy';simp only[Xd,Xk];rw[decide_eq_false hy'];rfl)
     (by
      intro k y' hy1 hy2 hk;simp only[Xd,Xk];rw[decide_eq_true hy2,X2w k (by omega),X3x y' (by omega),X3R y x hx hr ha hb a ⟨x',y'⟩ hain (X2U.2 ⟨hx1,hx2,hy1,hy2⟩)]
      obtain⟨k1,k2,k3⟩:=X6I i (by omega)
      have pe:=X6m c hc i (by omega)
      rw[cond_true,jS]
      by_cases hcan:X3j y.SgMooring x a ⟨x',y'⟩=true
      ·rw[hcan,cond_true,if_pos rfl];show(bif(decide ((0:Int)≤IntKind.wrap .i64 (Int.tdiv (i:Int) 64))&&decide (IntKind.wrap .i64 (Int.tdiv (i:Int) 64)<((5:Nat):Int)))then(bif _ then(bif _ then none else(bif(decide ((0:Int)≤IntKind.wrap .i64 (Int.tdiv (i:Int) 64))&&decide (IntKind.wrap .i64 (Int.tdiv (i:Int) 64)<((5:Nat):Int)))then(bif _ then _ else none)else none))else none)else none)=_;rw[k1,k2,k3];simp only[cond_true,cond_false,pe]
      ·rw[if_neg hcan];rw[Bool.not_eq_true]at hcan;rw[hcan];rfl)
    have r:=row _ x.At.Y.Lo k rfl (by omega) hk
    simp only[X6,Xj];rw[decide_eq_true hx2,cond_true,X3x x' (by omega)]
    unfold WO;rcases r with⟨r1,q,r2⟩|⟨r1,r2⟩
    ·left;refine⟨r1,q,?_⟩;rw[r2];rfl
    ·right;refine⟨r1,?_⟩;rw[r2];rfl)
  have r:=key _ x.At.X.Lo 0 rfl (by omega) (by omega)
  unfold X1z X4;rcases r with⟨r1,q,r2⟩|⟨r1,k,r2⟩
  ·left;exact⟨r1,q,r2⟩
  ·right;exact⟨r1,r2⟩
 unfold WI;have key:=X44 (X7 y.SgMooring.Anchor x y x y) (fun i x c=>((i:Int),x,c)) (fun _ c=>c) (X26 (X1z y.SgMooring x)) (fun _ c=>X1i c) y.SgMooring.Anchor 289
  (by
   intro i x' c hx';simp only[X7,Xh];rw[decide_eq_false hx'];rfl)
  (by
   intro i x' c hx1 hx2 hi hc;have row:=X4e (Xc x' y.SgMooring.Anchor x y x y) (fun i y c=>((i:Int),y,c)) (fun i c=>((i:Int),c)) (X26 (X1z y.SgMooring x)) (fun _ c=>X1i c) x' y.SgMooring.Anchor.Y.Lo y.SgMooring.Anchor.Y.Hi 289
    (by
     intro i y' c hy';simp only[Xc,Xi];rw[decide_eq_false hy'];rfl)
    (by
     intro i y' c hy1 hy2 hi hc;refine⟨?_,X5u _ _ _ _ (by omega) hc⟩
     simp only[Xc,Xi];rw[decide_eq_true hy2,X2w i (by omega),X3x y' (by omega),cond_true]
     unfold WN;have hin:=inner i ⟨x',y'⟩ c x' y' hi (X2U.2 ⟨hx1,hx2,hy1,hy2⟩) hc;rcases hin with⟨r1,q,r2⟩|⟨r1,r2⟩
     ·rw[r2];simp only[X26,r1,if_true];rfl
     ·rw[r2];simp only[X26,r1];rfl)
   have r:=row _ y.SgMooring.Anchor.Y.Lo i c rfl (by omega) hi hc
   refine⟨?_,r.2⟩;simp only[X7,Xh];rw[decide_eq_true hx2,cond_true];unfold WM;rw[r.1,X3x x' (by omega)]
   rfl)
 have r:=(key _ y.SgMooring.Anchor.X.Lo 0 (fun _=>0) rfl (by omega) (by omega) X5n).1
 unfold WL;show Option.bind (Z9k (X7 y.SgMooring.Anchor x y x y) (((0:Nat):Int),y.SgMooring.Anchor.X.Lo,fun _=>0)) _=_;rw[r];rfl
end Nore
open Go Go.Ab
namespace Nore
def X57 (s t:Nat→Int):Nat→Nat→Int
 | 0=>fun _=>0
 | k+1=>fun j=>bif Nat.beq j k then(((s k).toNat &&& (t k).toNat:Nat):Int)else X57 s t k j
def X1B (s t:Nat→Int):Nat→Int:=X57 s t 5
theorem X5q (s t:Nat→Int) (k:Nat):∀j,j<k→X57 s t k j=(((s j).toNat &&& (t j).toNat:Nat):Int):=by
 induction k with
 | zero=>intro j hj;omega
 | succ k ih =>
  intro j hj;unfold X57
  by_cases h:j=k
  ·subst h;simp
  ·have hb:Nat.beq j k=false:=by rw[←Bool.not_eq_true,Nat.beq_eq];exact h
   simp only[hb,cond_false];exact ih j (by omega)
theorem X4x (s t:Nat→Int) (hs:X1i s) (ht:X1i t):X1a s t=some (X1B s t):=by
 unfold X1a;refine(Xb (Xq s t s) (fun o=>some o) 5 (fun i (b:Nat→Int)=>((i:Int),b)) (fun i b=>b=X57 s t i) (fun _ _=>some (X1B s t)) ?_ ?_ 0 _ (by omega) rfl)
 ·intro b hP R;subst hP;simp only[Xq,XA];rfl
 ·intro i b hi hP R hR;have hR':=hR (X57 s t (i+1)) rfl;subst hP;simp only[Xq,XA];have h1:decide ((i:Int)<5)=true:=by simp only[decide_eq_true_eq];omega
  have h0:decide ((0:Int)≤(i:Int))=true:=by simp
  have h3:Nat.blt i 5=true:=by simp only[Nat.blt,Nat.ble_eq];omega
  have b1:=hs i hi;have b2:=ht i hi;rw[h1,h0,X2w i (by omega),kS,(X6A _ _ b1.1 b1.2 b2.1 b2.2).1,h3]
  simp only[Bool.and_self,cond_true,jS,Sum.elim_inl];exact hR'
theorem X58 {s t:Nat→Int} (hs:X1i s) (_ht:X1i t):X1i (X1B s t):=by
 intro k hk;rw[X1B,X5q s t 5 k hk];have h1:=hs k hk;have hle:(s k).toNat &&& (t k).toNat≤(s k).toNat:=Nat.and_le_left;omega
theorem X5z (s t:Nat→Int) (j:Nat) (hj:j<320):WX (X1B s t) j=(WX s j&&WX t j):=by
 unfold WX;rw[X1B,X5q s t 5 (j / 64) (by omega),kS,Nat.testBit_and]
theorem X5m {l:List Point} {q r:Point→Bool} {s t:Nat→Int} (hs:X3W l q s) (ht:X3W l r t):X3W l (fun p=>q p&&r p) (X1B s t):=by
 refine⟨X58 hs.1 ht.1,fun j hj=>?_⟩;rw[X5z _ _ _ hj,hs.2 j hj,ht.2 j hj];cases l[j]? <;> simp
structure X6s (m:SgMooring) (l:List ZD):Prop where
 ring:X4z m
 ringLe:m.Ring.Lo≤m.Ring.Hi
 near:0≤m.Near∧m.Near≤20000
 anchor:X1T m.Anchor
 chart:(WW m.Hz9).2.2=0
 len:l.length≤8
 ZgJ:∀x,x∈l→X4h x∧X1T x.At∧0≤x.Minute∧x.Minute≤100000
theorem X6h {Xu:Int} {x:ZD} (h:X48 Xu x=0):X4h x∧X1T x.At∧0≤x.Minute∧x.Minute≤100000∧Xu<x.Minute:=by
 unfold X48 at h;split at h
 ·simp at h
 ·split at h
  ·simp at h
  ·rename_i h1 h2;simp at h1;have hb:X1T x.At:=h;have h3:¬x.Minute≤Xu:=fun hc=>h2 ⟨h,hc⟩;exact⟨⟨by omega,by omega,by omega,by omega⟩,hb,by omega,by omega,by omega⟩
theorem X5a:∀(l:List ZD) (i:Nat) (Xu:Int),(X3h i Xu l).2=0→∀x,x∈l→X4h x∧X1T x.At∧0≤x.Minute∧x.Minute≤100000
 | [],_,_,_,x,hx=>by simp at hx
 | y::l,i,Xu,h,x,hx=>by
  unfold X3h at h
  by_cases hy:X48 Xu y=0
  ·rw[if_pos hy]at h;have:=X6h hy;rcases List.mem_cons.1 hx with rfl|hx
   ·exact⟨this.1,this.2.1,this.2.2.1,this.2.2.2.1⟩
   ·exact X5a l _ _ h x hx
  ·rw[if_neg hy]at h;exact absurd h hy
theorem X5y {m:SgMooring} (h:(X2j m).2=0):X4z m∧m.Ring.Lo≤m.Ring.Hi∧(0≤m.Near∧m.Near≤20000)∧X1T m.Anchor∧(WW m.Hz9).2.2=0:=by
 unfold X2j at h;split at h
 ·rename_i h1;exact absurd h h1
 ·split at h
  ·rename_i h1;exact absurd h h1
  ·split at h
   ·simp at h
   ·split at h
    ·simp at h
    ·rename_i h1 h2 h3 h4;simp at h1 h2 h3 h4;refine⟨⟨by omega,by omega,by omega,by omega⟩,by omega,⟨by omega,by omega⟩,h2,h1⟩
theorem WV {m:SgMooring} {l:List ZD} (h:(X2 m l).2=0):X6s m l:=by
 unfold X2 at h;split at h
 ·rename_i h1;exact absurd h h1
 ·split at h
  ·simp at h
  ·rename_i h1 h2;have c:=X5y (m:=m) (by simpa using h1)
   exact⟨c.1,c.2.1,c.2.2.1,c.2.2.2.1,c.2.2.2.2,by omega,X5a l 0 (-1) h⟩
theorem X3Q (m:SgMooring) (l:List ZD):X21 m l=some (if(X2 m l).2=0 then(⟨m,X3r m⟩,l.map (X1n m),0)else(⟨⟨⟨[],[]⟩,⟨⟨0,0⟩,⟨0,0⟩⟩,⟨0,0⟩,0⟩,fun _=>0⟩,[],(X2 m l).2)):=by
 unfold X21;rw[X2C];simp only[jS]
 by_cases h:(X2 m l).2=0
 ·have ok:=WV h;rw[if_pos h,h];simp only[bne_self_eq_false,cond_false];rw[X55 m ok.anchor];simp only[jS];have hlen:=ok.len;refine(Xb (Wm l (↑l.length) ⟨m,X3r m⟩ m) _ l.length (fun i (b:List (Nat→Int))=>((i:Int),b)) (fun i b=>b.length=i) (fun i b=>some ((⟨m,X3r m⟩:Za),b++(l.drop i).map (X1n m),(0:Int))) ?_ ?_ 0 [] (by omega) rfl)
  ·intro b _ R;simp[Wm,Wv]
  ·intro i b hi hP R hR;simp only[Wm,Wv];rw[List.drop_eq_getElem_cons hi];have hx:=ok.ZgJ l[i] (List.getElem_mem hi);rw[kS,X3 _ _ _ hi,X2w i (by omega),X53 ⟨m,X3r m⟩ l[i] hx.1 ok.ring ok.anchor hx.2.1]
   have h1:decide ((i:Int)<↑l.length)=true:=by simp[hi]
   have h2:=z0S i;have h3:Nat.ble ((b.length+[X1n m l[i]].length)*(40+1)) 200000000000000=true:=by
    rw[Nat.ble_eq];simp;omega
   simp only[h1,h2,Bool.and_self,cond_true,jS,h3,Sum.elim_inl];rw[hR (b++[X1n m l[i]]) (by simp;omega)]
   simp only[List.map_cons,List.append_assoc,List.cons_append,List.nil_append]
 ·rw[if_neg h,X1s h];rfl
theorem X5Y (m:SgMooring) (x:ZD) (h:X1T m.Anchor):X3W (X4 m.Anchor) (X1z m x) (X1n m x):=X4P _ _ (by have:=X2g h;omega)
theorem X5e (m:SgMooring) (h:X1T m.Anchor):X3W (X4 m.Anchor) (fun _=>true) (X3r m):=X4P _ _ (by have:=X2g h;omega)
theorem X5i {m:SgMooring} (hA:X1T m.Anchor):∀(l:List ZD) (q:Point→Bool) (s:Nat→Int),X3W (X4 m.Anchor) q s→X3W (X4 m.Anchor) (fun a=>q a&&l.all fun x=>X1z m x a) ((l.map (X1n m)).foldl X1B s)
 | [],q,s,h=>by simpa using h
 | x::l,q,s,h=>by
  have:=X5i hA l (fun a=>q a&&X1z m x a) (X1B s (X1n m x)) (X5m h (X5Y m x hA));simp only[List.map_cons,List.foldl_cons,List.all_cons];simp only[Bool.and_assoc]at this;exact this
theorem X41 (s:Nat→Int) (l:List (Nat→Int)) (hs:X1i s) (hl:∀t,t∈l→X1i t) (hlen:l.length<1000000):X2h s l=some (l.foldl X1B s):=by
 unfold X2h;refine(Xb (WB (↑l.length) l (fun _=>0)) (fun o=>some o) l.length (fun i (b:Nat→Int)=>((i:Int),b)) (fun _ b=>X1i b) (fun i b=>some ((l.drop i).foldl X1B b)) ?_ ?_ 0 s (by omega) hs)
 ·intro b _ R;simp[WB,WH]
 ·intro i b hi hP R hR;have hx:=hl l[i] (List.getElem_mem hi);simp only[WB,WH];rw[List.drop_eq_getElem_cons hi,kS,X3 _ _ _ hi,X2w i (by omega),X4x _ _ hP hx]
  have h1:decide ((i:Int)<↑l.length)=true:=by simp[hi]
  have h2:=z0S i;simp only[h1,h2,Bool.and_self,cond_true,jS,Sum.elim_inl,List.foldl_cons];exact hR _ (X58 hP hx)
theorem X4o {m:SgMooring} (hA:X1T m.Anchor) (l:List ZD):∀t,t∈l.map (X1n m)→X1i t:=by
 intro t ht;obtain⟨x,_,rfl⟩:=List.mem_map.1 ht;exact(X5Y m x hA).1
def X1P (m:SgMooring) (l:List ZD) (az:List Point):List Point:=az.filter fun a=>l.all fun x=>X1z m x a
def X4A (m:SgMooring) (l:List ZD):List Point×Int:=if(X2 m l).2=0 then(X1P m l (X4 m.Anchor),0)else([],(X2 m l).2)
def X56 (S:Nat→Int) (i:Nat) (p:Point) (acc:List Point):List Point:=if WX S i=true then acc++[p]else acc
theorem X5r (S:Nat→Int) (q:Point→Bool):∀(l:List Point) (i:Nat) (acc:List Point),(∀k,(h:k<l.length)→WX S (i+k)=q l[k])→X1r (X56 S) i l acc=acc++l.filter q
 | [],i,acc,_=>by simp[X1r]
 | p::l,i,acc,h=>by
  have h0:=h 0 (by simp)
  simp only[Nat.add_zero,List.getElem_cons_zero]at h0;have ih:=X5r S q l (i+1) (X56 S i p acc) (fun k hk=>by
   have:=h (k+1) (by simp;exact hk)
   rw[show i+1+k=i+(k+1) by omega,this]
   rfl)
  simp only[X1r];rw[ih];simp only[X56,h0];cases hq:q p
  ·simp[hq]
  ·simp[hq]
theorem X4O {l:List Point} {q:Point→Bool} {S:Nat→Int} (h:X3W l q S) (hl:l.length≤320):∀k,(hk:k<l.length)→WX S (0+k)=q l[k]:=by
 intro k hk;rw[Nat.zero_add,h.2 k (by omega)]
 simp[hk]
theorem X4k (m:SgMooring) (l:List ZD):X1p m l=some (X4A m l):=by
 unfold X1p X4A;rw[X3Q];simp only[jS]
 by_cases h:(X2 m l).2=0
 ·have ok:=WV h;have hA:=ok.anchor;have hB:=X1t hA;have hM:=X2G hA;have hlen:=ok.len;rw[if_pos h,if_pos h];simp only[bne_self_eq_false,cond_false];rw[X41 _ _ (X5e m hA).1 (X4o hA l) (by simp;omega)]
  simp only[jS];have hS:=X5i hA l _ _ (X5e m hA);simp only[Bool.true_and]at hS;generalize hSS:(l.map (X1n m)).foldl X1B (X3r m)=S at *;have key:=X44 (Xr m.Anchor m S ⟨m,X3r m⟩ (l.map (X1n m)) false l 0 m) (fun i x c=>((i:Int),x,c)) (fun _ c=>c) (X56 S) (fun i c=>c.length≤i) m.Anchor 289
   (by
    intro i x c hx;simp only[Xr,XN];rw[decide_eq_false hx];rfl)
   (by
    intro i x c hx1 hx2 hi hc;have row:=X4e (XI x m.Anchor m S ⟨m,X3r m⟩ (l.map (X1n m)) false l 0 m) (fun i y c=>((i:Int),y,c)) (fun i c=>((i:Int),c)) (X56 S) (fun i c=>c.length≤i) x m.Anchor.Y.Lo m.Anchor.Y.Hi 289
     (by
      intro i y c hy;simp only[XI,XO];rw[decide_eq_false hy];rfl)
     (by
      intro i y c hy1 hy2 hi hc;simp only[XI,XO];rw[decide_eq_true hy2,X2w i (by omega),X3x y (by omega),cond_true,X4Q S hS.1 i (by omega)]
      have h3:Nat.ble ((c.length+[(⟨x,y⟩:Point)].length)*(16+1)) 200000000000000=true:=by
       rw[Nat.ble_eq];simp;omega
      rw[h3];simp only[jS,X56,cond_true]
      by_cases hb:WX S i=true
      ·rw[if_pos hb,hb];exact⟨rfl,by simp;omega⟩
      ·rw[if_neg hb];rw[Bool.not_eq_true]at hb;rw[hb];exact⟨rfl,by omega⟩)
    have r:=row _ m.Anchor.Y.Lo i c rfl (by omega) hi hc
    refine⟨?_,r.2⟩;simp only[Xr,XN];rw[decide_eq_true hx2,cond_true];unfold X1y;rw[r.1,X3x x (by omega)]
    rfl)
  have r:=(key _ m.Anchor.X.Lo 0 [] rfl (by omega) (by omega) (by simp)).1
  unfold X1x;show Option.bind (Z9k (Xr m.Anchor m S ⟨m,X3r m⟩ (l.map (X1n m)) false l 0 m) (((0:Nat):Int),m.Anchor.X.Lo,[])) _=_;rw[r];have hfa:=X5r S (fun a=>l.all fun x=>X1z m x a) (X4 m.Anchor) 0 [] (X4O hS (by have:=X2g hA;omega))
  simp only[jS];rw[show X8 m.Anchor.X.Lo m.Anchor=X4 m.Anchor from rfl,hfa];rfl
 ·rw[if_neg h,if_neg h];simp only;rw[X1s h];rfl
instance:DecidableEq Point:=fun a b =>
 if h:a.X=b.X∧a.Y=b.Y then isTrue (by cases a;cases b;simp only at h;rw[h.1,h.2])else isFalse (fun e=>h (by rw[e];exact⟨rfl,rfl⟩))
end Nore
open Go Go.Ab
namespace Nore
theorem X6f {l:List Point} {q:Point→Bool} {s:Nat→Int} (h:X3W l q s) (hl:l.length≤320):((List.all (List.range 5) fun j=>s j==0)&&true)=decide (l.filter q=[]):=by
 rw[Bool.and_true,Bool.eq_iff_iff,decide_eq_true_eq,List.all_eq_true,List.filter_eq_nil_iff];constructor
 ·intro hz a ha hq;obtain⟨i,hi,rfl⟩:=List.getElem_of_mem ha;have hb:=h.2 i (by omega)
  have hz':s (i / 64)=0:=by
   have:=hz (i / 64) (by simp;omega)
   simpa using this
  unfold WX at hb;rw[hz']at hb;simp[hi,hq]at hb
 ·intro hn j hj;have hj5:j<5:=by simpa using hj
  have hs:=h.1 j hj5;rw[beq_iff_eq];have hz:(s j).toNat=0:=by
   apply Nat.eq_of_testBit_eq;intro k;rw[Nat.zero_testBit]
   by_cases hk:k<64
   ·have hb:=h.2 (64*j+k) (by omega)
    unfold WX at hb;rw[show(64*j+k) / 64=j by omega,show(64*j+k) % 64=k by omega]at hb
    rw[hb]
    by_cases hi:64*j+k<l.length
    ·have:=hn l[64*j+k] (List.getElem_mem hi);simp only[List.getElem?_eq_getElem hi,Option.map_some,Option.getD_some];simpa using this
    ·simp[hi]
   ·apply Nat.testBit_lt_two_pow;have h1:(s j).toNat<2 ^ 64:=by omega
    have h2:(2:Nat) ^ 64≤2 ^ k:=Nat.pow_le_pow_right (by omega) (by omega)
    omega
  omega
end Nore
open Go Go.Ab
namespace Nore
def X6C:List Int→List Int→Bool
 | [],[]=>false
 | [],_::_=>true
 | _::_,[]=>false
 | a::s,b::t=>if a<b then true else if b<a then false else X6C s t
def Xu (s t:List Int):Bool:=decide (s.length<t.length)||(decide (s.length=t.length)&&X6C s t)
end Nore
open Go Go.Ab
namespace Nore
end Nore
open Go Go.Ab
namespace Nore
end Nore
open Go Go.Ab
namespace Nore
def X1S (G:Point→Point→Bool):Point→List Point→Bool
 | _,[]=>true
 | last,p::r=>G last p&&X1S G p r
theorem X5G (G:Point→Point→Bool) (l:List Point):∀k i,i+k=l.length→1≤i→(hi:i-1<l.length)→(X1S G l[i-1] (l.drop i)=true↔∀j,(h1:i≤j)→(h2:j<l.length)→G l[j-1] l[j]=true):=by
 intro k
 induction k with
 | zero =>
  intro i hk h1 hi;rw[List.drop_eq_nil_of_le (by omega)]
  simp[X1S];intro j h1 h2;omega
 | succ k ih =>
  intro i hk h1 hi;have hi2:i<l.length:=by omega
  rw[List.drop_eq_getElem_cons hi2];simp only[X1S,Bool.and_eq_true];have:=ih (i+1) (by omega) (by omega) (by omega)
  simp only[Nat.add_sub_cancel]at this;rw[this];constructor
  ·rintro⟨g,h⟩ j a b
   by_cases e:j=i
   ·subst e;exact g
   ·exact h j (by omega) b
  ·intro h;exact⟨h i (by omega) hi2,fun j a b=>h j (by omega) b⟩
theorem X4S (G:Point→Point→Bool) (l:List Point) (hl:1≤l.length):X1S G (l.getD (l.length-1) P0) l=WZ (fun i=>G (l.getD i P0) (l.getD ((i+1) % l.length) P0)) 0 l.length:=by
 rw[Bool.eq_iff_iff];have e:X1S G (l.getD (l.length-1) P0) l=(G l[l.length-1] l[0]&&X1S G l[1-1] (l.drop 1)):=by
  rw[X3 _ _ _ (by omega)]
  conv=>lhs;arg 3;rw[show l=l[0]::l.drop 1 by rw[←List.drop_eq_getElem_cons (by omega)];rfl]
  rfl
 rw[e];simp only[Bool.and_eq_true];rw[X5G G l (l.length-1) 1 (by omega) (by omega) (by omega)]
 rw[X1U];constructor
 ·rintro⟨h0,h⟩ i _ hi;have hi':i<l.length:=by omega
  have hk:(i+1) % l.length<l.length:=Nat.mod_lt _ (by omega)
  rw[X3 _ _ _ hi',X3 _ _ _ hk]
  by_cases hh:i+1<l.length
  ·have:=h (i+1) (by omega) hh
   simp only[Nat.mod_eq_of_lt hh];simpa using this
  ·have e1:i=l.length-1:=by omega
   subst e1;simp only[show l.length-1+1=l.length by omega,Nat.mod_self]
   exact h0
 ·intro h;constructor
  ·have:=h (l.length-1) (by omega) (by omega)
   have hk:(l.length-1+1) % l.length<l.length:=Nat.mod_lt _ (by omega)
   rw[X3 _ _ _ (by omega),X3 _ _ _ hk]at this
   simpa only[show l.length-1+1=l.length by omega,Nat.mod_self]using this
  ·intro j h1 h2;have:=h (j-1) (by omega) (by omega)
   have hk:(j-1+1) % l.length<l.length:=Nat.mod_lt _ (by omega)
   rw[X3 _ _ _ (by omega),X3 _ _ _ hk]at this
   simpa only[show j-1+1=j by omega,Nat.mod_eq_of_lt h2]using this
def X4j (at_ mv a b:Point):Bool:=decide (0≤X1 (X0 b a) (X0 (X0 at_ mv) a))
def X2r (s:CtSand) (mv at_:Point):Bool:=WZ (fun i=>X4j at_ mv (s.Hz2.getD i P0) (s.Hz2.getD ((i+1) % s.Hz2.length) P0)) 0 s.Hz2.length
structure X2K (s:CtSand):Prop where
 len:3≤s.Hz2.length∧s.Hz2.length≤8
 far:s.Hz2.any (X2f 10000)=false
 box:X2d s.Hzc 500 40=0
 round:X3M s.Hz2=true
theorem X6a {s:CtSand} (h:X3P s=0):X2K s:=by
 unfold X3P at h;split at h
 ·simp at h
 ·rename_i h1;split at h
  ·simp at h
  ·rename_i h2;split at h
   ·rename_i h3;split at h
    ·rename_i h4;simp at h1;exact⟨by omega,by simpa using h2,h3,h4⟩
    ·simp at h
   ·rename_i h3;exact absurd h h3
theorem X2V {b:ZF} (hb:X2d b 500 40=0) : -500≤b.X.Lo∧b.X.Lo≤b.X.Hi∧b.X.Hi≤500∧b.X.Hi≤b.X.Lo+40 ∧ -500≤b.Y.Lo∧b.Y.Lo≤b.Y.Hi∧b.Y.Hi≤500∧b.Y.Hi≤b.Y.Lo+40:=by
 unfold X2d at hb;split at hb
 ·simp at hb
 ·split at hb
  ·simp at hb
  ·rename_i h1 h2;simp at h1 h2;omega
theorem X4E (n b:Int) (hb:0<b) (hn : -1000000000000≤n∧n≤1000000000000):∃f,X1X n b=some f∧b*f≤n∧n<b*(f+1) ∧ -1000000000001≤f∧f≤1000000000000:=by
 have h1:=Int.mul_tdiv_add_tmod n b;have h2:(Int.tdiv n b).natAbs≤n.natAbs:=Int.natAbs_tdiv_le_natAbs n b;have h3:Int.tmod n b<b:=Int.tmod_lt_of_pos n hb;have h4 : -b<Int.tmod n b:=by
  have:=Int.neg_emod_two;have h5:(Int.tmod (-n) b)<b:=Int.tmod_lt_of_pos (-n) hb;rw[Int.neg_tmod]at h5;omega
 unfold X1X;have e0:(b==0)=false:=X1V (by omega)
 rw[e0];simp only[cond_false];have w1:IntKind.wrap .i64 (Int.tdiv n b)=Int.tdiv n b:=by rw[w64]<;>omega
 rw[w1];generalize Int.tdiv n b=q at *;generalize Int.tmod n b=r at *
 by_cases hr:r<0
 ·have w2:IntKind.wrap .i64 (q-1)=q-1:=by rw[w64]<;>omega
  refine⟨q-1,by rw[w2];simp[hr],?_,?_,by omega,by omega⟩
  ·rw[Int.mul_sub,Int.mul_one];omega
  ·rw[show q-1+1=q by omega];omega
 ·refine⟨q,by simp[hr],by omega,?_,by omega,by omega⟩
  rw[Int.mul_add,Int.mul_one];omega
theorem X6e (e:Z8) (f least:Int) (hf : -100000≤f∧f≤100000) (hl : -10000000000≤least∧least≤10000000000) (he : -1000000000002≤e.lo∧e.lo≤1000000000002 ∧ -1000000000004≤e.hi∧e.hi≤1000000000002) :
  ∃e',WE e f least=some e'∧(∀t,(e'.lo≤t∧t≤e'.hi)↔((e.lo≤t∧t≤e.hi)∧least≤f*t))∧(-1000000000002≤e'.lo∧e'.lo≤1000000000002 ∧ -1000000000004≤e'.hi∧e'.hi≤1000000000002):=by
 unfold WE;have w1:IntKind.wrap .i64 (0-least) = -least:=by rw[w64]<;>omega
 have w2:IntKind.wrap .i64 (0-f) = -f:=by rw[w64]<;>omega
 have w3:IntKind.wrap .i64 (e.lo-1)=e.lo-1:=by rw[w64]<;>omega
 rw[w1,w2,w3]
 by_cases h1:f>0
 ·obtain⟨g,g1,g2,g3,g4,g5⟩:=X4E (-least) f h1 (by omega)
  have w4:IntKind.wrap .i64 (0-g) = -g:=by rw[w64]<;>omega
  rw[g1];simp only[h1,decide_true,cond_true,jS,w4];have hiff:∀t,-g≤t↔least≤f*t:=fun t=>by
   constructor
   ·intro h;have:=Int.mul_le_mul_of_nonneg_left h (show 0≤f by omega)
    rw[Int.mul_neg]at this;omega
   ·intro h;apply Int.not_lt.1;intro hc;have h5:g+1 ≤ -t:=by omega
    have:=Int.mul_le_mul_of_nonneg_left h5 (show 0≤f by omega)
    rw[Int.mul_neg]at this;omega
  by_cases h2 : -g>e.lo
  ·refine⟨⟨-g,e.hi⟩,by simp[h2],fun t=>?_,by simp only;omega⟩
   rw[←hiff t];simp only;omega
  ·refine⟨⟨e.lo,e.hi⟩,by simp[h2],fun t=>?_,by simp only;omega⟩
   rw[←hiff t];simp only;omega
 ·by_cases h2:f<0
  ·obtain⟨g,g1,g2,g3,g4,g5⟩:=X4E (-least) (-f) (by omega) (by omega)
   rw[g1];simp only[h1,h2,decide_true,decide_false,cond_true,cond_false,jS];have hiff:∀t,t≤g↔least≤f*t:=fun t=>by
    constructor
    ·intro h;have:=Int.mul_le_mul_of_nonneg_left h (show 0 ≤ -f by omega)
     rw[Int.neg_mul]at this;omega
    ·intro h;apply Int.not_lt.1;intro hc;have h5:g+1≤t:=by omega
     have:=Int.mul_le_mul_of_nonneg_left h5 (show 0 ≤ -f by omega)
     rw[Int.neg_mul (b:=t)]at this;omega
   by_cases h3:g<e.hi
   ·refine⟨⟨e.lo,g⟩,by simp[h3],fun t=>?_,by simp only;omega⟩
    rw[←hiff t];simp only;omega
   ·refine⟨⟨e.lo,e.hi⟩,by simp[h3],fun t=>?_,by simp only;omega⟩
    rw[←hiff t];simp only;omega
  ·have hz:f=0:=by omega
   subst hz
   by_cases h3:least>0
   ·refine⟨⟨e.lo,e.lo-1⟩,by simp[h3],fun t=>?_,by simp only;omega⟩
    rw[Int.zero_mul];simp only;omega
   ·refine⟨e,by simp[h3],fun t=>?_,he⟩
    rw[Int.zero_mul];omega
theorem X69 (s:CtSand) (x:Int) (at_:Point) (hs:X2K s) (hx : -500≤x∧x≤500) (ha:Bd 10000 at_) :
  ∃e,X1m ⟨s⟩ x at_=some e∧∀t,(e.lo≤t∧t≤e.hi)↔((s.Hzc.Y.Lo≤t∧t≤s.Hzc.Y.Hi)∧X2r s ⟨x,t⟩ at_=true):=by
 have hmv:=X2V hs.box;obtain⟨hl,hf,_,_⟩:=hs;have hlies:∀t,X2r s ⟨x,t⟩ at_=X1S (fun a b=>X4j at_ ⟨x,t⟩ a b) (s.Hz2.getD (s.Hz2.length-1) P0) s.Hz2:=fun t=>(X4S _ _ (by omega)).symm
 simp only[hlies];unfold X1m;have hw:IntKind.wrap .i64 ((s.Hz2.length:Int)-1)=(s.Hz2.length:Int)-1:=by rw[w64]<;>omega
 have ht:((s.Hz2.length:Int)-1).toNat=s.Hz2.length-1:=by omega
 have h1:decide ((0:Int)≤(s.Hz2.length:Int)-1)=true:=by rw[decide_eq_true_eq];omega
 have h2:decide ((s.Hz2.length:Int)-1<(s.Hz2.length:Int))=true:=by rw[decide_eq_true_eq];omega
 simp only[hw,ht,h1,h2,Bool.and_self,cond_true];have hlast:Bd 10000 (s.Hz2.getD (s.Hz2.length-1) P0):=by
  rw[X3 _ _ _ (by omega)];exact X2i hf _ (by omega)
 unfold X1e;have gen:∀(n i:Nat) (e:Z8) (last:Point),i+n=s.Hz2.length→Bd 10000 last→(-1000000000002≤e.lo∧e.lo≤1000000000002 ∧ -1000000000004≤e.hi∧e.hi≤1000000000002) →
   ∃e',Option.bind (Z9k (Xt (↑s.Hz2.length) s.Hz2 x ⟨s⟩ at_ ⟨0,0⟩ ⟨s⟩ x ⟨s⟩ at_) ((i:Int),e,last)) (fun o288=>some o288.fst)=some e'∧∀t,(e'.lo≤t∧t≤e'.hi)↔((e.lo≤t∧t≤e.hi)∧X1S (fun a b=>X4j at_ ⟨x,t⟩ a b) last (s.Hz2.drop i)=true):=by
  intro n
  induction n with
  | zero =>
   intro i e last hi hb he;refine⟨e,?_,fun t=>?_⟩
   ·rw[X31];have d1:decide ((i:Int)<↑s.Hz2.length)=false:=by rw[decide_eq_false_iff_not];omega
    simp only[Xt,XF,d1,cond_false,jS,Sum.elim_inr]
   ·rw[List.drop_eq_nil_of_le (by omega)];simp[X1S]
  | succ n ih =>
   intro i e last hi hb he;have hi2:i<s.Hz2.length:=by omega
   have bp:=X2i hf i hi2;have bp':=bp;have hb':=hb;unfold Bd at bp hb ha;rw[X31,List.drop_eq_getElem_cons hi2];simp only[Xt,XF];rw[kS,X3 _ _ _ hi2,X2w i (by omega)]
   rw[X1w 10000 (by omega) (a:=s.Hz2[i].X) ⟨bp.1,bp.2.1⟩ ⟨hb.1,hb.2.1⟩,X1w 10000 (by omega) (a:=s.Hz2[i].Y) bp.2.2 hb.2.2,X1w 10000 (by omega) (a:=at_.X) ⟨ha.1,ha.2.1⟩ ⟨hb.1,hb.2.1⟩,X1w 10000 (by omega) (a:=at_.Y) ha.2.2 hb.2.2,X1w 20000 (by omega) (a:=at_.X-last.X) (by omega) (by omega)]
   have wn:IntKind.wrap .i64 (0-(s.Hz2[i].X-last.X)) = -(s.Hz2[i].X-last.X):=by rw[w64]<;>omega
   rw[wn,X4I 2000000 rfl (by omega) (by omega) (by omega) (by omega)]
   have d1:decide ((i:Int)<↑s.Hz2.length)=true:=by rw[decide_eq_true_eq];omega
   have d2:=z0S i;simp only[d1,d2,Bool.and_self,cond_true];have m1:=X25 20000 20500 (a:=s.Hz2[i].Y-last.Y) (b:=at_.X-last.X-x) (by omega) (by omega) (by omega) (by omega)
   have m2:=X25 20000 20000 (a:=s.Hz2[i].X-last.X) (b:=at_.Y-last.Y) (by omega) (by omega) (by omega) (by omega)
   obtain⟨e1,c1,c2,c3⟩:=X6e e (-(s.Hz2[i].X-last.X)) ((s.Hz2[i].Y-last.Y)*(at_.X-last.X-x)-(s.Hz2[i].X-last.X)*(at_.Y-last.Y)) (by omega) (by omega) he
   rw[c1];simp only[jS,Sum.elim_inl];obtain⟨e2,i1,i2⟩:=ih (i+1) e1 s.Hz2[i] (by omega) bp' c3
   refine⟨e2,i1,fun t=>?_⟩;rw[i2 t,c2 t];simp only[X1S,Bool.and_eq_true];have hside:X4j at_ ⟨x,t⟩ last s.Hz2[i]=true↔(s.Hz2[i].Y-last.Y)*(at_.X-last.X-x)-(s.Hz2[i].X-last.X)*(at_.Y-last.Y) ≤ -(s.Hz2[i].X-last.X)*t:=by
    unfold X4j;rw[decide_eq_true_eq];simp only[X1,X0];generalize s.Hz2[i].X-last.X=u;generalize s.Hz2[i].Y-last.Y=v;rw[show at_.X-x-last.X=at_.X-last.X-x by omega,show at_.Y-t-last.Y=(at_.Y-last.Y)-t by omega]
    generalize at_.X-last.X-x=p;generalize at_.Y-last.Y=q;rw[Int.mul_sub,Int.neg_mul];omega
   rw[hside];constructor
   ·rintro⟨⟨a,b⟩,c⟩;exact⟨a,b,c⟩
   ·rintro⟨a,b,c⟩;exact⟨⟨a,b⟩,c⟩
 obtain⟨e,h3,h4⟩:=gen s.Hz2.length 0 ⟨s.Hzc.Y.Lo,s.Hzc.Y.Hi⟩ _ (by omega) hlast (by simp only;omega)
 exact⟨e,h3,h4⟩
def X4m (s:CtSand) (at_:Point):Bool:=(X4 s.Hzc).any fun mv=>X2r s mv at_
def X5U (s:CtSand) (at_:Point):Bool:=(X4 s.Hzc).all fun mv=>X2r s mv at_
def onL (at_:Point):Nat→List CtSand→List Int×List Int
 | _,[]=>([],[])
 | i,s::l=>(if X5U s at_ then(i:Int)::(onL at_ (i+1) l).1 else(onL at_ (i+1) l).1,if X4m s at_ then(i:Int)::(onL at_ (i+1) l).2 else(onL at_ (i+1) l).2)
def X3K (c:Zp) (at_:Point):Int:=if(WW c).2.2=0 then(if X2f 10000 at_ then 7 else 0)else(WW c).2.2
def onN (c:Zp) (at_:Point):List Int×List Int×Int:=if X3K c at_=0 then((onL at_ 0 c.Hzb).1,(onL at_ 0 c.Hzb).2,0)else([],[],X3K c at_)
theorem X3I {c:Zp} (h:(WW c).2.2=0):c.Hzb.length≤4∧∀s,s∈c.Hzb→X2K s:=by
 unfold WW at h;split at h
 ·simp at h
 ·have sands:∀(l:List CtSand) (i:Nat) (names:List ByteArray),(X2t i names l).2.2=0→∀s,s∈l→X2K s:=by
   intro l
   induction l with
   | nil=>intro i names _ s hs;cases hs
   | cons t l ih =>
    intro i names h s hs;unfold X2t at h
    by_cases he:X3f t names=0
    ·rw[if_pos he]at h;rcases List.mem_cons.1 hs with rfl|hs
     ·apply X6a;unfold X3f at he;split at he
      ·exact he
      ·rename_i hne;exact absurd he hne
     ·exact ih _ _ h s hs
    ·rw[if_neg he]at h;exact absurd h he
  have marks:∀(l:List ZC) (i:Nat) (names:List ByteArray),(X2S c.Hzb i names l).2.2=0→c.Hzb.length≤4∧∀s,s∈c.Hzb→X2K s:=by
   intro l
   induction l with
   | nil =>
    intro i names h;unfold X2S at h;split at h
    ·simp at h
    ·exact⟨by omega,sands _ _ _ h⟩
   | cons t l ih =>
    intro i names h;unfold X2S at h
    by_cases he:X2k t names=0
    ·rw[if_pos he]at h;exact ih _ _ h
    ·rw[if_neg he]at h;exact absurd h he
  exact marks _ _ _ h
theorem X3Y (c:Zp) (at_:Point):X2e c at_=some (X3K c at_):=by
 unfold X2e X3K;rw[X3C,X3s _ (by omega) _ (by simp)]
 simp only[jS,List.any_cons,List.any_nil,Bool.or_false]
 by_cases h:(WW c).2.2=0
 ·rw[h];cases X2f 10000 at_<;>simp
 ·rw[X1V h,if_neg h];rfl
theorem X5E {c:Zp} {at_:Point} (h:X3K c at_=0):(WW c).2.2=0∧Bd 10000 at_:=by
 unfold X3K at h;split at h
 ·rename_i h1;refine⟨h1,?_⟩;split at h
  ·simp at h
  ·rename_i h2;exact(X45 _ _).1 (by simpa using h2)
 ·rename_i h1;exact absurd h h1
theorem X4D (s:CtSand) (at_:Point) (hs:X2K s) (ha:Bd 10000 at_) (x0 x1:Int) (x4:List CtSand) (x7:Int) (x8:List Int) (x11:CtSand) (x12:Zp) (x13:List Int) :
  X1Q x0 x1 (IntKind.wrap .i64 (IntKind.wrap .i64 (s.Hzc.X.Hi-s.Hzc.X.Lo)+1)) x4 x7 x8 at_ x11 x12 x13 ⟨s⟩ (false,true,0)=some (X4m s at_,X5U s at_):=by
 have hmv:=X2V hs.box;have hw:IntKind.wrap .i64 (IntKind.wrap .i64 (s.Hzc.X.Hi-s.Hzc.X.Lo)+1)=(((s.Hzc.X.Hi+1-s.Hzc.X.Lo).toNat:Nat):Int):=by
  rw[w64 (x:=s.Hzc.X.Hi-s.Hzc.X.Lo) (by omega) (by omega),w64]<;>omega
 rw[hw];unfold X1Q;have hfrom:∀i:Nat,i<(s.Hzc.X.Hi+1-s.Hzc.X.Lo).toNat→X8 (s.Hzc.X.Lo+(i:Int)) s.Hzc=X28 (s.Hzc.X.Lo+(i:Int)) s.Hzc.Y.Lo s.Hzc.Y.Hi++X8 (s.Hzc.X.Lo+((i+1:Nat):Int)) s.Hzc:=fun i hi=>by
  rw[X16 (by omega)]
  congr 2;omega
 have key:=X3U (X12 x0 x1 (((s.Hzc.X.Hi+1-s.Hzc.X.Lo).toNat:Nat):Int) x4 x7 x8 at_ x11 x12 x13 ⟨s⟩) (s.Hzc.X.Hi+1-s.Hzc.X.Lo).toNat (fun i (b:Bool×Bool)=>(b.1,b.2,(i:Int))) (fun _ _=>True)
  (fun i b=>some (b.1||(X8 (s.Hzc.X.Lo+(i:Int)) s.Hzc).any fun mv=>X2r s mv at_,b.2&&(X8 (s.Hzc.X.Lo+(i:Int)) s.Hzc).all fun mv=>X2r s mv at_))
  (by
   intro b _ R;rw[X1o (by omega)]
   simp[X12,X13])
  (by
   intro i b hi _ R hR;simp only[X12,X13];have hx:IntKind.wrap .i64 (s.Hzc.X.Lo+(i:Int))=s.Hzc.X.Lo+(i:Int):=by rw[w64]<;>omega
   rw[hx,X2w i (by omega),hfrom i hi]
   obtain⟨e,h1,h2⟩:=X69 s (s.Hzc.X.Lo+(i:Int)) at_ hs (by omega) ha
   rw[h1];have d1:decide ((i:Int)<(((s.Hzc.X.Hi+1-s.Hzc.X.Lo).toNat:Nat):Int))=true:=by rw[decide_eq_true_eq];omega
   simp only[d1,cond_true,jS,List.any_append,List.all_append];generalize s.Hzc.X.Lo+(i:Int)=x at *;have hany:decide (e.lo≤e.hi)=(X28 x s.Hzc.Y.Lo s.Hzc.Y.Hi).any fun mv=>X2r s mv at_:=by
    rw[Bool.eq_iff_iff,decide_eq_true_eq,List.any_eq_true];constructor
    ·intro h;have:=(h2 e.lo).1 ⟨Int.le_refl _,h⟩;exact⟨⟨x,e.lo⟩,List.mem_map.2 ⟨e.lo,X2T.2 this.1,rfl⟩,this.2⟩
    ·rintro⟨mv,h3,h4⟩;obtain⟨t,h5,rfl⟩:=List.mem_map.1 h3;have:=(h2 t).2 ⟨X2T.1 h5,h4⟩;omega
   have hall:(e.lo==s.Hzc.Y.Lo&&(e.hi==s.Hzc.Y.Hi&&true))=(X28 x s.Hzc.Y.Lo s.Hzc.Y.Hi).all fun mv=>X2r s mv at_:=by
    rw[Bool.eq_iff_iff,List.all_eq_true];simp only[Bool.and_true,Bool.and_eq_true,beq_iff_eq];constructor
    ·rintro⟨h3,h4⟩ mv hmv2;obtain⟨t,h5,rfl⟩:=List.mem_map.1 hmv2;have h6:=X2T.1 h5;exact((h2 t).1 (by omega)).2
    ·intro h;have hin:∀t,s.Hzc.Y.Lo≤t→t≤s.Hzc.Y.Hi→e.lo≤t∧t≤e.hi:=fun t a b=>(h2 t).2 ⟨⟨a,b⟩,h ⟨x,t⟩ (List.mem_map.2 ⟨t,X2T.2 ⟨a,b⟩,rfl⟩)⟩;have q1:=hin s.Hzc.Y.Lo (Int.le_refl _) (by omega)
     have q2:=hin s.Hzc.Y.Hi (by omega) (Int.le_refl _)
     have q3:=(h2 e.lo).1 ⟨Int.le_refl _,by omega⟩
     have q4:=(h2 e.hi).1 ⟨by omega,Int.le_refl _⟩
     omega
   rw[hall,hany];generalize ((X28 x s.Hzc.Y.Lo s.Hzc.Y.Hi).any fun mv=>X2r s mv at_)=A at *;generalize ((X28 x s.Hzc.Y.Lo s.Hzc.Y.Hi).all fun mv=>X2r s mv at_)=B at *;have hR':=hR (b.1||A,b.2&&B) trivial;simp only[←Bool.or_assoc,←Bool.and_assoc]at hR'⊢;rw[←hR'];cases b.1<;>cases b.2<;>simp)
 have:=key 0 (false,true) (by omega) trivial
 simpa[X4m,X5U,X4]using this
theorem X5o (c:Zp) (at_:Point):X3F c at_=some (onN c at_):=by
 unfold X3F onN;rw[X3Y];simp only[jS]
 by_cases h:X3K c at_=0
 ·obtain⟨hc,ha⟩:=X5E h;obtain⟨hl,hs⟩:=X3I hc;rw[if_pos h,h];simp only[bne_self_eq_false,cond_false];refine(Xb (X10 c.Hzb (↑c.Hzb.length) at_ c) (fun o293=>some (o293.fst,o293.snd,(0:Int))) c.Hzb.length (fun i (b:List Int×List Int)=>((i:Int),b.1,b.2)) (fun i b=>b.1.length≤i∧b.2.length≤i) (fun i b=>some (b.1++(onL at_ i (c.Hzb.drop i)).1,b.2++(onL at_ i (c.Hzb.drop i)).2,(0:Int))) ?_ ?_ 0 ([],[]) (by omega) (by simp)).trans (by simp)
  ·intro b _ R;simp[X10,X11,onL]
  ·intro i b hi hP R hR;simp only[X10,X11];rw[List.drop_eq_getElem_cons hi,kS,X3 _ _ _ hi,X2w i (by omega)]
   have hsi:=hs c.Hzb[i] (List.getElem_mem hi);have e0:(⟨c.Hzb[i].Name,c.Hzb[i].Hz2,c.Hzb[i].Hzc⟩:CtSand)=c.Hzb[i]:=rfl;rw[e0,X4D c.Hzb[i] at_ hsi ha];have d1:decide ((i:Int)<↑c.Hzb.length)=true:=by simp[hi]
   have d2:=z0S i;have d3:Nat.ble ((b.1.length+[(i:Int)].length)*(8+1)) 200000000000000=true:=by rw[Nat.ble_eq];simp;omega
   have d4:Nat.ble ((b.2.length+[(i:Int)].length)*(8+1)) 200000000000000=true:=by rw[Nat.ble_eq];simp;omega
   simp only[d1,d2,d3,d4,Bool.and_self,cond_true,jS,onL];cases hA:X5U c.Hzb[i] at_<;>cases hB:X4m c.Hzb[i] at_
   ·simp only[cond_false,jS,Sum.elim_inl,Bool.false_eq_true,if_false];exact hR b (by omega)
   ·simp only[cond_false,cond_true,jS,Sum.elim_inl,Bool.false_eq_true,if_false,if_true];rw[hR (b.1,b.2++[(i:Int)]) (by simp;omega)]
    simp only[List.append_assoc,List.cons_append,List.nil_append]
   ·simp only[cond_false,cond_true,jS,Sum.elim_inl,Bool.false_eq_true,if_false,if_true];rw[hR (b.1++[(i:Int)],b.2) (by simp;omega)]
    simp only[List.append_assoc,List.cons_append,List.nil_append]
   ·simp only[cond_true,jS,Sum.elim_inl,if_true];rw[hR (b.1++[(i:Int)],b.2++[(i:Int)]) (by simp;omega)]
    simp only[List.append_assoc,List.cons_append,List.nil_append]
 ·rw[if_neg h,X1s h];rfl
end Nore
open Go Go.Ab
namespace Nore
def X3B (p:Nat→Point→Bool):Nat→List Point→Bool
 | _,[]=>false
 | i,a::l=>p i a||X3B p (i+1) l
theorem X4l (p:Nat→Point→Bool) (l2:List Point):∀(l1:List Point) (i:Nat),X3B p i (l1++l2)=(X3B p i l1||X3B p (i+l1.length) l2)
 | [],i=>by simp[X3B]
 | a::l1,i=>by
  simp only[List.cons_append,X3B,X4l p l2 l1,List.length_cons,Bool.or_assoc];rw[show i+1+l1.length=i+(l1.length+1) by omega]
theorem X5V (S:Nat→Int) (q r:Point→Bool):∀(l:List Point) (i:Nat),(∀k,(h:k<l.length)→WX S (i+k)=q l[k])→X3B (fun i a=>WX S i&&r a) i l=(l.filter q).any r
 | [],i,_=>rfl
 | a::l,i,h=>by
  have h0:=h 0 (by simp)
  simp only[Nat.add_zero,List.getElem_cons_zero]at h0;have ih:=X5V S q r l (i+1) (fun k hk=>by
   have:=h (k+1) (by simp;exact hk)
   rw[show i+1+k=i+(k+1) by omega,this]
   rfl)
  simp only[X3B,h0,ih];cases hq:q a
  ·simp[hq]
  ·simp[hq]
theorem X6o {σ ω:Type} (st:σ→Option (σ⊕ω)) (emb:Nat→Int→σ) (hit:Point→ω) (fin:Nat→ω) (p:Nat→Point→Bool) (x lo hi:Int) (N:Nat)
  (hd:∀i y,¬y≤hi→st (emb i y)=some (.inr (fin i)))
  (hn:∀i y,lo≤y→y≤hi→i<N→st (emb i y)=some (if p i ⟨x,y⟩=true then .inr (hit ⟨x,y⟩)else .inl (emb (i+1) (y+1)))) :
  ∀n y i,(hi+1-y).toNat=n→lo≤y→i+n≤N→(X3B p i (X28 x y hi)=true∧∃q,Z9k st (emb i y)=some (hit q))∨(X3B p i (X28 x y hi)=false∧Z9k st (emb i y)=some (fin (i+n))):=by
 intro n
 induction n with
 | zero =>
  intro y i h1 h2 h3;right;rw[ZiZ,hd i y (by omega),X4d (by omega)]
  exact⟨rfl,rfl⟩
 | succ n ih =>
  intro y i h1 h2 h3;rw[ZiZ,hn i y h2 (by omega) (by omega),X3T (by omega)]
  by_cases hp:p i ⟨x,y⟩=true
  ·left;simp only[hp,if_true];exact⟨by simp[X3B,hp],_,rfl⟩
  ·rw[Bool.not_eq_true]at hp;simp only[hp,X3B,Bool.false_or];have:=ih (y+1) (i+1) (by omega) (by omega) (by omega)
   rw[show i+(n+1)=i+1+n by omega]
   exact this
theorem X6d {σ ω:Type} (st:σ→Option (σ⊕ω)) (emb:Nat→Int→σ) (hit:Point→ω) (fin:ω) (p:Nat→Point→Bool) (b:ZF) (N:Nat)
  (hd:∀i x,¬x≤b.X.Hi→st (emb i x)=some (.inr fin))
  (hn:∀i x,b.X.Lo≤x→x≤b.X.Hi→i+(b.Y.Hi+1-b.Y.Lo).toNat≤N→(X3B p i (X28 x b.Y.Lo b.Y.Hi)=true∧∃q,st (emb i x)=some (.inr (hit q)))∨(X3B p i (X28 x b.Y.Lo b.Y.Hi)=false∧st (emb i x)=some (.inl (emb (i+(b.Y.Hi+1-b.Y.Lo).toNat) (x+1))))) :
  ∀n x i,(b.X.Hi+1-x).toNat=n→b.X.Lo≤x→i+n*(b.Y.Hi+1-b.Y.Lo).toNat≤N→(X3B p i (X8 x b)=true∧∃q,Z9k st (emb i x)=some (hit q))∨(X3B p i (X8 x b)=false∧Z9k st (emb i x)=some fin):=by
 intro n
 induction n with
 | zero =>
  intro x i h1 h2 h3;right;rw[ZiZ,hd i x (by omega),X1o (by omega)]
  exact⟨rfl,rfl⟩
 | succ n ih =>
  intro x i h1 h2 h3;rw[Nat.succ_mul]at h3;rw[X16 (by omega),X4l,X3N]
  rcases hn i x h2 (by omega) (by omega)with⟨ha,q,hq⟩|⟨ha,hq⟩
  ·left;refine⟨by rw[ha,Bool.true_or],q,?_⟩
   rw[ZiZ,hq];rfl
  ·have:=ih (x+1) (i+(b.Y.Hi+1-b.Y.Lo).toNat) (by omega) (by omega) (by omega)
   rw[ha,Bool.false_or,ZiZ,hq];exact this
def W1 (m:SgMooring) (l:List ZD) (x:ZD):List Point×Int :=
 if(X2 m l).2=0 then(if(X2 m [x]).2=0 then(if X1P m l (X4 m.Anchor)=[]then([],9)else((X4 x.At).filter fun p=>(X1P m l (X4 m.Anchor)).any fun a=>X3j m x a p,0))else([],(X2 m [x]).2))else([],(X2 m l).2)
def X61 (g:Point→Bool) (_:Nat) (p:Point) (acc:List Point):List Point:=if g p=true then acc++[p]else acc
theorem X59 (g:Point→Bool):∀(l:List Point) (i:Nat) (acc:List Point),X1r (X61 g) i l acc=acc++l.filter g
 | [],i,acc=>by simp[X1r]
 | p::l,i,acc=>by
  simp only[X1r];rw[X59 g l];simp only[X61];cases hq:g p
  ·simp[hq]
  ·simp[hq]
theorem X4w (m:SgMooring) (l:List ZD) (x:ZD):X2a m l x=some (W1 m l x):=by
 unfold X2a W1;rw[X3Q];simp only[jS]
 by_cases h:(X2 m l).2=0
 ·have ok:=WV h;have hA:=ok.anchor;rw[if_pos h,if_pos h];simp only[bne_self_eq_false,cond_false];rw[X2C];simp only[jS]
  by_cases h2:(X2 m [x]).2=0
  ·have okx:=(WV h2).ZgJ x (by simp)
   rw[if_pos h2,h2];simp only[bne_self_eq_false,cond_false];rw[X41 _ _ (X5e m hA).1 (X4o hA l) (by have:=ok.len;simp;omega)]
   simp only[jS];have hS:=X5i hA l _ _ (X5e m hA);simp only[Bool.true_and]at hS;have hM:(X4 m.Anchor).length≤320:=by have:=X2g hA;omega
   generalize hSS:(l.map (X1n m)).foldl X1B (X3r m)=S at *;have hem:=X6f hS hM;rw[hem];have hh:(X4 m.Anchor).filter (fun a=>l.all fun x=>X1z m x a)=X1P m l (X4 m.Anchor):=rfl;rw[hh]
   by_cases he:X1P m l (X4 m.Anchor)=[]
   ·simp[he]
   ·simp only[he,decide_false,cond_false,if_false];have hB:=X1t hA;have hX:=X1t okx.2.1;have hMA:=X2G hA;have hMX:=X2G okx.2.1;have hbits:=X4O hS hM;have hres:∀p,X3B (fun i a=>WX S i&&X3j m x a p) 0 (X4 m.Anchor)=(X1P m l (X4 m.Anchor)).any fun a=>X3j m x a p:=fun p=>X5V S _ (fun a=>X3j m x a p) _ 0 hbits
    have inner:∀(p:Point) (acc:List Point) (z1:List ZD) (z3:Int) (z4:Bool) (z5:Bool) (z6:Bool) (z7 z8 z9:Int),acc.length≤289→p∈X4 x.At →
      (((X1P m l (X4 m.Anchor)).any fun a=>X3j m x a p)=true∧∃q,Z9k (Xg S x.At z3 z4 l z5 (l.map (X1n m)) z6 z7 m x z8 z9 ⟨m,X3r m⟩ x p acc m z3 z4 l z5 (l.map (X1n m)) z6 m x m.Anchor) (0,m.Anchor.X.Lo)=some (.inl ([p],acc++[p],q))) ∨
      (((X1P m l (X4 m.Anchor)).any fun a=>X3j m x a p)=false∧Z9k (Xg S x.At z3 z4 l z5 (l.map (X1n m)) z6 z7 m x z8 z9 ⟨m,X3r m⟩ x p acc m z3 z4 l z5 (l.map (X1n m)) z6 m x m.Anchor) (0,m.Anchor.X.Lo)=some (.inr ())):=by
     intro p acc z1 z3 z4 z5 z6 z7 z8 z9 hacc hp;have key:=X6d (Xg S x.At z3 z4 l z5 (l.map (X1n m)) z6 z7 m x z8 z9 ⟨m,X3r m⟩ x p acc m z3 z4 l z5 (l.map (X1n m)) z6 m x m.Anchor) (fun k x=>((k:Int),x)) (fun q=>.inl ([p],acc++[p],q)) (.inr ()) (fun i a=>WX S i&&X3j m x a p) m.Anchor 289
      (by
       intro k x' hx';simp only[Xg,Wd];rw[decide_eq_false hx'];rfl)
      (by
       intro k x' hx1 hx2 hk;have row:=X6o (XZ x' S x.At acc z3 z4 l z5 (l.map (X1n m)) z6 z7 m x z8 z9 ⟨m,X3r m⟩ x p m z3 z4 l z5 (l.map (X1n m)) z6 m x m.Anchor) (fun k y=>((k:Int),y)) (fun q=>.inl ([p],acc++[p],q)) (fun k=>.inr (k:Int)) (fun i a=>WX S i&&X3j m x a p) x' m.Anchor.Y.Lo m.Anchor.Y.Hi 289
        (by
         intro k y' hy';simp only[XZ,We];rw[decide_eq_false hy'];rfl)
        (by
         intro k y' hy1 hy2 hk;simp only[XZ,We];have hl:=X3R ⟨m,X3r m⟩ x okx.1 ok.ring hA okx.2.1 ⟨x',y'⟩ p (X2U.2 ⟨hx1,hx2,hy1,hy2⟩) hp;have h3:Nat.ble ((acc.length+[p].length)*(16+1)) 200000000000000=true:=by
          rw[Nat.ble_eq];simp;omega
         rw[decide_eq_true hy2,X2w k (by omega),X3x y' (by omega),cond_true,X4Q S hS.1 k (by omega),hl,h3]
         simp only[jS];cases hb:WX S k
         ·simp
         ·cases hc:X3j m x ⟨x',y'⟩ p
          ·simp[hc]
          ·simp[hc])
       have r:=row _ m.Anchor.Y.Lo k rfl (by omega) hk
       simp only[Xg,Wd];rw[decide_eq_true hx2,cond_true,X3x x' (by omega)]
       unfold X1O;rcases r with⟨r1,q,r2⟩|⟨r1,r2⟩
       ·left;refine⟨r1,q,?_⟩;rw[r2];rfl
       ·right;refine⟨r1,?_⟩;rw[r2];rfl)
     have r:=key _ m.Anchor.X.Lo 0 rfl (by omega) (by omega)
     rw[show X8 m.Anchor.X.Lo m.Anchor=X4 m.Anchor from rfl,hres p]at r;exact r
    have key:=X44 (XC S x.At [x] ⟨m,X3r m⟩ x m 0 false l false (l.map (X1n m)) (decide (X1P m l (X4 m.Anchor)=[])) m x) (fun i x c=>((i:Int),x,c)) (fun _ c=>c) (X61 fun p=>(X1P m l (X4 m.Anchor)).any fun a=>X3j m x a p) (fun i c=>c.length≤i) x.At 289
     (by
      intro i x' c hx';simp only[XC,Wb];rw[decide_eq_false hx'];rfl)
     (by
      intro i x' c hx1 hx2 hi hc;have row:=X4e (XY x' S x.At [x] ⟨m,X3r m⟩ x m 0 false l false (l.map (X1n m)) (decide (X1P m l (X4 m.Anchor)=[])) m x) (fun i y c=>((i:Int),y,c)) (fun i c=>((i:Int),c)) (X61 fun p=>(X1P m l (X4 m.Anchor)).any fun a=>X3j m x a p) (fun i c=>c.length≤i) x' x.At.Y.Lo x.At.Y.Hi 289
       (by
        intro i y' c hy';simp only[XY,Wc];rw[decide_eq_false hy'];rfl)
       (by
        intro i y' c hy1 hy2 hi hc;simp only[XY,Wc];rw[decide_eq_true hy2,X2w i (by omega),X3x y' (by omega),cond_true]
        unfold X1N;have hin:=inner ⟨x',y'⟩ c [x] 0 false false (decide (X1P m l (X4 m.Anchor)=[])) (i:Int) x' y' (by omega) (X2U.2 ⟨hx1,hx2,hy1,hy2⟩)
        rcases hin with⟨r1,q,r2⟩|⟨r1,r2⟩
        ·rw[r2];simp only[X61,r1,if_true];exact⟨rfl,by simp;omega⟩
        ·rw[r2];simp only[X61,r1];exact⟨rfl,by simp;omega⟩)
      have r:=row _ x.At.Y.Lo i c rfl (by omega) hi hc
      refine⟨?_,r.2⟩;simp only[XC,Wb];rw[decide_eq_true hx2,cond_true];unfold X1M;rw[r.1,X3x x' (by omega)]
      rfl)
    have r:=(key _ x.At.X.Lo 0 [] rfl (by omega) (by omega) (by simp)).1
    unfold X1L;rw[he |> decide_eq_false]at r;have r':Z9k (XC S x.At [x] ⟨m,X3r m⟩ x m 0 false l false (l.map (X1n m)) false m x) (0,x.At.X.Lo,[])=_:=r;rw[r',X59];rfl
  ·rw[if_neg h2,X1s h2];rfl
 ·rw[if_neg h,if_neg h];simp only;rw[X1s h];rfl
theorem X5c (m:SgMooring) (l:List ZD) (x:ZD) (h:(W1 m l x).2=0):(X2 m l).2=0∧(X2 m [x]).2=0∧(W1 m l x).1.length≤289∧∀p,p∈(W1 m l x).1→p∈X4 x.At∧Bd 9000 p:=by
 unfold W1 at h⊢
 by_cases h1:(X2 m l).2=0
 ·rw[if_pos h1]at h⊢
  by_cases h2:(X2 m [x]).2=0
  ·have okx:=(WV h2).ZgJ x (by simp)
   rw[if_pos h2]at h⊢
   by_cases h3:X1P m l (X4 m.Anchor)=[]
   ·rw[if_pos h3]at h;simp at h
   ·rw[if_neg h3];refine⟨h1,h2,?_,fun p hp=>?_⟩
    ·have h4:=X2g okx.2.1;have h5:=List.length_filter_le (fun p=>(X1P m l (X4 m.Anchor)).any fun a=>X3j m x a p) (X4 x.At);simp only;omega
    ·have:=(List.mem_filter.1 hp).1;exact⟨this,X49 okx.2.1 this⟩
  ·rw[if_neg h2]at h;exact absurd h h2
 ·rw[if_neg h1]at h;exact absurd h h1
def XG (m:SgMooring):List Point→Point×Int×Int
 | []=>(⟨0,0⟩,0,4)
 | p::r=>match(onN m.Hz9 p).2.1 with
  | k::_=>(p,k,0)
  | []=>if m.Near*m.Near<p.X*p.X+p.Y*p.Y then(p,-1,0)else XG m r
def X5h (m:SgMooring) (l:List ZD) (x:ZD):Point×Int×Int:=if(W1 m l x).2=0 then XG m (W1 m l x).1 else(⟨0,0⟩,0,(W1 m l x).2)
theorem X6l {m:SgMooring} (h:0≤m.Near∧m.Near≤20000) (p:Point) (hp:Bd 9000 p):IntKind.wrap .i64 (IntKind.wrap .i64 (p.X*p.X)+IntKind.wrap .i64 (p.Y*p.Y))=p.X*p.X+p.Y*p.Y∧IntKind.wrap .i64 (m.Near*m.Near)=m.Near*m.Near:=by
 unfold Bd at hp;have s1:=X5I (a:=p.X) (by omega)
 have s2:=X5I (a:=p.Y) (by omega)
 have s3:=X5I (a:=m.Near) (by omega)
 rw[s1.1,s2.1,s3.1];exact⟨by rw[w64]<;>omega,rfl⟩
theorem X4v (m:SgMooring) (l:List ZD) (x:ZD):X29 m l x=some (X5h m l x):=by
 unfold X29 X5h;rw[X4w];simp only[jS]
 by_cases h:(W1 m l x).2=0
 ·obtain⟨h1,h2,h3,h4⟩:=X5c m l x h;have ok:=WV h1;rw[if_pos h,h];simp only[bne_self_eq_false,cond_false];generalize (W1 m l x).1=ps at *;refine(Xb (XX (↑ps.length) ps x m ⟨0,0⟩) _ ps.length (fun i (_:Unit)=>(i:Int)) (fun _ _=>True) (fun i _=>some (XG m (ps.drop i))) ?_ ?_ 0 () (by omega) trivial)
  ·intro b _ R;simp[XX,Wa,XG]
  ·intro i b hi _ R hR;have hR':=hR () trivial;have hp:=(h4 ps[i] (List.getElem_mem hi)).2;have hw:=X6l ok.near ps[i] hp;simp only[XX,Wa];rw[List.drop_eq_getElem_cons hi,kS,X3 _ _ _ hi,X2w i (by omega),X5o,hw.1,hw.2]
   have d1:decide ((i:Int)<↑ps.length)=true:=by simp[hi]
   have d2:=z0S i;simp only[d1,d2,Bool.and_self,cond_true,jS,XG];cases hon:(onN m.Hz9 ps[i]).2.1 with
   | cons k ks =>
    have e1:decide (((k::ks).length:Int)>0)=true:=by simp
    have e2:decide ((0:Int)<((k::ks).length:Int))=true:=by simp
    simp only[e1,e2,cond_true];simp
   | nil =>
    by_cases hn:m.Near*m.Near<ps[i].X*ps[i].X+ps[i].Y*ps[i].Y
    ·have e1:decide (ps[i].X*ps[i].X+ps[i].Y*ps[i].Y>m.Near*m.Near)=true:=decide_eq_true hn;simp only[e1,hn,if_true];simp
    ·have e1:decide (ps[i].X*ps[i].X+ps[i].Y*ps[i].Y>m.Near*m.Near)=false:=decide_eq_false hn;simp only[e1,hn,if_false];simp only[List.length_nil,Int.natCast_zero,gt_iff_lt,Int.lt_irrefl,decide_false,cond_false,jS,Sum.elim_inl];exact hR'
 ·rw[if_neg h,X1s h];rfl
end Nore
open Go Go.Ab
namespace Nore
theorem X5f {m:SgMooring} {l:List ZD} (h:(X2 m l).2=0):X1p m l=some (X1P m l (X4 m.Anchor),0):=by
 rw[X4k];unfold X4A;rw[if_pos h]
end Nore
open Go Go.Ab
namespace Nore
theorem X4n (m:SgMooring):∀(ps:List Point),
  ((XG m ps).2.2=4∧∀p,p∈ps→(onN m.Hz9 p).2.1=[]∧p.X*p.X+p.Y*p.Y≤m.Near*m.Near) ∨
  ((XG m ps).2.2=0∧(XG m ps).1∈ps∧((∃k ks,(onN m.Hz9 (XG m ps).1).2.1=k::ks∧(XG m ps).2.1=k)∨((onN m.Hz9 (XG m ps).1).2.1=[]∧(XG m ps).2.1 = -1∧m.Near*m.Near<(XG m ps).1.X*(XG m ps).1.X+(XG m ps).1.Y*(XG m ps).1.Y)))
 | []=>.inl ⟨rfl,fun p h=>by cases h⟩
 | p::r=>by
  have e:XG m (p::r)=match(onN m.Hz9 p).2.1 with
   | k::_=>(p,k,0)
   | []=>if m.Near*m.Near<p.X*p.X+p.Y*p.Y then(p,-1,0)else XG m r:=rfl
  cases hon:(onN m.Hz9 p).2.1 with
  | cons k ks =>
   rw[hon]at e;simp only at e;rw[e];exact .inr ⟨rfl,by simp,.inl ⟨k,ks,hon,rfl⟩⟩
  | nil =>
   rw[hon]at e;simp only at e
   by_cases hn:m.Near*m.Near<p.X*p.X+p.Y*p.Y
   ·rw[if_pos hn]at e;rw[e];exact .inr ⟨rfl,by simp,.inr ⟨hon,rfl,hn⟩⟩
   ·rw[if_neg hn]at e;rw[e];rcases X4n m r with⟨h1,h2⟩|⟨h1,h2,h3⟩
    ·refine .inl ⟨h1,fun q hq=>?_⟩;rcases List.mem_cons.1 hq with rfl|hq
     ·exact⟨hon,by omega⟩
     ·exact h2 q hq
    ·exact .inr ⟨h1,List.mem_cons_of_mem _ h2,h3⟩
theorem X6w {c:Zp} {p:Point} (hc:(WW c).2.2=0) (hp:Bd 9000 p):onN c p=((onL p 0 c.Hzb).1,(onL p 0 c.Hzb).2,0):=by
 have:X3K c p=0:=by
  unfold X3K;rw[if_pos hc];have:X2f 10000 p=false:=by rw[X45];unfold Bd at *;omega
  rw[this];rfl
 unfold onN;rw[if_pos this]
end Nore
open Go Go.Ab
namespace Nore
def XM (a b:Point):Int:=a.X*b.X+a.Y*b.Y
theorem X3S (a:Int):0≤a*a:=by
 rcases Int.le_total 0 a with h|h
 ·exact Int.mul_nonneg h h
 ·have:=Int.mul_nonneg (show 0 ≤ -a by omega) (show 0 ≤ -a by omega)
  rwa [Int.neg_mul_neg]at this
theorem X6i (N M tx ty ux uy:Int):M*M*(ux*ux+uy*uy)=((N*tx+M*ux)*(N*tx+M*ux)+(N*ty+M*uy)*(N*ty+M*uy))-2*(N*((N*tx+M*ux)*tx+(N*ty+M*uy)*ty))+N*N*(tx*tx+ty*ty):=by grind
theorem X6j (N M tx ty ux uy bx b:Int):M*M*(ux*ux+uy*uy)=((N*tx+M*ux-N*bx)*(N*tx+M*ux-N*bx)+(N*ty+M*uy-N*b)*(N*ty+M*uy-N*b))-2*(N*((N*tx+M*ux-N*bx)*(tx-bx)+(N*ty+M*uy-N*b)*(ty-b)))+N*N*((tx-bx)*(tx-bx)+(ty-b)*(ty-b)):=by grind
theorem X6k (ux uy bx b:Int):(ux*ux+uy*uy)*(bx*bx+b*b)=(bx*uy-b*ux)*(bx*uy-b*ux)+(bx*ux+b*uy)*(bx*ux+b*uy):=by grind
theorem X67 (bx by' tx ty ux uy ex ey gx gy M N K:Int) (hM:M = -(bx*ty-by'*tx)) (hN':N=bx*uy-by'*ux) (h1:0<M) (h2:M≤N)
  (hp':0<ex*by'-ey*bx) (hr':0<bx*gy-by'*gx)
  (gp:0≤N*(ex*ty-ey*tx)+M*(ex*uy-ey*ux)) (gr:0≤N*(gx*(ty-by')-gy*(tx-bx))+M*(gx*uy-gy*ux)) (hK':K=ux*ux+uy*uy) :
  (bx*tx+by'*ty<0→tx*tx+ty*ty≤K) ∧
  (bx*tx+by'*ty>bx*bx+by'*by'→(tx-bx)*(tx-bx)+(ty-by')*(ty-by')≤K) ∧
  M*M≤K*(bx*bx+by'*by'):=by
 obtain⟨fx,hfx⟩:∃z,z=N*tx+M*ux:=⟨_,rfl⟩;obtain⟨fy,hfy⟩:∃z,z=N*ty+M*uy:=⟨_,rfl⟩;have hline:bx*fy-by'*fx=0:=by rw[hfx,hfy,hM,hN'];grind
 have gp':0≤ex*fy-ey*fx:=by
  have e:ex*fy-ey*fx=N*(ex*ty-ey*tx)+M*(ex*uy-ey*ux):=by rw[hfx,hfy];clear gp gr hp' hr' h1 h2 hK' hM hN';grind
  omega
 have gr':0≤gx*(fy-N*by')-gy*(fx-N*bx):=by
  have e:gx*(fy-N*by')-gy*(fx-N*bx)=N*(gx*(ty-by')-gy*(tx-bx))+M*(gx*uy-gy*ux):=by rw[hfx,hfy];clear gp gr gp' hp' hr' h1 h2 hK' hM hN';grind
  omega
 obtain⟨L,hL⟩:∃z,z=bx*bx+by'*by':=⟨_,rfl⟩;obtain⟨S,hS⟩:∃z,z=fx*bx+fy*by':=⟨_,rfl⟩;have k1:L*fx=S*bx:=by rw[hL,hS];clear gp gr gp' gr' hp' hr' h1 h2 hK' hM hN' hfx hfy;grind
 have k2:L*fy=S*by':=by rw[hL,hS];clear gp gr gp' gr' hp' hr' h1 h2 hK' hM hN' hfx hfy;grind
 have hLp:0<L:=by
  rcases Int.lt_or_le 0 L with h|h
  ·exact h
  ·exfalso;have e1:=X3S bx;have e2:=X3S by';have z1:bx*bx=0:=by omega
   have z2:by'*by'=0:=by omega
   have z3:bx=0:=by rcases Int.mul_eq_zero.1 z1 with h|h<;>exact h
   have z4:by'=0:=by rcases Int.mul_eq_zero.1 z2 with h|h<;>exact h
   subst z3 z4;simp at hp'
 have hS0:0≤S:=by
  rcases Int.lt_or_le S 0 with h|h
  ·exfalso;have:=Int.mul_neg_of_neg_of_pos h hp';have:=Int.mul_nonneg (Int.le_of_lt hLp) gp';have e:L*(ex*fy-ey*fx)=S*(ex*by'-ey*bx):=by clear gp gr hK' hM hN' hfx hfy hS hL hline;grind
   omega
  ·exact h
 have hS1:S≤N*L:=by
  rcases Int.lt_or_le (N*L) S with h|h
  ·exfalso;have h':0<S-N*L:=by omega
   have:=Int.mul_pos h' hr';have:=Int.mul_nonneg (Int.le_of_lt hLp) gr';have e:L*(gx*(fy-N*by')-gy*(fx-N*bx)) = -((S-N*L)*(bx*gy-by'*gx)):=by clear gp gr hK' hM hN' hfx hfy hS hline;grind
   omega
  ·exact h
 have hK0:0≤K:=by rw[hK'];have:=X3S ux;have:=X3S uy;omega
 have hMN:M*M≤N*N:=Int.mul_le_mul h2 h2 (by omega) (by omega)
 have hNp:0<N:=by omega
 have hNN:0<N*N:=Int.mul_pos hNp hNp;have hKN:M*M*K≤N*N*K:=Int.mul_le_mul_of_nonneg_right hMN hK0;refine⟨fun hw=>?_,fun hw=>?_,?_⟩
 ·
  have e1:L*(fx*tx+fy*ty)=S*(bx*tx+by'*ty):=by clear gp gr hK' hM hN' hfx hfy hS hL hline;grind
  have h3:S*(bx*tx+by'*ty)≤0:=Int.mul_nonpos_of_nonneg_of_nonpos hS0 (by omega)
  have h4:fx*tx+fy*ty≤0:=by
   rcases Int.lt_or_le 0 (fx*tx+fy*ty)with h|h
   ·have:=Int.mul_pos hLp h;omega
   ·exact h
  have h5:N*(fx*tx+fy*ty)≤0:=Int.mul_nonpos_of_nonneg_of_nonpos (by omega) h4
  have e2:M*M*K=(fx*fx+fy*fy)-2*(N*(fx*tx+fy*ty))+N*N*(tx*tx+ty*ty):=by rw[hK',hfx,hfy];exact X6i N M tx ty ux uy
  have h6:=X3S fx;have h7:=X3S fy;have h8:N*N*(tx*tx+ty*ty)≤N*N*K:=by omega
  exact Int.le_of_mul_le_mul_left h8 hNN
 ·have e1:L*((fx-N*bx)*(tx-bx)+(fy-N*by')*(ty-by'))=(S-N*L)*(bx*tx+by'*ty-(bx*bx+by'*by')):=by clear gp gr hK' hM hN' hfx hfy hS hline;grind
  have h3:(S-N*L)*(bx*tx+by'*ty-(bx*bx+by'*by'))≤0:=Int.mul_nonpos_of_nonpos_of_nonneg (by omega) (by omega)
  have h4:(fx-N*bx)*(tx-bx)+(fy-N*by')*(ty-by')≤0:=by
   rcases Int.lt_or_le 0 ((fx-N*bx)*(tx-bx)+(fy-N*by')*(ty-by'))with h|h
   ·have:=Int.mul_pos hLp h;omega
   ·exact h
  have h5:N*((fx-N*bx)*(tx-bx)+(fy-N*by')*(ty-by'))≤0:=Int.mul_nonpos_of_nonneg_of_nonpos (by omega) h4
  have e2:M*M*K=((fx-N*bx)*(fx-N*bx)+(fy-N*by')*(fy-N*by'))-2*(N*((fx-N*bx)*(tx-bx)+(fy-N*by')*(ty-by')))+N*N*((tx-bx)*(tx-bx)+(ty-by')*(ty-by')):=by rw[hK',hfx,hfy];exact X6j N M tx ty ux uy bx by'
  have h6:=X3S (fx-N*bx);have h7:=X3S (fy-N*by');have h8:N*N*((tx-bx)*(tx-bx)+(ty-by')*(ty-by'))≤N*N*K:=by omega
  exact Int.le_of_mul_le_mul_left h8 hNN
 ·have e1:K*(bx*bx+by'*by')=N*N+(bx*ux+by'*uy)*(bx*ux+by'*uy):=by rw[hK',hN'];exact X6k ux uy bx by'
  have:=X3S (bx*ux+by'*uy);omega
theorem X6b (c d p r a q:Point) (M N:Int) (hM:M = -X1 (X0 d c) (X0 a c)) (hN:N=X1 (X0 d c) (X0 q c)-X1 (X0 d c) (X0 a c)) (h1:0<M) (h2:M≤N)
  (hp:0<X1 (X0 c p) (X0 d p)) (hr:0<X1 (X0 d c) (X0 r c))
  (gp:0≤N*X1 (X0 c p) (X0 a p)+M*(X1 (X0 c p) (X0 q p)-X1 (X0 c p) (X0 a p)))
  (gr:0≤N*X1 (X0 r d) (X0 a d)+M*(X1 (X0 r d) (X0 q d)-X1 (X0 r d) (X0 a d))) :
  (XM (X0 d c) (X0 a c)<0→XM (X0 a c) (X0 a c)≤XM (X0 q a) (X0 q a)) ∧
  (XM (X0 d c) (X0 a c)>XM (X0 d c) (X0 d c)→XM (X0 (X0 a c) (X0 d c)) (X0 (X0 a c) (X0 d c))≤XM (X0 q a) (X0 q a)) ∧
  M*M≤XM (X0 q a) (X0 q a)*XM (X0 d c) (X0 d c):=by
 refine X67 (X0 d c).X (X0 d c).Y (X0 a c).X (X0 a c).Y (X0 q a).X (X0 q a).Y (X0 c p).X (X0 c p).Y (X0 r d).X (X0 r d).Y M N _ hM ?_ h1 h2 ?_ ?_ ?_ ?_ rfl
 ·rw[hN];simp only[X1,X0];clear hM hN h1 h2 hp hr gp gr;grind
 ·have e:(X0 c p).X*(X0 d c).Y-(X0 c p).Y*(X0 d c).X=X1 (X0 c p) (X0 d p):=by simp only[X1,X0];clear hM hN h1 h2 hp hr gp gr;grind
  omega
 ·have e:(X0 d c).X*(X0 r d).Y-(X0 d c).Y*(X0 r d).X=X1 (X0 d c) (X0 r c):=by simp only[X1,X0];clear hM hN h1 h2 hp hr gp gr;grind
  omega
 ·have e1:(X0 c p).X*(X0 a c).Y-(X0 c p).Y*(X0 a c).X=X1 (X0 c p) (X0 a p):=by simp only[X1,X0];clear hM hN h1 h2 hp hr gp gr;grind
  have e2:(X0 c p).X*(X0 q a).Y-(X0 c p).Y*(X0 q a).X=X1 (X0 c p) (X0 q p)-X1 (X0 c p) (X0 a p):=by simp only[X1,X0];clear hM hN h1 h2 hp hr gp gr e1;grind
  rw[e1,e2];exact gp
 ·have e1:(X0 r d).X*((X0 a c).Y-(X0 d c).Y)-(X0 r d).Y*((X0 a c).X-(X0 d c).X)=X1 (X0 r d) (X0 a d):=by simp only[X1,X0];clear hM hN h1 h2 hp hr gp gr;grind
  have e2:(X0 r d).X*(X0 q a).Y-(X0 r d).Y*(X0 q a).X=X1 (X0 r d) (X0 q d)-X1 (X0 r d) (X0 a d):=by simp only[X1,X0];clear hM hN h1 h2 hp hr gp gr e1;grind
  rw[e1,e2];exact gr
theorem X5b (M N:Nat→Int) (h:∀j,0<M j→M j≤N j):∀n,(∃j,j<n∧0<M j)→∃i,i<n∧0<M i∧∀j,j<n→0<M j→M j*N i≤M i*N j
 | 0,⟨j,hj,_⟩=>absurd hj (Nat.not_lt_zero j)
 | n+1,hex=>by
  by_cases hn:∃j,j<n∧0<M j
  ·obtain⟨i,h1,h2,h3⟩:=X5b M N h n hn
   by_cases hk:0<M n
   ·by_cases hc:M n*N i≤M i*N n
    ·refine⟨i,by omega,h2,fun j hj hm=>?_⟩
     by_cases e:j=n
     ·subst e;exact hc
     ·exact h3 j (by omega) hm
    ·refine⟨n,by omega,hk,fun j hj hm=>?_⟩
     by_cases e:j=n
     ·subst e;exact Int.le_refl _
     ·have q1:=h3 j (by omega) hm
      have q2:M i*N n≤M n*N i:=by omega
      have ni:0<N i:=by have:=h i h2;omega
      have nn:0≤N n:=by have:=h n hk;omega
      have nj:0≤N j:=by have:=h j hm;omega
      have q3:N n*(M j*N i)≤N n*(M i*N j):=Int.mul_le_mul_of_nonneg_left q1 nn;have q4:N j*(M i*N n)≤N j*(M n*N i):=Int.mul_le_mul_of_nonneg_left q2 nj;have e1:N n*(M j*N i)=N i*(M j*N n):=by clear q1 q2 q3 q4 hc h3 h;grind
      have e2:N n*(M i*N j)=N j*(M i*N n):=by clear q1 q2 q3 q4 hc h3 h e1;grind
      have e3:N j*(M n*N i)=N i*(M n*N j):=by clear q1 q2 q3 q4 hc h3 h e1 e2;grind
      exact Int.le_of_mul_le_mul_left (show N i*(M j*N n)≤N i*(M n*N j) by omega) ni
   ·refine⟨i,by omega,h2,fun j hj hm=>?_⟩
    by_cases e:j=n
    ·subst e;exact absurd hm hk
    ·exact h3 j (by omega) hm
  ·obtain⟨j,hj,hm⟩:=hex;have e:j=n:=by
    by_cases e:j=n
    ·exact e
    ·exact absurd ⟨j,by omega,hm⟩ hn
   subst e;refine⟨j,by omega,hm,fun k hk hkm=>?_⟩
   by_cases e:k=j
   ·subst e;exact Int.le_refl _
   ·exact absurd ⟨k,by omega,hkm⟩ hn
def Xf (l:List Point) (i:Nat):Point:=l.getD i ⟨0,0⟩
def WY (l:List Point) (i:Nat) (z:Point):Int:=X1 (X0 (Xf l ((i+1) % l.length)) (Xf l i)) (X0 z (Xf l i))
theorem X6n (A Q m n:Int) (hm:0<m) (hmn:m≤n) (hQ:0≤Q) (h:0 < -A → -A*n≤m*(Q-A)):0≤n*A+m*(Q-A):=by
 by_cases hA:0 < -A
 ·have:=h hA;rw[Int.neg_mul,Int.mul_comm A n]at this;omega
 ·have k1:m*A≤n*A:=Int.mul_le_mul_of_nonneg_right hmn (by omega)
  have k2:0≤m*Q:=Int.mul_nonneg (by omega) hQ
  rw[Int.mul_sub];omega
theorem X68 (l:List Point) (hn:3≤l.length) (hround:∀i,i<l.length→∀m,m<l.length→m≠i→m≠(i+1) % l.length→0<X1 (X0 (Xf l ((i+1) % l.length)) (Xf l i)) (X0 (Xf l m) (Xf l i)))
  (a q:Point) (hq:∀i,i<l.length→0≤WY l i q) (ha:∃i,i<l.length∧WY l i a<0) :
  ∃i,i<l.length∧WY l i a<0 ∧
   (XM (X0 (Xf l ((i+1) % l.length)) (Xf l i)) (X0 a (Xf l i))<0→XM (X0 a (Xf l i)) (X0 a (Xf l i))≤XM (X0 q a) (X0 q a)) ∧
   (XM (X0 (Xf l ((i+1) % l.length)) (Xf l i)) (X0 a (Xf l i))>XM (X0 (Xf l ((i+1) % l.length)) (Xf l i)) (X0 (Xf l ((i+1) % l.length)) (Xf l i))→XM (X0 (X0 a (Xf l i)) (X0 (Xf l ((i+1) % l.length)) (Xf l i))) (X0 (X0 a (Xf l i)) (X0 (Xf l ((i+1) % l.length)) (Xf l i)))≤XM (X0 q a) (X0 q a)) ∧
   WY l i a*WY l i a≤XM (X0 q a) (X0 q a)*XM (X0 (Xf l ((i+1) % l.length)) (Xf l i)) (X0 (Xf l ((i+1) % l.length)) (Xf l i)):=by
 generalize hL:l.length=n at *;have hqn:∀j,j<n→0≤WY l j q:=hq;obtain⟨i,h1,h2,h3⟩:=X5b (fun i => -WY l (i % n) a) (fun i=>WY l (i % n) q-WY l (i % n) a) (fun j hj=>by
  have h0:=hqn (j % n) (Nat.mod_lt _ (by omega))
  show -WY l (j % n) a≤WY l (j % n) q-WY l (j % n) a;omega) n (by
   obtain⟨i,hi,hs⟩:=ha;exact⟨i,hi,by simp only[Nat.mod_eq_of_lt hi];omega⟩)
 simp only[Nat.mod_eq_of_lt h1]at h2 h3;have hon:∀k,k<n→0≤(WY l i q-WY l i a)*WY l k a + -WY l i a*(WY l k q-WY l k a):=fun k hk=>by
  refine X6n (WY l k a) (WY l k q) (-WY l i a) (WY l i q-WY l i a) h2 (by have:=hqn i h1;omega) (hqn k hk) fun hneg=>?_
  have:=h3 k hk (by simp only[Nat.mod_eq_of_lt hk];exact hneg)
  simp only[Nat.mod_eq_of_lt hk]at this;exact this
 have hk1:(i+n-1) % n<n:=Nat.mod_lt _ (by omega)
 have hk2:(i+1) % n<n:=Nat.mod_lt _ (by omega)
 have hk3:((i+1) % n+1) % n<n:=Nat.mod_lt _ (by omega)
 have hback:((i+n-1) % n+1) % n=i:=by
  by_cases e:i=0
  ·subst e;rw[Nat.zero_add,Nat.mod_eq_of_lt (show n-1<n by omega),show n-1+1=n by omega,Nat.mod_self]
  ·rw[show i+n-1=(i-1)+n by omega,Nat.add_mod_right,Nat.mod_eq_of_lt (show i-1<n by omega),show i-1+1=i by omega,Nat.mod_eq_of_lt h1]
 have d1:(i+1) % n≠(i+n-1) % n:=by
  by_cases e:i=0
  ·subst e;rw[Nat.zero_add,Nat.zero_add,Nat.mod_eq_of_lt (show 1<n by omega),Nat.mod_eq_of_lt (show n-1<n by omega)];omega
  ·rw[show i+n-1=(i-1)+n by omega,Nat.add_mod_right,Nat.mod_eq_of_lt (show i-1<n by omega)]
   by_cases e2:i+1=n
   ·rw[e2,Nat.mod_self];omega
   ·rw[Nat.mod_eq_of_lt (by omega)];omega
 have d2:(i+1) % n≠i:=by
  by_cases e2:i+1=n
  ·rw[e2,Nat.mod_self];omega
  ·rw[Nat.mod_eq_of_lt (by omega)];omega
 have d3:((i+1) % n+1) % n≠i:=by
  by_cases e2:i+1=n
  ·rw[e2,Nat.mod_self,Nat.zero_add,Nat.mod_eq_of_lt (by omega)];omega
  ·rw[Nat.mod_eq_of_lt (show i+1<n by omega)]
   by_cases e3:i+1+1=n
   ·rw[e3,Nat.mod_self];omega
   ·rw[Nat.mod_eq_of_lt (by omega)];omega
 have d4:((i+1) % n+1) % n≠(i+1) % n:=by
  generalize (i+1) % n=k at hk2
  by_cases e2:k+1=n
  ·rw[e2,Nat.mod_self];omega
  ·rw[Nat.mod_eq_of_lt (by omega)];omega
 have r1:=hround _ hk1 _ hk2 d1 (by rw[hback];exact d2)
 have r2:=hround i h1 _ hk3 d3 d4;have g1:=hon _ hk1;have g2:=hon _ hk2;have key:=X6b (Xf l i) (Xf l ((i+1) % n)) (Xf l ((i+n-1) % n)) (Xf l (((i+1) % n+1) % n)) a q (-WY l i a) (WY l i q-WY l i a)
  (by unfold WY;rw[hL]) (by unfold WY;rw[hL]) h2 (by have:=hqn i h1;omega) (by rw[hback]at r1;exact r1) r2
  (by
   have:∀z,WY l ((i+n-1) % n) z=X1 (X0 (Xf l i) (Xf l ((i+n-1) % n))) (X0 z (Xf l ((i+n-1) % n))):=fun z=>by unfold WY;rw[hL,hback]
   rw[this,this]at g1;exact g1)
  (by
   have:∀z,WY l ((i+1) % n) z=X1 (X0 (Xf l (((i+1) % n+1) % n)) (Xf l ((i+1) % n))) (X0 z (Xf l ((i+1) % n))):=fun z=>by unfold WY;rw[hL]
   rw[this,this]at g2;exact g2)
 refine⟨i,h1,by omega,key.1,key.2.1,?_⟩
 have e:=key.2.2;rw[Int.neg_mul_neg]at e;exact e
end Nore
open Go Go.Ab
namespace Nore
def X6g (a:Point) (r:Int) (c d:Point):Bool :=
 if XM (X0 d c) (X0 a c)<0 then decide (XM (X0 a c) (X0 a c)<r*r)
 else if XM (X0 d c) (X0 a c)>XM (X0 d c) (X0 d c)then decide (XM (X0 (X0 a c) (X0 d c)) (X0 (X0 a c) (X0 d c))<r*r)
 else decide (X1 (X0 d c) (X0 a c)*X1 (X0 d c) (X0 a c)<r*r*XM (X0 d c) (X0 d c))
def X40 (a:Point) (r:Int):Point→Bool→List Point→Bool
 | _,on,[]=>on
 | c,on,d::l=>if 0≤X1 (X0 d c) (X0 a c)then X40 a r d on l else if X6g a r c d then true else X40 a r d false l
def X5Z (s:CtSand) (a:Point) (r:Int):Bool:=X40 a r (s.Hz2.getD (s.Hz2.length-1) P0) true s.Hz2
theorem X4y (p q:Point) (h1 : -2000000≤p.X∧p.X≤2000000) (h2 : -2000000≤p.Y∧p.Y≤2000000) (h3 : -2000000≤q.X∧q.X≤2000000) (h4 : -2000000≤q.Y∧q.Y≤2000000):X1u p q=some (XM p q):=by
 rw[X3G];unfold X1k XM;have m1:=X25 2000000 2000000 h1.1 h1.2 h3.1 h3.2;have m2:=X25 2000000 2000000 h2.1 h2.2 h4.1 h4.2;rw[w64 (x:=p.X*q.X),w64 (x:=p.Y*q.Y),w64]<;>omega
theorem X4X (s:CtSand) (a:Point) (r:Int) (hs:X2K s) (ha:Bd 10500 a) (hr:0≤r∧r≤5000):X1l ⟨s⟩ a r=some (X5Z s a r):=by
 obtain⟨hl,hf,_,_⟩:=hs;rw[X2O];unfold Wp X5Z;have hw:IntKind.wrap .i64 ((s.Hz2.length:Int)-1)=(s.Hz2.length:Int)-1:=by rw[w64]<;>omega
 have ht:((s.Hz2.length:Int)-1).toNat=s.Hz2.length-1:=by omega
 have h1:decide ((0:Int)≤(s.Hz2.length:Int)-1)=true:=by rw[decide_eq_true_eq];omega
 have h2:decide ((s.Hz2.length:Int)-1<(s.Hz2.length:Int))=true:=by rw[decide_eq_true_eq];omega
 simp only[hw,ht,h1,h2,Bool.and_self,cond_true];have hlast:Bd 10000 (s.Hz2.getD (s.Hz2.length-1) P0):=by
  rw[X3 _ _ _ (by omega)];exact X2i hf _ (by omega)
 have rr:=X25 5000 5000 (a:=r) (b:=r) (by omega) (by omega) (by omega) (by omega)
 have w0:IntKind.wrap .i64 (r*r)=r*r:=by rw[w64]<;>omega
 unfold X1d;have gen:∀(n i:Nat) (last:Point) (on:Bool),i+n=s.Hz2.length→Bd 10000 last →
   Option.bind (Z9k (Xs (↑s.Hz2.length) s.Hz2 a r) ((i:Int),last,on)) (fun o176=>Sum.elim (fun y177=>some y177.snd.fst) (fun y178=>Sum.elim (fun y179=>some y179.snd.fst) (fun y180=>Sum.elim (fun y181=>some y181.snd.fst) (fun y182=>some y182.snd) y180) y178) o176)=some (X40 a r last on (s.Hz2.drop i)):=by
  intro n
  induction n with
  | zero =>
   intro i last on hi hb;rw[X31,List.drop_eq_nil_of_le (by omega)]
   have d1:decide ((i:Int)<↑s.Hz2.length)=false:=by rw[decide_eq_false_iff_not];omega
   simp only[Xs,XE,d1,cond_false,jS,Sum.elim_inr,X40]
  | succ n ih =>
   intro i last on hi hb;have hi2:i<s.Hz2.length:=by omega
   have bp:=X2i hf i hi2;have bp':=bp;have hb':=hb;unfold Bd at bp hb ha;rw[X31,List.drop_eq_getElem_cons hi2];simp only[Xs,XE];rw[kS,X3 _ _ _ hi2,X2w i (by omega)]
   have ih1:=fun on=>ih (i+1) s.Hz2[i] on (by omega) bp'
   generalize s.Hz2[i]=d at *;rw[X1w 10000 (by omega) (a:=d.X) ⟨bp.1,bp.2.1⟩ ⟨hb.1,hb.2.1⟩,X1w 10000 (by omega) (a:=d.Y) bp.2.2 hb.2.2,X1w 10500 (by omega) (a:=a.X) ⟨ha.1,ha.2.1⟩ (by omega),X1w 10500 (by omega) (a:=a.Y) ha.2.2 (by omega)]
   rw[X1w 30500 (by omega) (a:=a.X-last.X) (b:=d.X-last.X) (by omega) (by omega),X1w 30500 (by omega) (a:=a.Y-last.Y) (b:=d.Y-last.Y) (by omega) (by omega)]
   rw[X4I 2000000 rfl (by omega) (by omega) (by omega) (by omega),w0]
   rw[X4y ⟨d.X-last.X,d.Y-last.Y⟩ ⟨d.X-last.X,d.Y-last.Y⟩ (by simp only;omega) (by simp only;omega) (by simp only;omega) (by simp only;omega),
    X4y ⟨d.X-last.X,d.Y-last.Y⟩ ⟨a.X-last.X,a.Y-last.Y⟩ (by simp only;omega) (by simp only;omega) (by simp only;omega) (by simp only;omega),
    X4y ⟨a.X-last.X,a.Y-last.Y⟩ ⟨a.X-last.X,a.Y-last.Y⟩ (by simp only;omega) (by simp only;omega) (by simp only;omega) (by simp only;omega),
    X4y ⟨a.X-last.X-(d.X-last.X),a.Y-last.Y-(d.Y-last.Y)⟩ ⟨a.X-last.X-(d.X-last.X),a.Y-last.Y-(d.Y-last.Y)⟩ (by simp only;omega) (by simp only;omega) (by simp only;omega) (by simp only;omega)]
   have d1:decide ((i:Int)<↑s.Hz2.length)=true:=by rw[decide_eq_true_eq];omega
   have d2:=z0S i;simp only[d1,d2,Bool.and_self,cond_true,jS];have l1:=X25 20000 20500 (a:=d.X-last.X) (b:=a.Y-last.Y) (by omega) (by omega) (by omega) (by omega)
   have l2:=X25 20000 20500 (a:=d.Y-last.Y) (b:=a.X-last.X) (by omega) (by omega) (by omega) (by omega)
   have q1:=X25 20000 20000 (a:=d.X-last.X) (b:=d.X-last.X) (by omega) (by omega) (by omega) (by omega)
   have q2:=X25 20000 20000 (a:=d.Y-last.Y) (b:=d.Y-last.Y) (by omega) (by omega) (by omega) (by omega)
   have eL:(d.X-last.X)*(a.Y-last.Y)-(d.Y-last.Y)*(a.X-last.X)=X1 (X0 d last) (X0 a last):=rfl;have eD:XM ⟨d.X-last.X,d.Y-last.Y⟩ ⟨d.X-last.X,d.Y-last.Y⟩=XM (X0 d last) (X0 d last):=rfl;have eW:XM ⟨d.X-last.X,d.Y-last.Y⟩ ⟨a.X-last.X,a.Y-last.Y⟩=XM (X0 d last) (X0 a last):=rfl;have eT:XM ⟨a.X-last.X,a.Y-last.Y⟩ ⟨a.X-last.X,a.Y-last.Y⟩=XM (X0 a last) (X0 a last):=rfl;have eE:XM ⟨a.X-last.X-(d.X-last.X),a.Y-last.Y-(d.Y-last.Y)⟩ ⟨a.X-last.X-(d.X-last.X),a.Y-last.Y-(d.Y-last.Y)⟩=XM (X0 (X0 a last) (X0 d last)) (X0 (X0 a last) (X0 d last)):=rfl;have bD : -800000000≤XM (X0 d last) (X0 d last)∧XM (X0 d last) (X0 d last)≤800000000:=by rw[←eD];unfold XM;simp only;omega
   have bL : -900000000≤X1 (X0 d last) (X0 a last)∧X1 (X0 d last) (X0 a last)≤900000000:=by rw[←eL];omega
   rw[eL,eD,eW,eT,eE];have ll:=X25 900000000 900000000 bL.1 bL.2 bL.1 bL.2;have rd:=X25 25000000 800000000 (a:=r*r) (b:=XM (X0 d last) (X0 d last)) (by omega) (by omega) bD.1 bD.2
   have w1:IntKind.wrap .i64 (r*r*1)=r*r:=by rw[Int.mul_one];exact w0
   have w2:IntKind.wrap .i64 (X1 (X0 d last) (X0 a last)*X1 (X0 d last) (X0 a last))=X1 (X0 d last) (X0 a last)*X1 (X0 d last) (X0 a last):=by rw[w64]<;>omega
   have w3:IntKind.wrap .i64 (r*r*XM (X0 d last) (X0 d last))=r*r*XM (X0 d last) (X0 d last):=by rw[w64]<;>omega
   rw[w1,w2,w3];simp only[X40,X6g]
   by_cases c1:0≤X1 (X0 d last) (X0 a last)
   ·have:decide (X1 (X0 d last) (X0 a last)≥0)=true:=by rw[decide_eq_true_eq];exact c1
    simp only[this,cond_true,jS,Sum.elim_inl,if_pos c1];exact ih1 on
   ·have:decide (X1 (X0 d last) (X0 a last)≥0)=false:=by rw[decide_eq_false_iff_not];exact c1
    simp only[this,cond_false,if_neg c1]
    by_cases c2:XM (X0 d last) (X0 a last)<0
    ·simp only[c2,decide_true,cond_true,if_true]
     by_cases c3:XM (X0 a last) (X0 a last)<r*r
     ·simp[c3]
     ·simp only[c3,decide_false,cond_false,jS,Sum.elim_inl,Bool.false_eq_true,if_false];exact ih1 false
    ·simp only[c2,decide_false,cond_false,if_false]
     by_cases c4:XM (X0 d last) (X0 a last)>XM (X0 d last) (X0 d last)
     ·simp only[c4,decide_true,cond_true,if_true]
      by_cases c3:XM (X0 (X0 a last) (X0 d last)) (X0 (X0 a last) (X0 d last))<r*r
      ·simp[c3]
      ·simp only[c3,decide_false,cond_false,jS,Sum.elim_inl,Bool.false_eq_true,if_false];exact ih1 false
     ·simp only[c4,decide_false,cond_false,if_false]
      by_cases c3:X1 (X0 d last) (X0 a last)*X1 (X0 d last) (X0 a last)<r*r*XM (X0 d last) (X0 d last)
      ·simp[c3]
      ·simp only[c3,decide_false,cond_false,jS,Sum.elim_inl,Bool.false_eq_true,if_false];exact ih1 false
 exact gen s.Hz2.length 0 _ true (by omega) hlast
end Nore
open Go Go.Ab
namespace Nore
theorem X3O {σ ω:Type} (st:σ→Option (σ⊕ω)) (s:σ):Z9k st s=Option.bind (st s) (Sum.elim (fun s'=>Z9k st s') some):=by
 have:=X31 st some s;rw[X2L]at this;rw[this];congr 1;funext o;cases o with
 | inl s'=>exact X2L _
 | inr w=>rfl
def X3y (s:CtSand) (at_:Point) (r:Int) (mv:Point):Bool:=X5Z s (X0 at_ mv) r
def X47 (c:Zp) (at_:Point) (r:Int):Bool:=c.Hzb.any fun s=>(X4 s.Hzc).any (X3y s at_ r)
theorem X6v (s:CtSand) (at_:Point) (r:Int) (hs:X2K s) (ha:Bd 10000 at_) (hr:0≤r∧r≤5000) (x y:Int) (hx : -500≤x∧x≤500) (hy : -500≤y∧y≤500) :
  X1l ⟨s⟩ ⟨IntKind.wrap .i64 (at_.X-x),IntKind.wrap .i64 (at_.Y-y)⟩ r=some (X3y s at_ r ⟨x,y⟩):=by
 unfold Bd at ha;rw[X1w 10000 (by omega) (a:=at_.X) (b:=x) (by omega) (by omega),X1w 10000 (by omega) (a:=at_.Y) (b:=y) (by omega) (by omega)]
 exact X4X s ⟨at_.X-x,at_.Y-y⟩ r hs (by unfold Bd;simp only;omega) hr
theorem X5C (s:CtSand) (at_:Point) (r:Int) (hs:X2K s) (ha:Bd 10000 at_) (hr:0≤r∧r≤5000) (x:Int) (hx : -500≤x∧x≤500) :
  ∀(n:Nat) (y:Int) (j:Point),(s.Hzc.Y.Hi+1-y).toNat=n → -500≤y→∃o,Z9k (XS x r at_ ⟨s⟩) (y,j)=some o ∧
   (((X28 x y s.Hzc.Y.Hi).any (X3y s at_ r)=true∧∃mv,o=.inl (true,mv))∨((X28 x y s.Hzc.Y.Hi).any (X3y s at_ r)=false∧∃mv,o=.inr mv)):=by
 have hmv:=X2V hs.box;intro n
 induction n with
 | zero =>
  intro y j hn hy;refine⟨.inr j,?_,.inr ⟨by rw[X4d (by omega)];rfl,j,rfl⟩⟩
  have d1:decide (y≤s.Hzc.Y.Hi)=false:=by rw[decide_eq_false_iff_not];omega
  rw[X3O];simp only[XS,W5,d1,cond_false,jS,Sum.elim_inr]
 | succ n ih =>
  intro y j hn hy;have hle:y≤s.Hzc.Y.Hi:=by omega
  have d1:decide (y≤s.Hzc.Y.Hi)=true:=by rw[decide_eq_true_eq];exact hle
  have hw:IntKind.wrap .i64 (y+1)=y+1:=by rw[w64]<;>omega
  rw[X3O,X3T hle];simp only[XS,W5,d1,cond_true,X6v s at_ r hs ha hr x y hx (by omega),jS,hw,List.any_cons]
  cases hq:X3y s at_ r ⟨x,y⟩with
  | true=>exact⟨_,rfl,.inl ⟨rfl,_,rfl⟩⟩
  | false =>
   obtain⟨o,h1,h2⟩:=ih (y+1) ⟨x,y⟩ (by omega) (by omega)
   refine⟨o,h1,?_⟩;simpa only[Bool.false_or]using h2
theorem X5B (s:CtSand) (at_:Point) (r:Int) (hs:X2K s) (ha:Bd 10000 at_) (hr:0≤r∧r≤5000) :
  ∀(n:Nat) (x:Int) (j:Point),(s.Hzc.X.Hi+1-x).toNat=n → -500≤x→∃o,Z9k (XR r at_ ⟨s⟩) (x,j)=some o ∧
   (((X8 x s.Hzc).any (X3y s at_ r)=true∧∃mv,o=.inl (true,mv))∨((X8 x s.Hzc).any (X3y s at_ r)=false∧∃mv,o=.inr mv)):=by
 have hmv:=X2V hs.box;intro n
 induction n with
 | zero =>
  intro x j hn hx;refine⟨.inr j,?_,.inr ⟨by rw[X1o (by omega)];rfl,j,rfl⟩⟩
  have d1:decide (x≤s.Hzc.X.Hi)=false:=by rw[decide_eq_false_iff_not];omega
  rw[X3O];simp only[XR,W4,d1,cond_false,jS,Sum.elim_inr]
 | succ n ih =>
  intro x j hn hx;have hle:x≤s.Hzc.X.Hi:=by omega
  have d1:decide (x≤s.Hzc.X.Hi)=true:=by rw[decide_eq_true_eq];exact hle
  have hw:IntKind.wrap .i64 (x+1)=x+1:=by rw[w64]<;>omega
  obtain⟨o,h1,h2⟩:=X5C s at_ r hs ha hr x (by omega) _ s.Hzc.Y.Lo j rfl (by omega)
  rw[X3O,X16 hle];simp only[XR,W4,X1K,d1,cond_true,h1,jS,hw,List.any_append];rcases h2 with⟨h3,mv,rfl⟩|⟨h3,mv,rfl⟩
  ·exact⟨_,rfl,.inl ⟨by rw[h3];rfl,_,rfl⟩⟩
  ·obtain⟨o,h4,h5⟩:=ih (x+1) mv (by omega) (by omega)
   refine⟨o,h4,?_⟩;rw[h3];simpa only[Bool.false_or]using h5
theorem X37 (c:Zp) (at_:Point) (r:Int) (hc:(WW c).2.2=0) (ha:Bd 10000 at_) (hr:1≤r∧r≤5000) :
  ∃i mv,X23 c at_ r=some (i,mv,X47 c at_ r)∧(X47 c at_ r=false→i=0∧mv=⟨0,0⟩):=by
 obtain⟨hl,hs⟩:=X3I hc;rw[X3v];unfold X14 X1I;rw[X1V (show r≠0 by omega)]
 simp only[cond_false];have gen:∀(n i:Nat) (j:Point),i+n=c.Hzb.length→∃o,Z9k (XB (↑c.Hzb.length) r c.Hzb at_) ((i:Int),j)=some o ∧
   (((c.Hzb.drop i).any (fun s=>(X4 s.Hzc).any (X3y s at_ r))=true∧∃k s mv t,o=.inl (true,k,s,mv,t))∨((c.Hzb.drop i).any (fun s=>(X4 s.Hzc).any (X3y s at_ r))=false∧∃mv,o=.inr mv)):=by
  intro n
  induction n with
  | zero =>
   intro i j hi;refine⟨.inr j,?_,.inr ⟨by rw[List.drop_eq_nil_of_le (by omega)];rfl,j,rfl⟩⟩
   have d1:decide ((i:Int)<↑c.Hzb.length)=false:=by rw[decide_eq_false_iff_not];omega
   rw[X3O];simp only[XB,W3,d1,cond_false,jS,Sum.elim_inr]
  | succ n ih =>
   intro i j hi;have hi2:i<c.Hzb.length:=by omega
   have hsi:=hs c.Hzb[i] (List.getElem_mem hi2);have hmv:=X2V hsi.box;obtain⟨o,h1,h2⟩:=X5B c.Hzb[i] at_ r hsi ha (by omega) _ c.Hzb[i].Hzc.X.Lo j rfl (by omega)
   rw[X3O,List.drop_eq_getElem_cons hi2];have d1:decide ((i:Int)<↑c.Hzb.length)=true:=by rw[decide_eq_true_eq];omega
   have d2:=z0S i;simp only[XB,W3,X1J,d1,d2,Bool.and_self,cond_true,kS,X3 _ _ _ hi2,X2w i (by omega),h1,jS,List.any_cons]
   rcases h2 with⟨h3,mv,rfl⟩|⟨h3,mv,rfl⟩
   ·refine⟨_,rfl,.inl ⟨?_,_,_,_,_,rfl⟩⟩;show((X8 _ _).any _||_)=true;rw[h3];rfl
   ·obtain⟨o,h4,h5⟩:=ih (i+1) mv (by omega)
    refine⟨o,h4,?_⟩;have h3':(X4 c.Hzb[i].Hzc).any (X3y c.Hzb[i] at_ r)=false:=h3;rw[h3'];simpa only[Bool.false_or]using h5
 obtain⟨o,h1,h2⟩:=gen c.Hzb.length 0 ⟨0,0⟩ (by omega)
 have h1':Z9k (XB (↑c.Hzb.length) r c.Hzb at_) (0,⟨0,0⟩)=some o:=h1;rw[h1'];rw[List.drop_zero]at h2;rcases h2 with⟨h3,k,s,mv,t,rfl⟩|⟨h3,mv,rfl⟩
 ·refine⟨k,mv,?_,fun h=>?_⟩
  ·show some _=some (_,_,X47 c at_ r);rw[show X47 c at_ r=true from h3]
  ·rw[show X47 c at_ r=true from h3]at h;cases h
 ·refine⟨0,⟨0,0⟩,?_,fun _=>⟨rfl,rfl⟩⟩;show some _=some (_,_,X47 c at_ r);rw[show X47 c at_ r=false from h3]
theorem X4i (c:Zp) (at_:Point) (r:Int) (hc:(WW c).2.2=0) (ha:Bd 10000 at_) (hr:1≤r∧r≤5000) :
  ∃i mv e,X34 c at_ r=some (i,mv,e)∧((X47 c at_ r=true∧e=0)∨(X47 c at_ r=false∧e=4)):=by
 rw[X3D];unfold X1j;have ho:X3K c at_=0:=by
  unfold X3K;rw[if_pos hc];have:X2f 10000 at_=false:=by rw[X45];exact ha
  rw[this];rfl
 rw[X3Y,ho,Ww _ _ _ (by simp)]
 have hout:XK 0 5000 [r]=false:=by simp[XK];omega
 obtain⟨i,mv,h1,h2⟩:=X37 c at_ r hc ha hr;simp only[jS,bne_self_eq_false,cond_false,hout,h1];cases hq:X47 c at_ r with
 | true=>exact⟨i,mv,0,rfl,.inl ⟨rfl,rfl⟩⟩
 | false=>exact⟨0,⟨0,0⟩,4,rfl,.inr ⟨rfl,rfl⟩⟩
end Nore
open Go Go.Ab
namespace Nore
theorem X43 (a:Point) (r:Int):∀(l:List Point) (c:Point) (on:Bool),X40 a r c on l=false →
  X1S (fun c d=>decide (0≤X1 (X0 d c) (X0 a c)) || !X6g a r c d) c l=true∧(on=true→X1S (fun c d=>decide (0≤X1 (X0 d c) (X0 a c))) c l=false)
 | [],c,on,h=>by
  simp only[X40]at h;subst h;exact⟨rfl,fun h=>by cases h⟩
 | d::l,c,on,h=>by
  simp only[X40]at h
  by_cases c1:0≤X1 (X0 d c) (X0 a c)
  ·rw[if_pos c1]at h;obtain⟨h1,h2⟩:=X43 a r l d on h;simp only[X1S,h1,Bool.and_true,decide_eq_true c1,Bool.true_or,Bool.true_and];exact⟨trivial,h2⟩
  ·rw[if_neg c1]at h;cases hq:X6g a r c d with
   | true=>rw[hq]at h;simp at h
   | false =>
    rw[hq]at h;simp only[Bool.false_eq_true,if_false]at h;obtain⟨h1,_⟩:=X43 a r l d false h;simp only[X1S,h1,hq,Bool.and_true,decide_eq_false c1,Bool.false_or,Bool.not_false,Bool.false_and];exact⟨trivial,fun _=>trivial⟩
theorem X5D (s:CtSand) (mv p a:Point) (r:Int) (hs:X2K s) (hon:X2r s mv p=true) (hd:(p.X-a.X)*(p.X-a.X)+(p.Y-a.Y)*(p.Y-a.Y)<r*r):X3y s a r mv=true:=by
 obtain⟨hl,_,_,hround⟩:=hs;unfold X3y X5Z;cases hn:X40 (X0 a mv) r (s.Hz2.getD (s.Hz2.length-1) P0) true s.Hz2 with
 | true=>rfl
 | false =>
  exfalso;obtain⟨h1,h2⟩:=X43 _ _ _ _ _ hn;have h2:=h2 rfl;rw[X4S _ _ (by omega)]at h1 h2
  unfold X2r at hon;unfold X3M at hround;generalize s.Hz2=l at *;rw[X1U]at h1 hon hround;have hq:∀i,i<l.length→0≤WY l i (X0 p mv):=fun i hi=>by
   have:=hon i (Nat.zero_le _) (by omega)
   unfold X4j at this;exact of_decide_eq_true this
  have hex:∃i,i<l.length∧WY l i (X0 a mv)<0:=by
   apply Classical.byContradiction;intro hno;have:WZ (fun i=>decide (0≤X1 (X0 (l.getD ((i+1) % l.length) P0) (l.getD i P0)) (X0 (X0 a mv) (l.getD i P0)))) 0 l.length=true:=by
    rw[X1U];intro i _ hi;rw[decide_eq_true_eq];rcases Int.lt_or_le (WY l i (X0 a mv)) 0 with h|h
    ·exact absurd ⟨i,by omega,h⟩ hno
    ·exact h
   rw[this]at h2;cases h2
  obtain⟨i,hi,g1,g2,g3,g4⟩:=X68 l hl.1 (fun i hi m hm a1 a2=>by
   have:=hround i (Nat.zero_le _) (by omega)
   unfold X4R at this;rw[X1U]at this;have:=this m (Nat.zero_le _) (by omega)
   simp only[Bool.or_eq_true,beq_iff_eq,decide_eq_true_eq]at this;rcases this with(h|h)|h
   ·exact absurd h a1
   ·exact absurd h a2
   ·exact h) (X0 a mv) (X0 p mv) hq hex
  have hK:XM (X0 (X0 p mv) (X0 a mv)) (X0 (X0 p mv) (X0 a mv))=(p.X-a.X)*(p.X-a.X)+(p.Y-a.Y)*(p.Y-a.Y):=by
   simp only[XM,X0];rw[show p.X-mv.X-(a.X-mv.X)=p.X-a.X by omega,show p.Y-mv.Y-(a.Y-mv.Y)=p.Y-a.Y by omega]
  have hside:=h1 i (Nat.zero_le _) (by omega)
  have g1':¬0≤X1 (X0 (l.getD ((i+1) % l.length) P0) (l.getD i P0)) (X0 (X0 a mv) (l.getD i P0)):=by
   have:X1 (X0 (l.getD ((i+1) % l.length) P0) (l.getD i P0)) (X0 (X0 a mv) (l.getD i P0))=WY l i (X0 a mv):=rfl;omega
  simp only[decide_eq_false g1',Bool.false_or,Bool.not_eq_true']at hside;rw[hK]at g2 g3 g4;unfold X6g at hside;change (if XM (X0 (Xf l ((i+1) % l.length)) (Xf l i)) (X0 (X0 a mv) (Xf l i))<0 then decide (XM (X0 (X0 a mv) (Xf l i)) (X0 (X0 a mv) (Xf l i))<r*r)else if XM (X0 (Xf l ((i+1) % l.length)) (Xf l i)) (X0 (X0 a mv) (Xf l i))>XM (X0 (Xf l ((i+1) % l.length)) (Xf l i)) (X0 (Xf l ((i+1) % l.length)) (Xf l i))then decide (XM (X0 (X0 (X0 a mv) (Xf l i)) (X0 (Xf l ((i+1) % l.length)) (Xf l i))) (X0 (X0 (X0 a mv) (Xf l i)) (X0 (Xf l ((i+1) % l.length)) (Xf l i)))<r*r)else decide (WY l i (X0 a mv)*WY l i (X0 a mv)<r*r*XM (X0 (Xf l ((i+1) % l.length)) (Xf l i)) (X0 (Xf l ((i+1) % l.length)) (Xf l i))))=false at hside
  split at hside
  ·rename_i c1;have:=g2 c1;have:=of_decide_eq_false hside;omega
  ·split at hside
   ·rename_i c1;have:=g3 c1;have:=of_decide_eq_false hside;omega
   ·have hno:=of_decide_eq_false hside;have k0:0≤XM (X0 (Xf l ((i+1) % l.length)) (Xf l i)) (X0 (Xf l ((i+1) % l.length)) (Xf l i)):=by
     have q1:=X3S (X0 (Xf l ((i+1) % l.length)) (Xf l i)).X;have q2:=X3S (X0 (Xf l ((i+1) % l.length)) (Xf l i)).Y;unfold XM;omega
    generalize XM (X0 (Xf l ((i+1) % l.length)) (Xf l i)) (X0 (Xf l ((i+1) % l.length)) (Xf l i))=L at *;have k1:0<WY l i (X0 a mv)*WY l i (X0 a mv):=by
     have:=Int.mul_pos (show 0 < -WY l i (X0 a mv) by omega) (show 0 < -WY l i (X0 a mv) by omega)
     rwa [Int.neg_mul_neg]at this
    have k2:0<L:=by
     rcases Int.lt_or_le 0 L with h|h
     ·exact h
     ·have:L=0:=by omega
      subst this;rw[Int.mul_zero]at g4;omega
    have k3:=Int.mul_lt_mul_of_pos_right hd k2;omega
theorem X5t (at_:Point):∀(l:List CtSand) (i:Nat),(onL at_ i l).2≠[]→∃s,s∈l∧X4m s at_=true
 | [],_,h=>absurd rfl h
 | t::l,i,hn=>by
  have e:(onL at_ i (t::l)).2=if X4m t at_ then(i:Int)::(onL at_ (i+1) l).2 else(onL at_ (i+1) l).2:=rfl
  by_cases ht:X4m t at_=true
  ·exact⟨t,List.mem_cons_self ..,ht⟩
  ·rw[e,if_neg ht]at hn;obtain⟨s,h1,h2⟩:=X5t at_ l _ hn;exact⟨s,List.mem_cons_of_mem _ h1,h2⟩
theorem X62 (m:SgMooring) (hc:(WW m.Hz9).2.2=0) (hr:0≤m.Ring.Hi∧m.Ring.Hi≤200) (az:List Point) (ha:∀a,a∈az→Bd 9000 a) (hl:az.length<1000000) :
  ∀(n i:Nat),i+n=az.length→(∃p,Z9k (X5 az m) (i:Int)=some (.inl (true,p)))∨(Z9k (X5 az m) (i:Int)=some (.inr ())∧∀a,a∈az.drop i→X47 m.Hz9 a (m.Ring.Hi+1)=false):=by
 have hw:IntKind.wrap .i64 (m.Ring.Hi+1)=m.Ring.Hi+1:=by rw[w64]<;>omega
 intro n
 induction n with
 | zero =>
  intro i hi;refine .inr ⟨?_,fun a h=>by rw[List.drop_eq_nil_of_le (by omega)]at h;cases h⟩
  have d1:decide ((i:Int)<↑az.length)=false:=by rw[decide_eq_false_iff_not];omega
  rw[X3O];simp only[X5,Xx,d1,cond_false,jS,Sum.elim_inr]
 | succ n ih =>
  intro i hi;have hi2:i<az.length:=by omega
  have d1:decide ((i:Int)<↑az.length)=true:=by rw[decide_eq_true_eq];omega
  have d2:=z0S i;have hb:=ha az[i] (List.getElem_mem hi2);obtain⟨k,mv,e,h1,h2⟩:=X4i m.Hz9 az[i] (m.Ring.Hi+1) hc (by unfold Bd at *;omega) (by omega)
  rw[X3O,List.drop_eq_getElem_cons hi2];simp only[X5,Xx,d1,d2,Bool.and_self,cond_true,kS,X3 _ _ _ hi2,hw,X2w i (by omega)]
  rw[h1];rcases h2 with⟨h3,rfl⟩|⟨h3,rfl⟩
  ·exact .inl ⟨mv,rfl⟩
  ·rcases ih (i+1) (by omega)with⟨p,h4⟩|⟨h4,h5⟩
   ·exact .inl ⟨p,h4⟩
   ·refine .inr ⟨h4,fun a h=>?_⟩;rcases List.mem_cons.1 h with rfl|h
    ·exact h3
    ·exact h5 a h
theorem X4W (m:SgMooring) (l:List ZD) (x:ZD):X1D m l x=some true:=by
 rw[X2x];unfold W7 X17;rw[X2B,X2B];simp only[jS]
 by_cases h:(X2 m l).2=0
 ·rw[h];simp only[bne_self_eq_false,cond_false]
  by_cases h2:(X2 m [x]).2=0
  ·rw[h2];simp only[bne_self_eq_false,cond_false];rw[X5f h];simp only[jS,bne_self_eq_false,cond_false];have ok:=WV h;have hring:=ok.ring;unfold X4z at hring;have hbd:∀a,a∈X1P m l (X4 m.Anchor)→Bd 9000 a:=fun a ha=>X49 ok.anchor (List.mem_filter.1 ha).1;have hlen:(X1P m l (X4 m.Anchor)).length<1000000:=by
    have h4:=X2g ok.anchor;have h5:=List.length_filter_le (fun a=>l.all fun x=>X1z m x a) (X4 m.Anchor);unfold X1P;omega
   rcases X62 m ok.chart (by omega) _ hbd hlen _ 0 (Nat.zero_add _)with⟨p,h3⟩|⟨h3,h4⟩
   ·have h3':Z9k (X5 (X1P m l (X4 m.Anchor)) m) 0=_:=h3;rw[h3'];rfl
   ·have h3':Z9k (X5 (X1P m l (X4 m.Anchor)) m) 0=_:=h3;rw[h3',X4v];simp only[jS,Sum.elim_inr];rw[List.drop_zero]at h4;unfold X5h
    by_cases hp:(W1 m l x).2=0
    ·rw[if_pos hp];obtain⟨_,_,_,hpl⟩:=X5c m l x hp;rcases X4n m (W1 m l x).1 with⟨e1,_⟩|⟨e1,e2,e3⟩
     ·rw[e1];rfl
     ·rw[e1];simp only[beq_self_eq_true,cond_true];rcases e3 with⟨k,ks,e4,e5⟩|⟨e4,e5,e6⟩
      ·exfalso;have hpb:=(hpl _ e2).2;have hin:=e2;generalize (XG m (W1 m l x).1).1=pp at hpb hin e4;rw[X6w ok.chart hpb]at e4;obtain⟨s,s1,s2⟩:=X5t _ _ 0 (show(onL pp 0 m.Hz9.Hzb).2≠[] by simp only at e4;rw[e4];simp)
       unfold X4m at s2;obtain⟨mv,t1,t2⟩:=List.any_eq_true.1 s2;unfold W1 at hin;rw[if_pos h,if_pos h2]at hin;split at hin
       ·cases hin
       ·simp only at hin;obtain⟨_,hany⟩:=List.mem_filter.1 hin;obtain⟨a,ha,hcan⟩:=List.any_eq_true.1 hany;have hcl:=h4 a ha;have hs:=(X3I ok.chart).2 s s1;have hd:(pp.X-a.X)*(pp.X-a.X)+(pp.Y-a.Y)*(pp.Y-a.Y)<(m.Ring.Hi+1)*(m.Ring.Hi+1):=by
         unfold X3j inN at hcan;simp only[Bool.and_eq_true,decide_eq_true_eq]at hcan;have:=hcan.1.1.1.2;have e:(m.Ring.Hi+1)*(m.Ring.Hi+1)=m.Ring.Hi*m.Ring.Hi+2*m.Ring.Hi+1:=by
          rw[Int.add_mul,Int.mul_add];omega
         rw[e];refine Int.lt_of_le_of_lt this ?_;omega
        have hnear:=X5D s mv _ a (m.Ring.Hi+1) hs t2 hd;have:X47 m.Hz9 a (m.Ring.Hi+1)=true:=by
         unfold X47;exact List.any_eq_true.2 ⟨s,s1,List.any_eq_true.2 ⟨mv,t1,hnear⟩⟩
        rw[this]at hcl;cases hcl
      ·rw[e5];obtain⟨w1,w2⟩:=X6l ok.near _ (hpl _ e2).2;rw[w1,w2];have:decide ((XG m (W1 m l x).1).1.X*(XG m (W1 m l x).1).1.X+(XG m (W1 m l x).1).1.Y*(XG m (W1 m l x).1).1.Y>m.Near*m.Near)=true:=by rw[decide_eq_true_eq];exact e6
       rw[this];rfl
    ·rw[if_neg hp];have:(W1 m l x).2=9:=by
      unfold W1 at hp⊢;rw[if_pos h,if_pos h2]at hp⊢;split at hp
      ·rename_i he;rw[if_pos he]
      ·exact absurd rfl hp
     simp only[this];rfl
  ·rw[X1s h2];rfl
 ·rw[X1s h];rfl
end Nore
