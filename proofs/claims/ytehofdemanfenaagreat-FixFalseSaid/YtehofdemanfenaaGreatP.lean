/- The plain functions of the program and of the document answer alike. -/
import Derived.Test.YtehofdemanfenaaGreatD
import Derived.Test.YtehofdemanfenaaGreatY
set_option linter.unusedSectionVars false
set_option linter.unusedVariables false
set_option linter.unusedSimpArgs false
open Go Go.Ab
namespace Nore
theorem w64 {x:Int} (h1 : -9223372036854775808≤x) (h2:x≤9223372036854775807):IntKind.wrap .i64 x=x:=by
 simp only [IntKind.wrap,IntKind.signed,IntKind.bits]
 simp
 omega
theorem jS {α β:Type} (a:α) (f:α→Option β):Option.bind (some a) f=f a:=rfl
theorem kS (n:Nat):Int.toNat (n:Int)=n:=rfl
theorem wS (i:Nat) (h:i<9223372036854775807):IntKind.wrap .i64 ((i:Int)+1)=((i+1:Nat):Int):=by rw [w64]<;>omega
theorem z0S (i:Nat):decide ((0:Int)≤↑i)=true:=by simp
theorem X43 {σ ω γ:Type} (st:σ→Option (σ⊕ω)) (k:ω→Option γ) (s:σ):Option.bind (Z93 st s) k=Option.bind (st s) (Sum.elim (fun s'=>Option.bind (Z93 st s') k) k):=by
 rw [Zhk]
 cases st s with
 | none=>rfl
 | some r=>cases r<;>rfl
theorem X5 {β σ ω γ:Type} (st:σ→Option (σ⊕ω)) (k:ω→Option γ) (n:Nat) (emb:Nat→β→σ) (P:Nat→β→Prop) (nice:Nat→β→Option γ)
  (hd:∀ b,P n b→∀ R:σ→Option γ,Option.bind (st (emb n b)) (Sum.elim R k)=nice n b)
  (hn:∀ i b,i<n→P i b→∀ R:σ→Option γ,(∀ b',P (i+1) b'→R (emb (i+1) b')=nice (i+1) b')→Option.bind (st (emb i b)) (Sum.elim R k)=nice i b) :
  ∀ i b,i≤n→P i b→Option.bind (Z93 st (emb i b)) k=nice i b:=by
 intro i b hi hP
 induction hj:n-i generalizing i b with
 | zero =>
  have:i=n:=by omega
  subst this
  rw [X43];exact hd b hP _
 | succ j ih =>
  rw [X43]
  exact hn i b (by omega) hP _ fun b' hb'=>ih (i+1) b' (by omega) hb' (by omega)
theorem X2l {γ:Type} (o:Option γ):Option.bind o (fun x=>some x)=o:=by cases o<;>rfl
theorem X6i {β σ ω:Type} (st:σ→Option (σ⊕ω)) (n:Nat) (emb:Nat→β→σ) (P:Nat→β→Prop) (nice:Nat→β→Option ω)
  (hd:∀ b,P n b→∀ R:σ→Option ω,Option.bind (st (emb n b)) (Sum.elim R some)=nice n b)
  (hn:∀ i b,i<n→P i b→∀ R:σ→Option ω,(∀ b',P (i+1) b'→R (emb (i+1) b')=nice (i+1) b')→Option.bind (st (emb i b)) (Sum.elim R some)=nice i b)
  (i:Nat) (b:β) (hi:i≤n) (hP:P i b):Z93 st (emb i b)=nice i b:=by
 rw [←X2l (Z93 st (emb i b))]
 exact X5 st some n emb P nice hd hn i b hi hP
theorem X3S {a b:Int} (h:¬ a=b):(a==b)=false:=beq_eq_false_iff_ne.2 h
theorem X12 {a b:Int} (h:¬ a=b):(a != b)=true:=bne_iff_ne.2 h
theorem X1 {α:Type} (l:List α) (i:Nat) (d:α) (h:i<l.length):l.getD i d=l[i]:=by simp [List.getD,h]
def X4 (lo hi:Int) (l:List Int):Bool:=l.any fun n=>decide (n<lo)||decide (n>hi)
@[simp] theorem X6W (lo hi:Int):X4 lo hi []=false:=rfl
@[simp] theorem X4l (lo hi n:Int) (l:List Int):X4 lo hi (n::l)=(decide (n<lo)||decide (n>hi)||X4 lo hi l):=rfl
def inN (n lo hi:Int):Bool:=decide (lo≤n)&&decide (n≤hi)
theorem WQ (lo up:Int) (l:List Int) (hl:l.length<1000000):X1q lo up l=some (X4 lo up l):=by
 have key:=X5 (X1r (↑l.length) l up lo) (fun o3=>Sum.elim (fun y4:Int=>some (decide (y4≥0))) (fun _=>some (decide ((-1:Int)≥0))) o3) l.length (fun i (_:Unit)=>(i:Int)) (fun _ _=>True) (fun i _=>some (X4 lo up (l.drop i)))
  (by
   intro b _ R
   simp [X1r,X1w])
  (by
   intro i b hi _ R hR
   have hR':=hR () trivial
   simp only [X1r,X1w]
   rw [List.drop_eq_getElem_cons hi]
   simp only [kS,X1 _ _ _ hi,X4l]
   have hw:=wS i (by omega)
   rw [hw]
   have h1:decide ((i:Int)<↑l.length)=true:=by simp [hi]
   have h2:=z0S i
   simp only [h1,h2,Bool.and_self,cond_true]
   by_cases h3:l[i]<lo
   ·simp [h3]
   ·by_cases h4:l[i]>up
    ·simp [h3,h4]
    ·simp [h3,h4];exact hR')
 exact (key 0 () (by omega) trivial).trans (by simp)
theorem We (n lo hi:Int):WJ n lo hi=some (inN n lo hi):=by
 unfold WJ inN
 by_cases h:lo≤n<;>simp [h]
end Nore
open Go Go.Ab
namespace Nore
def X60:Int→List UInt8→Option Int
 | last,[]=>some last
 | last,c::l=>if 97≤(c.toNat:Int)∧(c.toNat:Int)≤122 then X60 c.toNat l else if (c.toNat:Int)≠45∨last=45 then none else X60 c.toNat l
def X4R:Option Int→Bool
 | none=>false
 | some last=>last != 45
def X61 (s:ByteArray):Bool:=decide (s.size≤14)&&X4R (X60 45 s.toList)
theorem X99 (s:ByteArray) (i:Nat) (h:(s.get! i).toNat<128):Utf8.decode s i=((s.get! i).toNat,1):=by
 unfold Utf8.decode;simp only [Nat.add_zero];rw [if_pos h]
theorem X98 (s:ByteArray) (i:Nat) (h:¬ (s.get! i).toNat<128):128≤(Utf8.decode s i).1:=by
 unfold Utf8.decode
 simp only [Nat.add_zero,Utf8.runeError]
 rw [if_neg h]
 repeat' split
 all_goals simp_all
 all_goals omega
theorem X1V (s:ByteArray):s.toList.length=s.size:=by rw [ByteArray.toList_eq];rfl
theorem X8J (s:ByteArray) (i:Nat) (h:i<s.toList.length):s.get! i=s.toList[i]:=by
 have hs:i<s.size:=by rw [←X1V];exact h
 simp only [ByteArray.toList_eq]
 show s.data[i]! = _
 have h2:i<s.data.size:=hs
 rw [getElem!_pos s.data i h2]
 rfl
theorem X51 (s:ByteArray):X2X s=some (X61 s):=by
 have key:=X5 (WW s s) (fun o0=>Sum.elim (fun y1:Bool×Nat=>some y1.fst) (fun y2:Int×Nat=>bif decide ((↑(ByteArray.size s):Int)≤14) then some (y2.fst != 45) else some false) o0) s.toList.length (fun i (b:Int)=>(b,i)) (fun _ _=>True) (fun i b=>some (decide (s.size≤14)&&X4R (X60 b (s.toList.drop i))))
  (by
   intro b _ R
   have hh:(decide ((↑s.size:Int)≤14))=decide (s.size≤14):=by rw [decide_eq_decide];omega
   have hd:s.toList.drop s.size=[]:=List.drop_eq_nil_of_le (by rw [X1V];exact Nat.le_refl _)
   simp only [hd,X60,X4R,WW,X13,X1V,hh,Nat.lt_irrefl,decide_false,cond_false,jS,Sum.elim_inr]
   cases decide (s.size≤14)<;>simp)
  (by
   intro i b hi _ R hR
   have hs:i<s.size:=by rw [←X1V];exact hi
   have hg:=X8J s i hi
   simp only [WW,X13]
   rw [List.drop_eq_getElem_cons hi]
   simp only [X60]
   by_cases h:(s.get! i).toNat<128
   ·rw [X99 s i h]
    have hR':=hR ((s.get! i).toNat:Int) trivial
    rw [hg] at *
    generalize s.toList[i]=c at *
    simp only [hs,decide_true,cond_true]
    by_cases h1:97≤(c.toNat:Int)
    ·have q1:decide ((c.toNat:Int)≥97)=true:=decide_eq_true h1
     by_cases h2:(c.toNat:Int)≤122
     ·have q2:decide ((c.toNat:Int)≤122)=true:=decide_eq_true h2
      simp only [decide_true,decide_false,q1,q2,cond_true,jS,Sum.elim_inl,h1,h2,and_self,if_true]
      exact hR'
     ·have q2:decide ((c.toNat:Int)≤122)=false:=decide_eq_false h2
      have h3:¬ ((c.toNat:Int)=45):=by omega
      have q3:((c.toNat:Int) != 45)=true:=bne_iff_ne.2 h3
      simp only [decide_true,decide_false,q1,q2,q3,cond_true,cond_false,jS,Sum.elim_inl,Sum.elim_inr,h2,and_false,if_false,ne_eq,h3,not_false_iff,true_or,if_true,X4R,Bool.and_false]
    ·have q1:decide ((c.toNat:Int)≥97)=false:=decide_eq_false h1
     by_cases h3:(c.toNat:Int)=45
     ·have q3:((c.toNat:Int) != 45)=false:=by rw [h3];rfl
      by_cases h4:b=45
      ·have q4:(b==45)=true:=by rw [h4];rfl
       rw [q1,q3,q4,if_neg (fun hc=>h1 hc.1),if_pos (Or.inr h4)]
       simp [X4R]
      ·have q4:(b==45)=false:=beq_eq_false_iff_ne.2 h4
       simp only [decide_true,decide_false,q1,q3,q4,cond_true,cond_false,jS,Sum.elim_inl,Sum.elim_inr,h1,false_and,if_false,h4,ne_eq,h3,not_true,or_self,if_true]
       rw [h3] at hR'
       exact hR'
     ·have q3:((c.toNat:Int) != 45)=true:=bne_iff_ne.2 h3
      simp only [decide_true,decide_false,q1,q3,cond_true,cond_false,jS,Sum.elim_inl,Sum.elim_inr,h1,false_and,if_false,ne_eq,h3,not_false_iff,true_or,if_true,X4R,Bool.and_false]
   ·have h':=X98 s i h
    rw [hg] at h
    generalize s.toList[i]=c at *
    simp only [hs,decide_true,cond_true]
    generalize (Utf8.decode s i)=d at *
    have e1:((d.1:Nat):Int)≥97:=by omega
    have e2:¬ ((d.1:Nat):Int)≤122:=by omega
    have e3:¬ ((d.1:Nat):Int)=45:=by omega
    have e4:¬ ((c.toNat:Int)≤122):=by omega
    have e5:¬ ((c.toNat:Int)=45):=by omega
    have q1:decide (((d.1:Nat):Int)≥97)=true:=decide_eq_true e1
    have q2:decide (((d.1:Nat):Int)≤122)=false:=decide_eq_false e2
    have q3:(((d.1:Nat):Int) != 45)=true:=bne_iff_ne.2 e3
    simp only [decide_true,decide_false,q1,q2,q3,cond_true,cond_false,jS,Sum.elim_inl,Sum.elim_inr,e4,and_false,if_false,ne_eq,e5,not_false_iff,true_or,if_true,X4R,Bool.and_false])
 exact (key 0 45 (by omega) trivial).trans (by simp [X61])
theorem X7X (s:ByteArray):X4C s=some (X61 s):=by
 unfold X4C
 rw [We]
 simp only [jS]
 by_cases hsz:1≤s.size∧s.size≤14
 ·have e1:inN (↑s.size) 1 14=true:=by simp [inN];omega
  rw [e1]
  simp only [Bool.not_true,cond_false]
  have hl:=X1V s
  have key:=X5 (X11 s) (fun o0=>Sum.elim (fun y76:Bool=>some y76) (fun _:Unit=>some true) o0) s.toList.length (fun i (_:Int)=>(i:Int)) (fun i b=>b=if i=0 then 45 else ((s.toList.getD (i-1) 0).toNat:Int)) (fun i b=>some (if i<s.toList.length then X4R (X60 b (s.toList.drop i)) else true))
   (by
    intro b _ R
    simp [X11,X1e,X1V])
   (by
    intro i b hi hP R hR
    have hs:i<s.size:=by rw [←X1V];exact hi
    simp only [X11,X1e]
    rw [List.drop_eq_getElem_cons hi]
    have hR':=hR ((s.toList[i]).toNat:Int) (by simp [List.getD,hi])
    have hw:=wS i (by omega)
    have hw1:IntKind.wrap .i64 ((i:Int)-1)=((i:Int)-1):=by rw [w64]<;>omega
    have hw2:IntKind.wrap .i64 ((s.size:Int)-1)=((s.size:Int)-1):=by rw [w64]<;>omega
    simp only [X60,kS,X1 _ _ _ hi,hw,hw1,hw2]
    have d1:decide ((i:Int)<↑s.size)=true:=by simp [hs]
    have d2:=z0S i
    simp only [d1,d2,Bool.and_self,cond_true,hi,if_true]
    generalize hc:s.toList[i]=c at *
    by_cases h1:97≤(c.toNat:Int)∧(c.toNat:Int)≤122
    ·have q1:decide ((c.toNat:Int)≥97)=true:=decide_eq_true h1.1
     have q2:decide ((c.toNat:Int)≤122)=true:=decide_eq_true h1.2
     simp only [decide_true,decide_false,q1,q2,cond_true,jS,Sum.elim_inl,h1,and_self,if_true]
     have hne:¬ ((c.toNat:Int)=45):=by omega
     rw [hR']
     by_cases hi2:i+1<s.toList.length
     ·simp [hi2]
     ·have:s.toList.drop (i+1)=[]:=List.drop_eq_nil_of_le (by omega)
      simp [hi2,this,X60,X4R,hne]
    ·have g:(bif decide ((c.toNat:Int)≥97) then bif decide ((c.toNat:Int)≤122) then true else false else false)=false:=by
      by_cases a1:(c.toNat:Int)≥97
      ·by_cases a2:(c.toNat:Int)≤122
       ·exact absurd ⟨a1,a2⟩ h1
       ·simp [a1,a2]
      ·simp [a1]
     have g2:∀ (Z:Type) (x y:Z),(bif decide ((c.toNat:Int)≥97) then bif decide ((c.toNat:Int)≤122) then x else y else y)=y:=by
      intro Z x y
      by_cases a1:(c.toNat:Int)≥97
      ·by_cases a2:(c.toNat:Int)≤122
       ·exact absurd ⟨a1,a2⟩ h1
       ·simp [a1,a2]
      ·simp [a1]
     rw [g2,if_neg h1]
     by_cases h2:(c.toNat:Int)=45
     ·simp only [h2,bne_self_eq_false,cond_false]
      by_cases h3:i=0
      ·subst h3
       simp [hP,X4R]
      ·by_cases h4:i+1=s.size
       ·have:s.toList.drop (i+1)=[]:=List.drop_eq_nil_of_le (by omega)
        have e5:(i:Int)=(s.size:Int)-1:=by omega
        have e6:((s.size:Int)-1==0)=false:=by simp;omega
        simp only [e5,e6,this,X60]
        by_cases h5:b=45<;>simp [h5,X4R]
       ·have e5:((i:Int)==(s.size:Int)-1)=false:=by simp;omega
        have e6:((i:Int)==0)=false:=by simp;omega
        have e7:(0:Int)≤(i:Int)-1:=by omega
        have e8:(i:Int)-1<(s.size:Int):=by omega
        have e9:((i:Int)-1).toNat=i-1:=by omega
        simp only [e5,e6,e7,e8,e9,cond_false,decide_true,Bool.and_self,cond_true]
        simp only [h3,if_false] at hP
        rw [←hP]
        by_cases h5:b=45
        ·simp [h5,X4R]
        ·have q5:(b==45)=false:=beq_eq_false_iff_ne.2 h5
         rw [h2] at hR'
         rw [q5]
         simp only [cond_false,jS,Sum.elim_inl,ne_eq,not_true,false_or,h5,if_false]
         rw [hR']
         simp [show i+1<s.toList.length by omega]
     ·have:((c.toNat:Int) != 45)=true:=by simp [h2]
      simp [this,h2,X4R])
  have:=key 0 45 (by omega) (by simp)
  refine this.trans ?_
  simp [X61,show 0<s.toList.length by omega,hsz.2]
 ·have e1:inN (↑s.size) 1 14=false:=by
   simp [inN];omega
  rw [e1]
  simp only [Bool.not_false,cond_true,X61]
  by_cases h:s.size≤14
  ·have h0:s.toList=[]:=by
    apply List.eq_nil_of_length_eq_zero;rw [X1V];omega
   simp [h0,X60,X4R]
  ·simp [h]
end Nore
open Go Go.Ab
namespace Nore
def X3f (m:Int) (p:Zu):Bool:=X4 (-m) m [p.X,p.Y]
def X4S:Int→List Zj→Int
 | _,[]=>0
 | last,p::l=>if X4 0 40000 [p.Day]||X4 0 4 [p.Hz4] then 7 else if p.Day≤last then 2 else X4S p.Day l
def X3B (l:List Zj):Int:=if X4 1 4 [(l.length:Int)] then 3 else X4S (-1) l
def X8a (b:ZC) (m w:Int):Int:=if X4 (-m) m [b.X.Lo,b.X.Hi,b.Y.Lo,b.Y.Hi] then 7 else if X4 0 w [b.X.Hi-b.X.Lo,b.Y.Hi-b.Y.Lo] then 2 else 0
theorem X1k (n lo hi:Int):inN n lo hi = !X4 lo hi [n]:=by
 simp only [inN,X4l,X6W,Bool.or_false,Bool.not_or]
 congr 1<;>rw [←decide_not,decide_eq_decide]<;>omega
theorem X5l (m:Int) (hm:0≤m∧m≤1000000) (l:List Zu) (hl:l.length<1000000):X4k m l=some (l.any (X3f m)):=by
 have hm1:IntKind.wrap .i64 (0-m) = -m:=by rw [w64]<;>omega
 have key:=X5 (X1p (↑l.length) l m) (fun o7=>Sum.elim (fun y8:Int×Zu×(List Int)=>some (decide (y8.fst≥0))) (fun _=>some (decide ((-1:Int)≥0))) o7) l.length (fun i (_:Unit)=>(i:Int)) (fun _ _=>True) (fun i _=>some ((l.drop i).any (X3f m)))
  (by
   intro b _ R
   simp [X1p,X1v])
  (by
   intro i b hi _ R hR
   have hR':=hR () trivial
   simp only [X1p,X1v]
   rw [List.drop_eq_getElem_cons hi]
   have hw:=wS i (by omega)
   simp only [kS,X1 _ _ _ hi,List.any_cons,hm1,hw]
   rw [WQ _ _ _ (by simp)]
   have h1:decide ((i:Int)<↑l.length)=true:=by simp [hi]
   have h2:=z0S i
   simp only [h1,h2,Bool.and_self,cond_true,jS]
   change Option.bind (bif X3f m l[i] then _ else _) _=_
   cases h3:X3f m l[i]
   ·simp;exact hR'
   ·simp)
 exact (key 0 () (by omega) trivial).trans (by simp)
theorem X49 (p:Zu) (m:Int) (hm:0≤m∧m≤1000000):X22 p m=some (!X3f m p):=by
 have hm1:IntKind.wrap .i64 (0-m) = -m:=by rw [w64]<;>omega
 unfold X22
 rw [We,We,hm1,X1k,X1k]
 simp only [jS,X3f,X4l,X6W,Bool.or_false]
 cases (decide (p.X < -m)||decide (p.X>m))<;>simp
theorem X7p (l:List Zj):X3e l=some (X3B l):=by
 unfold X3e X3B
 rw [WQ _ _ _ (by simp)]
 simp only [jS]
 cases hb:X4 1 4 [(l.length:Int)]
 ·simp only [cond_false,Bool.false_eq_true,if_false]
  have hl:1≤l.length∧l.length≤4:=by simp at hb;omega
  exact X5 (XY (↑l.length) l [↑l.length]) _ l.length (fun i (b:Int)=>(b,(i:Int))) (fun _ _=>True) (fun i b=>some (X4S b (l.drop i)))
   (by
    intro b _ R
    simp [XY,W8,X4S])
   (by
    intro i b hi _ R hR
    have hR':=hR (l[i].Day) trivial
    simp only [XY,W8]
    rw [List.drop_eq_getElem_cons hi]
    have hw:=wS i (by omega)
    simp only [kS,X1 _ _ _ hi,X4S,hw]
    rw [WQ _ _ _ (by simp),WQ _ _ _ (by simp)]
    have h1:decide ((i:Int)<↑l.length)=true:=by simp [hi]
    have h2:=z0S i
    simp only [h1,h2,Bool.and_self,cond_true,jS]
    cases h3:X4 0 40000 [l[i].Day]
    ·cases h4:X4 0 4 [l[i].Hz4]
     ·by_cases h5:l[i].Day≤b
      ·simp [h5]
      ·simp [h5];exact hR'
     ·simp
    ·simp) 0 (-1) (by omega) trivial
 ·simp
theorem X7s (l:List Zj):X2C l=some (X3B l):=by
 unfold X2C X3B
 rw [We,X1k]
 simp only [jS]
 cases hb:X4 1 4 [(l.length:Int)]
 ·simp only [Bool.not_false,Bool.not_true,cond_false,Bool.false_eq_true,if_false]
  have hl:1≤l.length∧l.length≤4:=by simp at hb;omega
  exact X5 (W3 l) _ l.length (fun i (_:Int)=>(i:Int)) (fun i b=>b=if i=0 then -1 else (l.getD (i-1) ⟨0,0⟩).Day) (fun i b=>some (X4S b (l.drop i)))
   (by
    intro b _ R
    simp [W3,Wf,X4S])
   (by
    intro i b hi hP R hR
    have hR':=hR (l[i].Day) (by simp [List.getD,hi])
    simp only [W3,Wf]
    rw [List.drop_eq_getElem_cons hi]
    have hw:=wS i (by omega)
    have hw1:IntKind.wrap .i64 ((i:Int)-1)=((i:Int)-1):=by rw [w64]<;>omega
    simp only [kS,X1 _ _ _ hi,X4S,hw,hw1]
    rw [We,We,X1k,X1k]
    have h1:decide ((i:Int)<↑l.length)=true:=by simp [hi]
    have h2:=z0S i
    simp only [h1,h2,Bool.and_self,cond_true,jS]
    cases h3:X4 0 40000 [l[i].Day]
    ·cases h4:X4 0 4 [l[i].Hz4]
     ·by_cases h0:i=0
      ·subst h0
       simp at hP h3
       have h5:¬ l[0].Day≤b:=by omega
       simp [h5];simpa using hR'
      ·have e7:(0:Int)≤(i:Int)-1:=by omega
       have e8:(i:Int)-1<(l.length:Int):=by omega
       have e9:((i:Int)-1).toNat=i-1:=by omega
       have e10:(i:Int)>0:=by omega
       simp only [e7,e8,e9,e10,decide_true,Bool.and_self,cond_true]
       simp only [h0,if_false] at hP
       rw [←hP]
       by_cases h5:l[i].Day≤b
       ·simp [h5]
       ·simp [h5];exact hR'
     ·simp
    ·simp) 0 (-1) (by omega) (by simp)
 ·simp
theorem X8b (b:ZC) (m:Int) (hm:0≤m∧m≤1000000):X55 b m=some (X8a b m 40):=by
 have hm1:IntKind.wrap .i64 (0-m) = -m:=by rw [w64]<;>omega
 unfold X55 X8a
 rw [WQ _ _ _ (by simp),hm1]
 simp only [jS]
 cases hb:X4 (-m) m [b.X.Lo,b.X.Hi,b.Y.Lo,b.Y.Hi]
 ·simp at hb
  have h1:IntKind.wrap .i64 (b.X.Hi-b.X.Lo)=b.X.Hi-b.X.Lo:=by rw [w64]<;>omega
  have h2:IntKind.wrap .i64 (b.Y.Hi-b.Y.Lo)=b.Y.Hi-b.Y.Lo:=by rw [w64]<;>omega
  rw [h1,h2,WQ _ _ _ (by simp)]
  simp only [jS,cond_false,Bool.false_eq_true,if_false]
  cases X4 0 40 [b.X.Hi-b.X.Lo,b.Y.Hi-b.Y.Lo]<;>simp
 ·simp
def X2D (lo hi:Int):Int→List ZE→Int
 | e,[]=>e
 | e,s::l=>if X4 lo hi [s.Lo,s.Hi] then 7 else X2D lo hi (if s.Lo>s.Hi then 2 else e) l
theorem X2V (l:List ZE) (lo hi:Int) (hl:l.length<1000000):X21 l lo hi=some (X2D lo hi 0 l):=by
 unfold X21
 exact X5 (W1 lo l hi) _ l.length (fun i (b:Int)=>(b,(i:Int))) (fun _ _=>True) (fun i b=>some (X2D lo hi b (l.drop i)))
   (by
    intro b _ R
    simp [W1,Wc,X2D])
   (by
    intro i b hi' _ R hR
    simp only [W1,Wc]
    rw [List.drop_eq_getElem_cons hi']
    have hw:=wS i (by omega)
    simp only [kS,X1 _ _ _ hi',X2D,hw]
    rw [We,We,X1k,X1k]
    have h1:decide ((i:Int)<↑l.length)=true:=by simp [hi']
    have h2:=z0S i
    simp only [h1,h2,Bool.and_self,cond_true,jS]
    have hsplit:X4 lo hi [l[i].Lo,l[i].Hi]=(X4 lo hi [l[i].Lo]||X4 lo hi [l[i].Hi]):=by simp
    rw [hsplit]
    cases h3:X4 lo hi [l[i].Lo]
    ·cases h4:X4 lo hi [l[i].Hi]
     ·by_cases h5:l[i].Lo>l[i].Hi
      ·have:=hR 2 trivial
       simp only [h5];simp;simpa using this
      ·have:=hR b trivial
       simp only [h5];simp;simpa using this
     ·simp
    ·simp) 0 0 (by omega) trivial
theorem X8T (b:ZC) (m w:Int) (hw:0≤w):(let e:=X2D (-m) m 0 [b.X,b.Y];if e=0 then (if b.X.Hi-b.X.Lo>w then 2 else if b.Y.Hi-b.Y.Lo>w then 2 else 0) else e)=X8a b m w:=by
 simp only [X2D,X8a,X4l,X6W,Bool.or_false]
 generalize b.X.Lo=x,b.X.Hi=X,b.Y.Lo=y,b.Y.Hi=Y
 by_cases a1:x < -m∨x>m∨X < -m∨X>m
 ·have e1:(decide (x < -m)||decide (x>m)||(decide (X < -m)||decide (X>m)))=true:=by simp;omega
  have e2:(decide (x < -m)||decide (x>m)||(decide (X < -m)||decide (X>m)||(decide (y < -m)||decide (y>m)||(decide (Y < -m)||decide (Y>m)))))=true:=by simp;omega
  rw [e1,e2];simp
 ·have e1:(decide (x < -m)||decide (x>m)||(decide (X < -m)||decide (X>m)))=false:=by simp;omega
  rw [e1]
  by_cases a2:y < -m∨y>m∨Y < -m∨Y>m
  ·have e2:(decide (y < -m)||decide (y>m)||(decide (Y < -m)||decide (Y>m)))=true:=by simp;omega
   have e3:(decide (x < -m)||decide (x>m)||(decide (X < -m)||decide (X>m)||(decide (y < -m)||decide (y>m)||(decide (Y < -m)||decide (Y>m)))))=true:=by simp;omega
   rw [e3,e2];simp
  ·have e2:(decide (y < -m)||decide (y>m)||(decide (Y < -m)||decide (Y>m)))=false:=by simp;omega
   have e3:(decide (x < -m)||decide (x>m)||(decide (X < -m)||decide (X>m)||(decide (y < -m)||decide (y>m)||(decide (Y < -m)||decide (Y>m)))))=false:=by simp;omega
   rw [e3,e2]
   simp only [Bool.false_eq_true,if_false]
   by_cases b1:Y<y
   ·have e4:(decide (X-x<0)||decide (X-x>w)||(decide (Y-y<0)||decide (Y-y>w)))=true:=by simp;omega
    rw [e4]
    simp [b1]
   ·by_cases b2:X<x
    ·have e4:(decide (X-x<0)||decide (X-x>w)||(decide (Y-y<0)||decide (Y-y>w)))=true:=by simp;omega
     rw [e4]
     simp [b1,b2]
    ·simp only [gt_iff_lt,b1,b2,if_false]
     by_cases b3:X-x>w
     ·have e4:(decide (X-x<0)||decide (w<X-x)||(decide (Y-y<0)||decide (w<Y-y)))=true:=by simp;omega
      rw [e4];simp;omega
     ·by_cases b4:Y-y>w
      ·have e4:(decide (X-x<0)||decide (w<X-x)||(decide (Y-y<0)||decide (w<Y-y)))=true:=by simp;omega
       rw [e4];simp;omega
      ·have e4:(decide (X-x<0)||decide (w<X-x)||(decide (Y-y<0)||decide (w<Y-y)))=false:=by simp;omega
       rw [e4];simp;omega
theorem X9k (lo hi:Int) (b:ZC) (h:X2D lo hi 0 [b.X,b.Y]=0):lo≤b.X.Lo∧b.X.Hi≤hi∧b.X.Lo≤b.X.Hi∧lo≤b.Y.Lo∧b.Y.Hi≤hi∧b.Y.Lo≤b.Y.Hi:=by
 simp only [X2D,X4l,X6W,Bool.or_false] at h
 split at h
 ·simp at h
 ·split at h
  ·simp at h
  ·rename_i h1 h2
   simp at h1 h2
   split at h
   ·simp at h
   ·split at h
    ·simp at h
    ·omega
theorem X8g (b:ZC) (m:Int) (hm:0≤m∧m≤1000000):X5d b (-m) m=some (X8a b m 40):=by
 unfold X5d
 rw [X2V _ _ _ (by simp)]
 rw [←X8T b m 40 (by omega)]
 simp only [jS]
 by_cases h:X2D (-m) m 0 [b.X,b.Y]=0
 ·have hb:=X9k _ _ _ h
  have h1:IntKind.wrap .i64 (b.X.Hi-b.X.Lo)=b.X.Hi-b.X.Lo:=by rw [w64]<;>omega
  have h2:IntKind.wrap .i64 (b.Y.Hi-b.Y.Lo)=b.Y.Hi-b.Y.Lo:=by rw [w64]<;>omega
  rw [h1,h2,h]
  by_cases h3:b.X.Hi-b.X.Lo>40
  ·simp [h3]
  ·by_cases h4:b.Y.Hi-b.Y.Lo>40<;>simp [h3,h4]
 ·have h':(X2D (-m) m 0 [b.X,b.Y]==0)=false:=beq_eq_false_iff_ne.2 h
  rw [h',if_neg h];rfl
end Nore
open Go Go.Ab
namespace Nore
theorem X4w {a b:Int} (A B:Int) (h1 : -A≤a) (h2:a≤A) (h3 : -B≤b) (h4:b≤B) : -(A*B)≤a*b∧a*b≤A*B:=by
 have p1:=Int.mul_nonneg (show 0≤A-a by omega) (show 0≤B+b by omega)
 have p2:=Int.mul_nonneg (show 0≤A+a by omega) (show 0≤B-b by omega)
 have p3:=Int.mul_nonneg (show 0≤A-a by omega) (show 0≤B-b by omega)
 have p4:=Int.mul_nonneg (show 0≤A+a by omega) (show 0≤B+b by omega)
 constructor<;>grind
def X2y (p:Nat→Bool):Nat→Nat→Bool
 | _,0=>true
 | i,k+1=>p i&&X2y p (i+1) k
theorem X78 (p:Nat→Bool) (k i:Nat):X2y p i k=true↔∀ j,i≤j→j<i+k→p j=true:=by
 induction k generalizing i with
 | zero=>simp [X2y];intro j h1 h2;omega
 | succ k ih =>
  simp only [X2y,Bool.and_eq_true,ih]
  constructor
  ·rintro ⟨h1,h2⟩ j h3 h4
   by_cases h:j=i
   ·subst h;exact h1
   ·exact h2 j (by omega) (by omega)
  ·intro h
   exact ⟨h i (by omega) (by omega),fun j h1 h2=>h j (by omega) (by omega)⟩
def XI (a b:Zu):Zu:=⟨a.X-b.X,a.Y-b.Y⟩
def X1S (a b:Zu):Int:=a.X*b.Y-a.Y*b.X
def P0:Zu:=⟨0,0⟩
def X86 (l:List Zu) (i:Nat):Bool :=
 X2y (fun m=>m==i||m==(i+1) % l.length||decide (0<X1S (XI (l.getD ((i+1) % l.length) P0) (l.getD i P0)) (XI (l.getD m P0) (l.getD i P0)))) 0 l.length
def X75 (l:List Zu):Bool:=X2y (X86 l) 0 l.length
def X70 (s:CtSand):Int :=
 if X4 3 8 [(s.Hz2.length:Int)] then 3 else if s.Hz2.any (X3f 10000) then 7 else if X8a s.Hzc 500 40=0 then (if X75 s.Hz2 then 0 else 9) else X8a s.Hzc 500 40
def Bd (A:Int) (p:Zu):Prop := -A≤p.X∧p.X≤A ∧ -A≤p.Y∧p.Y≤A
theorem X6J (A:Int) (p:Zu):X3f A p=false↔Bd A p:=by
 simp [X3f,Bd];omega
theorem X6a {A:Int} {l:List Zu} (h:l.any (X3f A)=false) (i:Nat) (hi:i<l.length):Bd A l[i]:=by
 rw [List.any_eq_false] at h
 rw [←X6J]
 simpa using h l[i] (List.getElem_mem hi)
theorem X7m {a b:Int} (A:Int) (hA:A≤1000000) (h1 : -A≤a∧a≤A) (h2 : -A≤b∧b≤A):IntKind.wrap .i64 (a-b)=a-b:=by rw [w64]<;>omega
theorem X8N {a b c d:Int} (A:Int) (hA:A=2000000) (h1 : -A≤a∧a≤A) (h2 : -A≤b∧b≤A) (h3 : -A≤c∧c≤A) (h4 : -A≤d∧d≤A):IntKind.wrap .i64 (IntKind.wrap .i64 (a*b)-IntKind.wrap .i64 (c*d))=a*b-c*d:=by
 subst hA
 have p:=X4w _ _ h1.1 h1.2 h2.1 h2.2
 have q:=X4w _ _ h3.1 h3.2 h4.1 h4.2
 rw [w64 (x:=a*b),w64 (x:=c*d),w64]<;>omega
theorem X80 (l:List Zu) (hl:3≤l.length∧l.length≤8) (hf:l.any (X3f 10000)=false) (i:Nat) (hi:i<l.length) :
  X23 (i:Int) l (((i+1) % l.length:Nat):Int) 0=some (if X86 l i then .inr () else .inl false):=by
 have hk:(i+1) % l.length<l.length:=Nat.mod_lt _ (by omega)
 unfold X86
 generalize hkk:(i+1) % l.length=k at *
 have key:=X6i (Wu (i:Int) l (k:Int)) l.length (fun j (_:Unit)=>(j:Int)) (fun _ _=>True) (fun j _=>some (if X2y (fun m=>m==i||m==k||decide (0<X1S (XI (l.getD k P0) (l.getD i P0)) (XI (l.getD m P0) (l.getD i P0)))) j (l.length-j) then .inr () else .inl false))
  (by
   intro b _ R
   simp [Wu,WL,X2y])
  (by
   intro m b hm _ R hR
   have hR':=hR () trivial
   rw [show l.length-m=(l.length-(m+1))+1 by omega]
   simp only [X2y]
   simp only [Wu,WL]
   have hw:=wS m (by omega)
   simp only [kS,X1 _ _ _ hm,X1 _ _ _ hi,X1 _ _ _ hk,hw]
   have b1:=X6a hf m hm
   have b2:=X6a hf i hi
   have b3:=X6a hf k hk
   unfold Bd at b1 b2 b3
   rw [X7m 10000 (by omega) ⟨b3.1,b3.2.1⟩ ⟨b2.1,b2.2.1⟩,X7m 10000 (by omega) b1.2.2 b2.2.2,X7m 10000 (by omega) b3.2.2 b2.2.2,X7m 10000 (by omega) ⟨b1.1,b1.2.1⟩ ⟨b2.1,b2.2.1⟩]
   rw [X8N 2000000 rfl (by omega) (by omega) (by omega) (by omega)]
   have d1:decide ((m:Int)<↑l.length)=true:=by simp [hm]
   have d2:=z0S m
   have d3:decide ((i:Int)<↑l.length)=true:=by simp [hi]
   have d4:=z0S i
   have d5:decide ((k:Int)<↑l.length)=true:=by simp [hk]
   have d6:=z0S k
   simp only [d1,d2,d3,d4,d5,d6,Bool.and_self,cond_true]
   change Option.bind (bif ((m:Int) != ↑i) then bif ((m:Int) != ↑k) then bif decide (X1S (XI l[k] l[i]) (XI l[m] l[i])≤0) then _ else _ else _ else _) _=_
   by_cases e1:m=i
   ·have:((m:Int) != (i:Int))=false:=by simp [e1]
    rw [this];simp [e1];simpa [e1,hi,hk] using hR'
   ·have t1:((m:Int) != (i:Int))=true:=by simp;omega
    by_cases e2:m=k
    ·have:((m:Int) != (k:Int))=false:=by simp [e2]
     rw [t1,this];simp [e2];simpa [e2,hi,hk] using hR'
    ·have t2:((m:Int) != (k:Int))=true:=by simp;omega
     rw [t1,t2]
     by_cases e3:X1S (XI l[k] l[i]) (XI l[m] l[i])≤0
     ·have t3:¬ 0<X1S (XI l[k] l[i]) (XI l[m] l[i]):=by omega
      simp [e1,e2,e3,t3]
     ·have t3:0<X1S (XI l[k] l[i]) (XI l[m] l[i]):=by omega
      simp [e1,e2,e3,t3];simpa [hi,hk] using hR')
 have:=key 0 () (by omega) trivial
 simpa [X23] using this
theorem X7L (l:List Zu) (hl:3≤l.length∧l.length≤8) (hf:l.any (X3f 10000)=false):X3Z l=some (X75 l):=by
 unfold X3Z X75
 have key:=X5 (Wt l) (fun o103=>Sum.elim (fun y104:Bool=>some y104) (fun _:Unit=>some true) o103) l.length (fun i (_:Unit)=>(i:Int)) (fun _ _=>True) (fun i _=>some (X2y (X86 l) i (l.length-i)))
  (by
   intro b _ R
   simp [Wt,WK,X2y])
  (by
   intro i b hi _ R hR
   have hR':=hR () trivial
   rw [show l.length-i=(l.length-(i+1))+1 by omega]
   simp only [X2y]
   simp only [Wt,WK]
   have hw:=wS i (by omega)
   have hm:Int.tmod ((i+1:Nat):Int) (l.length:Int)=(((i+1) % l.length:Nat):Int):=rfl
   have d1:decide ((i:Int)<↑l.length)=true:=by simp [hi]
   have d2:((l.length:Int)==0)=false:=by simp;intro h;simp [h] at hl
   simp only [hw,hm,d1,d2,cond_true,cond_false]
   rw [X80 l hl hf i hi]
   simp only [jS]
   cases h:X86 l i
   ·simp
   ·simp;simpa using hR')
 exact (key 0 () (by omega) trivial).trans (by simp)
theorem X7Y (s:CtSand):X4E s=some (X70 s):=by
 unfold X4E X70
 rw [We,X1k]
 simp only [jS]
 cases hb:X4 3 8 [(s.Hz2.length:Int)]
 ·have hl:3≤s.Hz2.length∧s.Hz2.length≤8:=by simp at hb;omega
  simp only [Bool.not_false,Bool.not_true,cond_false,Bool.false_eq_true,if_false]
  have key:=X6i (W4 s) s.Hz2.length (fun i (_:Unit)=>(i:Int)) (fun _ _=>True) (fun i _=>some (if (s.Hz2.drop i).any (X3f 10000) then .inl 7 else .inr ()))
   (by
    intro b _ R
    simp [W4,X1f])
   (by
    intro i b hi _ R hR
    have hR':=hR () trivial
    simp only [W4,X1f]
    rw [List.drop_eq_getElem_cons hi]
    have hw:=wS i (by omega)
    simp only [kS,X1 _ _ _ hi,List.any_cons,hw]
    rw [X49 _ _ (by omega)]
    have h1:decide ((i:Int)<↑s.Hz2.length)=true:=by simp [hi]
    have h2:=z0S i
    simp only [h1,h2,Bool.and_self,cond_true,jS]
    by_cases h3:X3f 10000 s.Hz2[i]=true
    ·simp [h3]
    ·simp [h3];simpa using hR')
  have k0:=key 0 () (by omega) trivial
  simp only [List.drop_zero,Int.natCast_zero] at k0
  unfold X3C
  have k0':Z93 (W4 s) 0=some (if s.Hz2.any (X3f 10000) then .inl 7 else .inr ()):=k0
  rw [k0']
  simp only [jS]
  cases hf:s.Hz2.any (X3f 10000)
  ·simp only [Bool.false_eq_true,if_false,Sum.elim_inr]
   rw [X8g _ _ (by omega),X7L _ hl hf]
   simp only [jS]
   by_cases h:X8a s.Hzc 500 40=0
   ·rw [h]
    cases X75 s.Hz2<;>simp
   ·simp [h,X3S h]
  ·simp
 ·simp
end Nore
open Go Go.Ab
namespace Nore
theorem X9X {α:Type} (P:α→Bool) (l:List α):l.countP P=0↔∀ m,(h:m<l.length)→P l[m]=false:=by
 rw [List.countP_eq_zero]
 constructor
 ·intro h m hm;simpa using h l[m] (List.getElem_mem hm)
 ·intro h a ha
  obtain ⟨m,hm,rfl⟩:=List.getElem_of_mem ha
  simp [h m hm]
theorem X9V {α:Type} (P:α→Bool) (l:List α):∀ i,(hi:i<l.length)→P l[i]=true→(l.countP P=1↔∀ m,(h:m<l.length)→m≠i→P l[m]=false):=by
 induction l with
 | nil=>intro i hi;simp at hi
 | cons a t ih =>
  intro i hi hP
  cases i with
  | zero =>
   simp only [List.getElem_cons_zero] at hP
   rw [List.countP_cons_of_pos hP]
   rw [show (t.countP P+1=1)↔t.countP P=0 by omega,X9X]
   constructor
   ·intro h m hm hne
    cases m with
    | zero=>exact absurd rfl hne
    | succ m=>simpa using h m (by simpa using hm)
   ·intro h m hm
    exact h (m+1) (by simpa using hm) (by omega)
  | succ i =>
   simp only [List.getElem_cons_succ] at hP
   have hi':i<t.length:=by simpa using hi
   have hpos:0<t.countP P:=by
    rw [List.countP_pos_iff];exact ⟨t[i],List.getElem_mem hi',hP⟩
   have ih':=ih i hi' hP
   cases ha:P a
   ·rw [List.countP_cons_of_neg (by simp [ha]),ih']
    constructor
    ·intro h m hm hne
     cases m with
     | zero=>simpa using ha
     | succ m=>simpa using h m (by simpa using hm) (by omega)
    ·intro h m hm hne
     exact h (m+1) (by simpa using hm) (by omega)
   ·rw [List.countP_cons_of_pos ha]
    constructor
    ·intro h;omega
    ·intro h
     have:=h 0 (by simp) (by omega)
     simp [ha] at this
theorem X9W {α:Type} (P:α→Bool) (l:List α):∀ i k,(hi:i<l.length)→(hk:k<l.length)→i<k→P l[i]=true→P l[k]=true→(l.countP P=2↔∀ m,(h:m<l.length)→m≠i→m≠k→P l[m]=false):=by
 induction l with
 | nil=>intro i k hi;simp at hi
 | cons a t ih =>
  intro i k hi hk hik hP hQ
  cases k with
  | zero=>omega
  | succ k =>
   simp only [List.getElem_cons_succ] at hQ
   have hk':k<t.length:=by simpa using hk
   cases i with
   | zero =>
    simp only [List.getElem_cons_zero] at hP
    rw [List.countP_cons_of_pos hP]
    rw [show (t.countP P+1=2)↔t.countP P=1 by omega,X9V P t k hk' hQ]
    constructor
    ·intro h m hm hne hne2
     cases m with
     | zero=>exact absurd rfl hne
     | succ m=>simpa using h m (by simpa using hm) (by omega)
    ·intro h m hm hne
     exact h (m+1) (by simpa using hm) (by omega) (by omega)
   | succ i =>
    simp only [List.getElem_cons_succ] at hP
    have hi':i<t.length:=by simpa using hi
    have ih':=ih i k hi' hk' (by omega) hP hQ
    cases ha:P a
    ·rw [List.countP_cons_of_neg (by simp [ha]),ih']
     constructor
     ·intro h m hm hne hne2
      cases m with
      | zero=>simpa using ha
      | succ m=>simpa using h m (by simpa using hm) (by omega) (by omega)
     ·intro h m hm hne hne2
      exact h (m+1) (by simpa using hm) (by omega) (by omega)
    ·have hpos:2≤t.countP P:=by
      have h1:=X9V P t i hi' hP
      have:0<t.countP P:=by
       rw [List.countP_pos_iff];exact ⟨t[i],List.getElem_mem hi',hP⟩
      by_cases e:t.countP P=1
      ·have:=h1.1 e k hk' (by omega)
       simp [hQ] at this
      ·omega
     rw [List.countP_cons_of_pos ha]
     constructor
     ·intro h;omega
     ·intro h
      have:=h 0 (by simp) (by omega) (by omega)
      simp [ha] at this
def X4s (l:List Zu) (a b:Zu):Bool :=
 (l.countP fun p=>decide (X1S (XI b a) (XI p a)≤0))==2 && !((b.X-a.X==0)&&(b.Y-a.Y==0))
def X54 (l:List Zu):Zu→List Zu→Bool
 | _,[]=>true
 | last,p::r=>X4s l last p&&X54 l p r
theorem X9c (a b:Zu):X1S (XI b a) (XI b a)=0:=by simp [X1S,Int.mul_comm]
theorem X9d (a b:Zu):X1S (XI b a) (XI a a)=0:=by simp [X1S,XI]
theorem X8e (l:List Zu) (hl:3≤l.length) (i k:Nat) (hi:i<l.length) (hk:k<l.length) (hne:i≠k) :
  X4s l l[i] l[k]=X2y (fun m=>m==i||m==k||decide (0<X1S (XI (l.getD k P0) (l.getD i P0)) (XI (l.getD m P0) (l.getD i P0)))) 0 l.length:=by
 rw [Bool.eq_iff_iff,X78]
 have hPi:decide (X1S (XI l[k] l[i]) (XI l[i] l[i])≤0)=true:=by rw [X9d];rfl
 have hPk:decide (X1S (XI l[k] l[i]) (XI l[k] l[i])≤0)=true:=by rw [X9c];rfl
 have hc:(l.countP fun p=>decide (X1S (XI l[k] l[i]) (XI p l[i])≤0))=2↔∀ m,(h:m<l.length)→m≠i→m≠k→decide (X1S (XI l[k] l[i]) (XI l[m] l[i])≤0)=false:=by
  by_cases hik:i<k
  ·exact X9W (fun p=>decide (X1S (XI l[k] l[i]) (XI p l[i])≤0)) l i k hi hk hik hPi hPk
  ·have:=X9W (fun p=>decide (X1S (XI l[k] l[i]) (XI p l[i])≤0)) l k i hk hi (by omega) hPk hPi
   rw [this]
   constructor
   ·intro h m hm h1 h2;exact h m hm h2 h1
   ·intro h m hm h1 h2;exact h m hm h2 h1
 simp only [X4s,Bool.and_eq_true,beq_iff_eq,hc]
 constructor
 ·rintro ⟨h,_⟩ m _ hm
  have hm':m<l.length:=by omega
  by_cases e1:m=i
  ·simp [e1]
  ·by_cases e2:m=k
   ·simp [e2]
   ·have:=h m hm' e1 e2
    simp only [X1 _ _ _ hm',X1 _ _ _ hi,X1 _ _ _ hk]
    simp at this
    simp [this]
 ·intro h
  have h':∀ m,(hm:m<l.length)→m≠i→m≠k→0<X1S (XI l[k] l[i]) (XI l[m] l[i]):=fun m hm e1 e2=>by
   have:=h m (by omega) (by omega)
   simp only [X1 _ _ _ hm,X1 _ _ _ hi,X1 _ _ _ hk] at this
   simpa [e1,e2] using this
  refine ⟨fun m hm e1 e2 => ?_,?_⟩
  ·have:=h' m hm e1 e2
   simp;omega
  ·have:∃ m,m<l.length∧m≠i∧m≠k:=by
    by_cases a0:0≠i∧0≠k
    ·exact ⟨0,by omega,a0⟩
    ·by_cases a1:1≠i∧1≠k
     ·exact ⟨1,by omega,a1⟩
     ·exact ⟨2,by omega,by omega,by omega⟩
   obtain ⟨m,hm,e1,e2⟩:=this
   have:=h' m hm e1 e2
   rw [Bool.not_eq_true',Bool.eq_false_iff]
   intro hz
   simp only [Bool.and_eq_true,beq_iff_eq] at hz
   simp [X1S,XI,hz.1,hz.2] at this
theorem X8S (l:List Zu):∀ k i,i+k=l.length→1≤i→(hi:i-1<l.length)→(X54 l l[i-1] (l.drop i)=true↔∀ j,(h1:i≤j)→(h2:j<l.length)→X4s l l[j-1] l[j]=true):=by
 intro k
 induction k with
 | zero =>
  intro i hk h1 hi
  rw [List.drop_eq_nil_of_le (by omega)]
  simp [X54]
  intro j h1 h2;omega
 | succ k ih =>
  intro i hk h1 hi
  have hi2:i<l.length:=by omega
  rw [List.drop_eq_getElem_cons hi2]
  simp only [X54,Bool.and_eq_true]
  have:=ih (i+1) (by omega) (by omega) (by omega)
  simp only [Nat.add_sub_cancel] at this
  rw [this]
  constructor
  ·rintro ⟨g,h⟩ j a b
   by_cases e:j=i
   ·subst e;exact g
   ·exact h j (by omega) b
  ·intro h
   exact ⟨h i (by omega) hi2,fun j a b=>h j (by omega) b⟩
theorem X8A (l:List Zu) (hl:3≤l.length):X54 l (l.getD (l.length-1) P0) l=X75 l:=by
 rw [Bool.eq_iff_iff]
 have e:X54 l (l.getD (l.length-1) P0) l=(X4s l l[l.length-1] l[0]&&X54 l l[1-1] (l.drop 1)):=by
  conv=>lhs;rw [show l=l[0]::l.drop 1 by rw [←List.drop_eq_getElem_cons (by omega)];rfl]
  rw [←show l=l[0]::l.drop 1 by rw [←List.drop_eq_getElem_cons (by omega)];rfl]
  rw [X1 _ _ _ (by omega)]
  conv=>lhs;arg 3;rw [show l=l[0]::l.drop 1 by rw [←List.drop_eq_getElem_cons (by omega)];rfl]
  rfl
 rw [e]
 simp only [Bool.and_eq_true]
 rw [X8S l (l.length-1) 1 (by omega) (by omega) (by omega)]
 unfold X75
 rw [X78]
 have hside:∀ i,(hi:i<l.length)→X86 l i=X4s l l[i] (l[(i+1) % l.length]'(Nat.mod_lt _ (by omega))):=fun i hi=>by
  have hk:(i+1) % l.length<l.length:=Nat.mod_lt _ (by omega)
  have hne:i≠(i+1) % l.length:=by
   by_cases h:i+1<l.length
   ·rw [Nat.mod_eq_of_lt h];omega
   ·have:i+1=l.length:=by omega
    rw [this,Nat.mod_self];omega
  rw [X8e l hl i _ hi hk hne]
  rfl
 constructor
 ·rintro ⟨h0,h⟩ i _ hi
  have hi':i<l.length:=by omega
  rw [hside i hi']
  by_cases hh:i+1<l.length
  ·have:=h (i+1) (by omega) hh
   simp only [Nat.mod_eq_of_lt hh]
   simpa using this
  ·have e1:i=l.length-1:=by omega
   subst e1
   simp only [show l.length-1+1=l.length by omega,Nat.mod_self]
   exact h0
 ·intro h
  constructor
  ·have:=h (l.length-1) (by omega) (by omega)
   rw [hside _ (by omega)] at this
   simpa only [show l.length-1+1=l.length by omega,Nat.mod_self] using this
  ·intro j h1 h2
   have:=h (j-1) (by omega) (by omega)
   rw [hside _ (by omega)] at this
   simpa only [show j-1+1=j by omega,Nat.mod_eq_of_lt h2] using this
theorem X7o (l:List Zu) (hl:l.length≤8) (hf:l.any (X3f 10000)=false) (x4:Z8) (x5:Bool) (x6:Int) (x7:Bool) (x8:Z8) (x9:Bool) (x10:Int) (x11:Z8) (s:Z6) (a b:Zu) (ha:Bd 10000 a) (hb:Bd 10000 b) (hs:s=⟨a,XI b a⟩) :
  Wj (↑l.length) l x4 x5 x6 x7 x8 x9 x10 x11 s (0,0)=some ((l.countP fun p=>decide (X1S (XI b a) (XI p a)≤0):Nat):Int):=by
 subst hs
 unfold Bd at ha hb
 have key:=X6i (Xl (↑l.length) l x4 x5 x6 x7 x8 x9 x10 x11 ⟨a,XI b a⟩) l.length (fun i (c:Nat)=>((c:Int),(i:Int))) (fun i c=>c≤i) (fun i c=>some (((c+(l.drop i).countP fun p=>decide (X1S (XI b a) (XI p a)≤0):Nat)):Int))
  (by
   intro b _ R
   simp [Xl,Xt])
  (by
   intro i c hi hc R hR
   simp only [Xl,Xt]
   rw [List.drop_eq_getElem_cons hi]
   have hw:=wS i (by omega)
   have hw2:=wS c (by omega)
   have bp:=X6a hf i hi
   unfold Bd at bp
   simp only [kS,X1 _ _ _ hi,hw,hw2,XI]
   rw [X7m 10000 (by omega) bp.2.2 ha.2.2,X7m 10000 (by omega) ⟨bp.1,bp.2.1⟩ ⟨ha.1,ha.2.1⟩]
   rw [X8N 2000000 rfl (by omega) (by omega) (by omega) (by omega)]
   have h1:decide ((i:Int)<↑l.length)=true:=by simp [hi]
   have h2:=z0S i
   simp only [h1,h2,Bool.and_self,cond_true]
   change Option.bind (bif decide (X1S (XI b a) (XI l[i] a)≤0) then _ else _) _=_
   change _=some (((c+List.countP (fun p=>decide (X1S (XI b a) (XI p a)≤0)) (l[i]::List.drop (i+1) l):Nat)):Int)
   by_cases h:X1S (XI b a) (XI l[i] a)≤0
   ·rw [List.countP_cons_of_pos (by simpa using h)]
    simp only [h,decide_true,cond_true,jS,Sum.elim_inl]
    rw [hR (c+1) (by omega)]
    congr 1
    show ((_:Nat):Int)=((_:Nat):Int)
    congr 1
    show c+1+_=c+(_+1)
    simp only [XI]
    omega
   ·rw [List.countP_cons_of_neg (by simpa using h)]
    simp only [h,decide_false,cond_false,jS,Sum.elim_inl]
    rw [hR c (by omega)])
 have:=key 0 0 (by omega) (by omega)
 simpa [Wj] using this
theorem X6j (s:Z8):X1M s=some (X70 s.CtSand):=by
 obtain ⟨s⟩:=s
 unfold X1M X70
 rw [WQ _ _ _ (by simp)]
 simp only [jS]
 cases hb:X4 3 8 [(s.Hz2.length:Int)]
 ·have hl:3≤s.Hz2.length∧s.Hz2.length≤8:=by simp at hb;omega
  simp only [cond_false,Bool.false_eq_true,if_false]
  rw [X5l _ (by omega) _ (by omega)]
  simp only [jS]
  cases hf:s.Hz2.any (X3f 10000)
  ·simp only [cond_false,Bool.false_eq_true,if_false]
   rw [X8b _ _ (by omega)]
   simp only [jS]
   by_cases h:X8a s.Hzc 500 40=0
   ·have hw:IntKind.wrap .i64 ((s.Hz2.length:Int)-1)=(s.Hz2.length:Int)-1:=by rw [w64]<;>omega
    have ht:((s.Hz2.length:Int)-1).toNat=s.Hz2.length-1:=by omega
    have h1:decide ((0:Int)≤(s.Hz2.length:Int)-1)=true:=by simp;omega
    have h2:decide ((s.Hz2.length:Int)-1<(s.Hz2.length:Int))=true:=by simp;omega
    simp only [h,hw,ht,h1,h2,bne_self_eq_false,cond_false,Bool.and_self,cond_true,if_true]
    rw [←X8A _ hl.1]
    have hlast:Bd 10000 (s.Hz2.getD (s.Hz2.length-1) P0):=by
     rw [X1 _ _ _ (by omega)];exact X6a hf _ (by omega)
    refine (X5 (Xk (↑s.Hz2.length) s.Hz2 ⟨s⟩ false 0 false ⟨s⟩ false 0 ⟨s⟩ [(↑s.Hz2.length:Int)]) _ s.Hz2.length (fun i (b:Zu)=>((i:Int),b)) (fun _ b=>Bd 10000 b) (fun i b=>some (if X54 s.Hz2 b (s.Hz2.drop i) then 0 else 9)) ?_ ?_ 0 _ (by omega) hlast).trans (by simp)
    ·intro b _ R
     simp [Xk,Xs,X54]
    ·intro i b hi hP R hR
     have bp:=X6a hf i hi
     have hR':=hR s.Hz2[i] bp
     simp only [Xk,Xs]
     rw [List.drop_eq_getElem_cons hi]
     have hw:=wS i (by omega)
     simp only [kS,X1 _ _ _ hi,hw,X54]
     have bp':=bp
     have hP':=hP
     unfold Bd at bp' hP'
     rw [X7m 10000 (by omega) bp'.2.2 hP'.2.2,X7m 10000 (by omega) ⟨bp'.1,bp'.2.1⟩ ⟨hP'.1,hP'.2.1⟩]
     rw [X7o s.Hz2 hl.2 hf _ _ _ _ _ _ _ _ ⟨⟨b.X,b.Y⟩,⟨s.Hz2[i].X-b.X,s.Hz2[i].Y-b.Y⟩⟩ b s.Hz2[i] hP bp rfl]
     have h1:decide ((i:Int)<↑s.Hz2.length)=true:=by simp [hi]
     have h2:=z0S i
     simp only [h1,h2,Bool.and_self,cond_true,jS]
     have hg:X4s s.Hz2 b s.Hz2[i]=((s.Hz2.countP fun p=>decide (X1S (XI s.Hz2[i] b) (XI p b)≤0))==2 && !((s.Hz2[i].X-b.X==0)&&(s.Hz2[i].Y-b.Y==0))):=rfl
     generalize (s.Hz2.countP fun p=>decide (X1S (XI s.Hz2[i] b) (XI p b)≤0))=c at hg ⊢
     by_cases h3:c=2
     ·subst h3
      cases h4:(s.Hz2[i].X-b.X==0)
      ·simp only [h4,Bool.false_and,Bool.not_false,Bool.and_true,beq_self_eq_true] at hg
       simp [hg];simpa using hR'
      ·cases h5:(s.Hz2[i].Y-b.Y==0)
       ·simp only [h4,h5,Bool.and_false,Bool.not_false,Bool.and_true,beq_self_eq_true] at hg
        simp [hg];simpa using hR'
       ·simp only [h4,h5,Bool.and_self,Bool.not_true,Bool.and_false] at hg
        simp [hg]
     ·have h3':(((c:Nat):Int) != 2)=true:=by simp;omega
      have h3'':(c==2)=false:=by simp [h3]
      rw [h3'',Bool.false_and] at hg
      simp [h3',hg]
   ·rw [X12 h,if_neg h];rfl
  ·simp
 ·simp
end Nore
open Go Go.Ab
namespace Nore
theorem Z89 (a b:ByteArray):(a==b)=(a.data==b.data):=by cases a;cases b;rfl
instance:LawfulBEq ByteArray where
 rfl:=by intro a;rw [Z89];simp
 eq_of_beq:=by
  intro a b h
  rw [Z89] at h
  have:=eq_of_beq h
  cases a;cases b
  simp only at this
  rw [this]
instance:DecidableEq ByteArray:=fun a b=>if h:(a==b)=true then isTrue (eq_of_beq h) else isFalse (fun e=>h (by rw [e];simp))
theorem X6G {v:Int} (s k:ByteArray):∀ m:List (ByteArray×Int),Z8K (fun a b=>a==b) s (ZgG (fun a b=>a==b) k v m)=if s=k then some v else Z8K (fun a b=>a==b) s m
 | []=>by
  by_cases h:s=k
  ·simp [ZgG,Z8K,h]
  ·have h':(s==k)=false:=beq_eq_false_iff_ne.2 h
   simp [ZgG,Z8K,h,h']
 | (k',v')::m=>by
  have ih:=X6G s k m (v:=v)
  simp only [ZgG]
  by_cases h1:k=k'
  ·subst h1
   simp only [beq_self_eq_true,cond_true,Z8K]
   by_cases h:s=k
   ·simp [h]
   ·have h':(s==k)=false:=beq_eq_false_iff_ne.2 h
    simp [h,h']
  ·have:(k==k')=false:=by simp [h1]
   simp only [this,cond_false,Z8K]
   by_cases h2:s=k'
   ·subst h2
    have h3:s≠k:=fun h=>h1 h.symm
    simp [h3]
   ·have:(s==k')=false:=by simp [h2]
    simp only [this,cond_false,ih]
def X18 (s:ByteArray) (names:List ByteArray):Int:=if X61 s then (if s∈names then 5 else 0) else 6
theorem X6H {a b:ByteArray} (h:a.toList=b.toList):a=b:=by
 cases a;cases b
 simp only [ByteArray.toList_eq] at h
 congr 1
 exact Array.ext' h
theorem X4B (s:ByteArray) (names:List ByteArray) (hl:names.length<1000000):X2v s names=some (X18 s names):=by
 unfold X2v X18
 rw [X7X]
 simp only [jS]
 cases X61 s
 ·simp
 ·simp only [Bool.not_true,cond_false,if_true]
  unfold X4W
  have key:=X5 (XP s names) (fun o78=>Option.bind (Sum.elim (fun y79:Int=>some y79) (fun _:Unit=>some (-1)) o78) fun r82=>bif decide (r82≥0) then some (5:Int) else some 0) names.length (fun i (_:Unit)=>(i:Int)) (fun _ _=>True) (fun i _=>some (if s∈names.drop i then 5 else 0))
   (by
    intro b _ R
    simp [XP,WI])
   (by
    intro i b hi _ R hR
    have hR':=hR () trivial
    simp only [XP,WI]
    rw [List.drop_eq_getElem_cons hi]
    have hw:=wS i (by omega)
    simp only [kS,X1 _ _ _ hi,hw]
    have h1:decide ((i:Int)<↑names.length)=true:=by simp [hi]
    have h2:=z0S i
    simp only [h1,h2,Bool.and_self,cond_true]
    by_cases h:names[i]=s
    ·simp [h]
    ·have h':(names[i].toList==s.toList)=false:=by
      simp only [beq_eq_false_iff_ne];intro hh;exact h (X6H hh)
     have h'':¬ s=names[i]:=fun hh=>h hh.symm
     simp only [h',cond_false,jS,Sum.elim_inl,List.mem_cons,h'',false_or]
     exact hR')
  have:=key 0 () (by omega) trivial
  simp only [List.drop_zero] at this
  rw [←this]
  show Option.bind (Option.bind _ _) _=Option.bind _ _
  unfold X30
  simp only [Int.natCast_zero]
  cases Z93 (XP s names) 0<;>rfl
def X3J (m:Zx) (names:List ByteArray):Int:=if X18 m.Name names=0 then (if X3f 30000 m.At then 7 else X3B m.Hz3) else X18 m.Name names
def X5J (s:CtSand) (names:List ByteArray):Int:=if X18 s.Name names=0 then X70 s else X18 s.Name names
def X53:Nat→List ByteArray→List CtSand→Int×Int×Int
 | _,_,[]=>(0,0,0)
 | i,names,s::l=>if X5J s names=0 then X53 (i+1) (names++[s.Name]) l else (2,(i:Int),X5J s names)
def X52 (sands:List CtSand):Nat→List ByteArray→List Zx→Int×Int×Int
 | _,names,[]=>if 4<sands.length then (2,0,3) else X53 0 names sands
 | i,names,m::l=>if X3J m names=0 then X52 sands (i+1) (names++[m.Name]) l else (1,(i:Int),X3J m names)
def X45 (c:Zk):Int×Int×Int:=if 8<c.Hz8.length then (1,0,3) else X52 c.Hzb 0 [] c.Hz8
def Z2B (m:List (ByteArray×Int)) (names:List ByteArray):Prop:=∀ s,Option.getD (Z8K (fun a b=>a==b) s m) 0=if s∈names then 1 else 0
theorem X8t {m:List (ByteArray×Int)} {names:List ByteArray} (h:Z2B m names) (s:ByteArray) (hs:s∉names):Z2B (ZgG (fun a b=>a==b) s (IntKind.wrap .i64 (Option.getD (Z8K (fun a b=>a==b) s m) 0+1)) m) (names++[s]):=by
 intro t
 rw [X6G,h s,if_neg hs]
 by_cases e:t=s
 ·simp [e];rfl
 ·simp [e];simpa using h t
theorem X7F {m:List (ByteArray×Int)} {names:List ByteArray} (h:Z2B m names) (s:ByteArray):decide (Option.getD (Z8K (fun a b=>a==b) s (ZgG (fun a b=>a==b) s (IntKind.wrap .i64 (Option.getD (Z8K (fun a b=>a==b) s m) 0+1)) m)) 0>1)=decide (s∈names):=by
 rw [X6G,h s]
 simp only [if_true,Option.getD_some]
 by_cases e:s∈names
 ·simp only [e,if_true];rfl
 ·simp only [e,if_false];rfl
theorem X8p (c:Zk) (hl:c.Hzb.length≤4) (m:List (ByteArray×Int)) (names:List ByteArray) (hm:Z2B m names) (k:_→Option (Int×Int×Int))
  (hk:k=fun o56=>Sum.elim (fun (y57:Int×Int×Int×(List (ByteArray×Int))×CtSand)=>some (y57.snd.snd.fst,y57.fst,y57.snd.fst)) (fun y58=>Sum.elim (fun (y59:Int×Int×Int×(List (ByteArray×Int))×CtSand)=>some (y59.snd.snd.fst,y59.fst,y59.snd.fst)) (fun y60=>Sum.elim (fun (y61:Int×Int×Int×(List (ByteArray×Int))×CtSand)=>some (y61.snd.snd.fst,y61.fst,y61.snd.fst)) (fun (_:List (ByteArray×Int))=>some (0,0,0)) y60) y58) o56) :
  Option.bind (X1W (↑c.Hzb.length) c.Hzb c (0,m)) k=some (X53 0 names c.Hzb):=by
 subst hk
 unfold X1W
 exact X5 (Wi (↑c.Hzb.length) c.Hzb c) _ c.Hzb.length (fun i (b:List (ByteArray×Int)×List ByteArray)=>((i:Int),b.1)) (fun _ b=>Z2B b.1 b.2) (fun i b=>some (X53 i b.2 (c.Hzb.drop i)))
  (by
   intro b _ R
   simp [Wi,WA,X53])
  (by
   intro i b hi hP R hR
   simp only [Wi,WA]
   rw [List.drop_eq_getElem_cons hi]
   have hw:=wS i (by omega)
   simp only [kS,X1 _ _ _ hi,hw,X53]
   rw [X51,X6j,X7F hP]
   have h1:decide ((i:Int)<↑c.Hzb.length)=true:=by simp [hi]
   have h2:=z0S i
   simp only [h1,h2,Bool.and_self,cond_true,jS]
   by_cases hn:X61 c.Hzb[i].Name=true
   ·by_cases he:c.Hzb[i].Name∈b.2
    ·have hE:X5J c.Hzb[i] b.2=5:=by simp [X5J,X18,hn,he]
     simp [hn,he,hE]
    ·have e0:(⟨c.Hzb[i].Name,c.Hzb[i].Hz2,c.Hzb[i].Hzc⟩:CtSand)=c.Hzb[i]:=rfl
     have hE:X5J c.Hzb[i] b.2=X70 c.Hzb[i]:=by simp [X5J,X18,hn,he]
     rw [e0]
     simp only [hn,he,Bool.not_true,decide_false,cond_false,hE]
     by_cases hs:X70 c.Hzb[i]=0
     ·simp only [hs,bne_self_eq_false,cond_false,if_true,jS,Sum.elim_inl]
      exact hR (_,b.2++[c.Hzb[i].Name]) (X8t hP _ he)
     ·simp [hs,X12 hs]
   ·have hE:X5J c.Hzb[i] b.2=6:=by simp [X5J,X18,hn]
    simp [hn,hE]) 0 (m,names) (by omega) hm
theorem X5N (c:Zk):X34 c=some (X45 c):=by
 unfold X34 X45
 by_cases h8:8<c.Hz8.length
 ·have:decide ((c.Hz8.length:Int)>8)=true:=by simp;omega
  rw [this];simp [h8]
 ·have:decide ((c.Hz8.length:Int)>8)=false:=by simp;omega
  rw [this]
  simp only [cond_false,h8,if_false]
  exact X5 (Wh (↑c.Hz8.length) c.Hz8 c) _ c.Hz8.length (fun i (b:List (ByteArray×Int)×List ByteArray)=>((i:Int),b.1)) (fun _ b=>Z2B b.1 b.2) (fun i b=>some (X52 c.Hzb i b.2 (c.Hz8.drop i)))
   (by
    intro b hP R
    simp only [Wh,Wz]
    have h1:decide ((c.Hz8.length:Int)<↑c.Hz8.length)=false:=by simp
    simp only [h1,cond_false,jS,Sum.elim_inr,List.drop_length,X52]
    by_cases h4:4<c.Hzb.length
    ·have:decide ((c.Hzb.length:Int)>4)=true:=by simp;omega
     rw [this];simp [h4]
    ·have:decide ((c.Hzb.length:Int)>4)=false:=by simp;omega
     rw [this]
     simp only [cond_false,h4,if_false]
     exact X8p c (by omega) _ _ hP _ rfl)
   (by
    intro i b hi hP R hR
    simp only [Wh,Wz]
    rw [List.drop_eq_getElem_cons hi]
    have hw:=wS i (by omega)
    simp only [kS,X1 _ _ _ hi,hw,X52]
    rw [X51,X7p,X7F hP,X5l _ (by omega) _ (by simp)]
    have h1:decide ((i:Int)<↑c.Hz8.length)=true:=by simp [hi]
    have h2:=z0S i
    simp only [h1,h2,Bool.and_self,cond_true,jS,List.any_cons,List.any_nil,Bool.or_false]
    by_cases hn:X61 c.Hz8[i].Name=true
    ·by_cases he:c.Hz8[i].Name∈b.2
     ·have hE:X3J c.Hz8[i] b.2=5:=by simp [X3J,X18,hn,he]
      simp [hn,he,hE]
     ·by_cases hfar:X3f 30000 c.Hz8[i].At=true
      ·have hE:X3J c.Hz8[i] b.2=7:=by simp [X3J,X18,hn,he,hfar]
       simp [hn,he,hfar,hE]
      ·have hE:X3J c.Hz8[i] b.2=X3B c.Hz8[i].Hz3:=by simp [X3J,X18,hn,he,hfar]
       simp only [hn,he,hfar,Bool.not_true,decide_false,cond_false,hE]
       by_cases hs:X3B c.Hz8[i].Hz3=0
       ·simp only [hs,bne_self_eq_false,cond_false,if_true,jS,Sum.elim_inl]
        exact hR (_,b.2++[c.Hz8[i].Name]) (X8t hP _ he)
       ·simp [hs,X12 hs]
    ·have hE:X3J c.Hz8[i] b.2=6:=by simp [X3J,X18,hn]
     simp [hn,hE]) 0 ([],[]) (by omega) (by intro s;simp [Z8K])
theorem X8x (c:Zk) (hl:c.Hzb.length≤4) (names:List ByteArray) (hm:names.length≤8) (k:_→Option (Int×Int×Int))
  (hk:k=fun o134=>Sum.elim (fun (y135:Int×Int×Int×(List ByteArray)×(List ByteArray))=>some (y135.snd.snd.fst,y135.fst,y135.snd.fst)) (fun y136=>Sum.elim (fun (y137:Int×Int×Int×(List ByteArray)×(List ByteArray))=>some (y137.snd.snd.fst,y137.fst,y137.snd.fst)) (fun (_:List ByteArray)=>some (0,0,0)) y136) o134) :
  Option.bind (X20 c (0,names)) k=some (X53 0 names c.Hzb):=by
 subst hk
 unfold X20
 exact X5 (Ws c) _ c.Hzb.length (fun i (b:List ByteArray)=>((i:Int),b)) (fun i b=>b.length≤8+i) (fun i b=>some (X53 i b (c.Hzb.drop i)))
  (by
   intro b _ R
   simp [Ws,WH,X53])
  (by
   intro i b hi hP R hR
   simp only [Ws,WH]
   rw [List.drop_eq_getElem_cons hi]
   have hw:=wS i (by omega)
   simp only [kS,X1 _ _ _ hi,hw,X53]
   rw [X4B _ _ (by omega),X7Y]
   have h1:decide ((i:Int)<↑c.Hzb.length)=true:=by simp [hi]
   have h2:=z0S i
   have h3:Nat.ble ((b.length+[c.Hzb[i].Name].length)*(16+1)) 200000000000000=true:=by
    rw [Nat.ble_eq];simp;omega
   simp only [h1,h2,h3,Bool.and_self,cond_true,jS]
   by_cases hf:X18 c.Hzb[i].Name b=0
   ·have hE:X5J c.Hzb[i] b=X70 c.Hzb[i]:=by simp [X5J,hf]
    simp only [hf,hE,beq_self_eq_true,cond_true]
    by_cases hs:X70 c.Hzb[i]=0
    ·simp only [hs,bne_self_eq_false,cond_false,if_true,jS,Sum.elim_inl]
     exact hR (b++[c.Hzb[i].Name]) (by simp;omega)
    ·simp [hs,X12 hs]
   ·have hE:X5J c.Hzb[i] b=X18 c.Hzb[i].Name b:=by simp [X5J,hf]
    simp [hE,hf,X3S hf,X12 hf]) 0 names (by omega) (by omega)
theorem X62 (c:Zk):X39 c=some (X45 c):=by
 unfold X39 X45
 by_cases h8:8<c.Hz8.length
 ·have:decide ((c.Hz8.length:Int)>8)=true:=by simp;omega
  rw [this];simp [h8]
 ·have:decide ((c.Hz8.length:Int)>8)=false:=by simp;omega
  rw [this]
  simp only [cond_false,h8,if_false]
  exact X5 (Wr c) _ c.Hz8.length (fun i (b:List ByteArray)=>((i:Int),b)) (fun i b=>b.length≤i) (fun i b=>some (X52 c.Hzb i b (c.Hz8.drop i)))
   (by
    intro b hP R
    simp only [Wr,WG]
    have h1:decide ((c.Hz8.length:Int)<↑c.Hz8.length)=false:=by simp
    simp only [h1,cond_false,jS,Sum.elim_inr,List.drop_length,X52]
    by_cases h4:4<c.Hzb.length
    ·have:decide ((c.Hzb.length:Int)>4)=true:=by simp;omega
     rw [this];simp [h4]
    ·have:decide ((c.Hzb.length:Int)>4)=false:=by simp;omega
     rw [this]
     simp only [cond_false,h4,if_false]
     exact X8x c (by omega) _ (by omega) _ rfl)
   (by
    intro i b hi hP R hR
    simp only [Wr,WG]
    rw [List.drop_eq_getElem_cons hi]
    have hw:=wS i (by omega)
    simp only [kS,X1 _ _ _ hi,hw,X52]
    rw [X4B _ _ (by omega),X7s,X49 _ _ (by omega)]
    have h1:decide ((i:Int)<↑c.Hz8.length)=true:=by simp [hi]
    have h2:=z0S i
    have h3:Nat.ble ((b.length+[c.Hz8[i].Name].length)*(16+1)) 200000000000000=true:=by
     rw [Nat.ble_eq];simp;omega
    simp only [h1,h2,h3,Bool.and_self,cond_true,jS]
    by_cases hf:X18 c.Hz8[i].Name b=0
    ·by_cases hfar:X3f 30000 c.Hz8[i].At=true
     ·have hE:X3J c.Hz8[i] b=7:=by simp [X3J,hf,hfar]
      simp [hf,hfar,hE]
     ·have hE:X3J c.Hz8[i] b=X3B c.Hz8[i].Hz3:=by simp [X3J,hf,hfar]
      simp only [hf,hfar,hE,Bool.not_false,Bool.not_true,cond_false,beq_self_eq_true,cond_true]
      by_cases hs:X3B c.Hz8[i].Hz3=0
      ·simp only [hs,bne_self_eq_false,cond_false,if_true,jS,Sum.elim_inl]
       exact hR (b++[c.Hz8[i].Name]) (by simp;omega)
      ·simp [hs,X12 hs]
    ·have hE:X3J c.Hz8[i] b=X18 c.Hz8[i].Name b:=by simp [X3J,hf]
     simp [hE,hf,X3S hf,X12 hf]) 0 [] (by omega) (by simp)
end Nore
open Go Go.Ab
namespace Nore
theorem X2 (lo up:Int) (l:List Int) (hl:l.length<1000000):X3 lo up l=some (X4 lo up l):=by
 rw [X5T];unfold X27
 have key:=X5 (Wq (↑l.length) l up lo) (fun o3=>Sum.elim (fun y4:Int=>some (decide (y4≥0))) (fun _=>some (decide ((-1:Int)≥0))) o3) l.length (fun i (_:Unit)=>(i:Int)) (fun _ _=>True) (fun i _=>some (X4 lo up (l.drop i)))
  (by
   intro b _ R
   simp [Wq,WF])
  (by
   intro i b hi _ R hR
   have hR':=hR () trivial
   simp only [Wq,WF]
   rw [List.drop_eq_getElem_cons hi]
   simp only [kS,X1 _ _ _ hi,X4l]
   have hw:=wS i (by omega)
   rw [hw]
   have h1:decide ((i:Int)<↑l.length)=true:=by simp [hi]
   have h2:=z0S i
   simp only [h1,h2,Bool.and_self,cond_true]
   by_cases h3:l[i]<lo
   ·simp [h3]
   ·by_cases h4:l[i]>up
    ·simp [h3,h4]
    ·simp [h3,h4];exact hR')
 exact (key 0 () (by omega) trivial).trans (by simp)
theorem XQ (n lo hi:Int):X1h n lo hi=some (inN n lo hi):=by
 rw [X7k];unfold X3D inN
 by_cases h:lo≤n<;>simp [h]
def X3T (x:Z5):Int:=if x.Lead then 20 else 4
theorem X7Z (x:Z5):X5g x=some (X3T x):=by
 rw [X6Y];unfold X2U X3T
 cases x.Lead<;>rfl
def X7d (x:Z5) (names:List ByteArray):Int :=
 if X18 x.Name names≠0 then X18 x.Name names else if X4 (-X3T x) (X3T x) [x.Off.Lo,x.Off.Hi] then 7 else if x.Off.Lo>x.Off.Hi then 2 else 0
theorem X8K (x:Z5) (l:List Z5) (hl:l.length<1000000) (k:(Int×Z5)⊕Unit→Option Int) (r1 r2:Option Int) (h1:∀ (i:Nat) y,k (.inl ((i:Int),y))=r1) (h2:k (.inr ())=r2) :
  Option.bind (X2d (↑l.length) l x 0) k=if x.Name∈l.map (·.Name) then r1 else r2:=by
 have key:=X5 (XE (↑l.length) l x) k l.length (fun i (_:Unit)=>(i:Int)) (fun _ _=>True) (fun i _=>if x.Name∈(l.drop i).map (·.Name) then r1 else r2)
  (by
   intro b _ R
   simp [XE,XM,h2])
  (by
   intro i b hi _ R hR
   have hR':=hR () trivial
   simp only [XE,XM]
   rw [List.drop_eq_getElem_cons hi]
   simp only [kS,X1 _ _ _ hi,List.map_cons,List.mem_cons]
   have hw:=wS i (by omega)
   rw [hw]
   have e1:decide ((i:Int)<↑l.length)=true:=by simp [hi]
   have e2:=z0S i
   simp only [e1,e2,Bool.and_self,cond_true]
   by_cases h3:l[i].Name.toList=x.Name.toList
   ·have h4:x.Name=l[i].Name:=X6H h3.symm
    simp [h3,h4,h1]
   ·have h4:¬ x.Name=l[i].Name:=fun e=>h3 (by rw [e])
    have h5:(l[i].Name.toList==x.Name.toList)=false:=beq_eq_false_iff_ne.2 h3
    simp only [h5,cond_false,h4,false_or]
    exact hR')
 exact (key 0 () (by omega) trivial).trans (by simp)
theorem X8L (x:Z5) (l:List Z5) (hl:l.length<1000000) (k:(Int×Z5)⊕Unit→Option Int) (r1 r2:Option Int) (h1:∀ (i:Nat) y,k (.inl ((i:Int),y))=r1) (h2:k (.inr ())=r2) :
  Option.bind (X2e (↑l.length) l x 0) k=if x.Name∈l.map (·.Name) then r1 else r2:=by
 have key:=X5 (XF (↑l.length) l x) k l.length (fun i (_:Unit)=>(i:Int)) (fun _ _=>True) (fun i _=>if x.Name∈(l.drop i).map (·.Name) then r1 else r2)
  (by
   intro b _ R
   simp [XF,XN,h2])
  (by
   intro i b hi _ R hR
   have hR':=hR () trivial
   simp only [XF,XN]
   rw [List.drop_eq_getElem_cons hi]
   simp only [kS,X1 _ _ _ hi,List.map_cons,List.mem_cons]
   have hw:=wS i (by omega)
   rw [hw]
   have e1:decide ((i:Int)<↑l.length)=true:=by simp [hi]
   have e2:=z0S i
   simp only [e1,e2,Bool.and_self,cond_true]
   by_cases h3:l[i].Name.toList=x.Name.toList
   ·have h4:x.Name=l[i].Name:=X6H h3.symm
    simp [h3,h4,h1]
   ·have h4:¬ x.Name=l[i].Name:=fun e=>h3 (by rw [e])
    have h5:(l[i].Name.toList==x.Name.toList)=false:=beq_eq_false_iff_ne.2 h3
    simp only [h5,cond_false,h4,false_or]
    exact hR')
 exact (key 0 () (by omega) trivial).trans (by simp)
theorem X6F (x:Z5) (l:List Z5) (hl:l.length<1000000):X3u x l=some (X7d x (l.map (·.Name))):=by
 rw [X4L];unfold X17 X7d X18 X3T
 have hw20:IntKind.wrap .i64 (0-20) = -20:=by rw [w64]<;>omega
 have hw4:IntKind.wrap .i64 (0-4) = -4:=by rw [w64]<;>omega
 rw [X51]
 simp only [jS,hw20,hw4]
 cases hb:x.Lead
 ·simp only [cond_false,Bool.false_eq_true,if_false]
  cases hn:X61 x.Name
  ·simp
  ·simp only [Bool.not_true,cond_false,if_true]
   rw [X8L x l hl _ (some 5) (if X4 (-4) 4 [x.Off.Lo,x.Off.Hi] then some 7 else if x.Off.Lo>x.Off.Hi then some 2 else some 0) (fun i y=>by simp) (by
    simp only [Sum.elim_inr]
    rw [X2 _ _ _ (by simp)]
    simp only [jS]
    cases X4 (-4) 4 [x.Off.Lo,x.Off.Hi]
    ·by_cases h:x.Off.Lo>x.Off.Hi<;>simp [h]
    ·simp)]
   by_cases hm:x.Name∈l.map (·.Name)
   ·simp [hm]
   ·simp only [hm,if_false,ne_eq,not_true]
    cases X4 (-4) 4 [x.Off.Lo,x.Off.Hi]
    ·by_cases h:x.Off.Lo>x.Off.Hi<;>simp [h]
    ·simp
 ·simp only [cond_true,if_true]
  cases hn:X61 x.Name
  ·simp
  ·simp only [Bool.not_true,cond_false,if_true]
   rw [X8K x l hl _ (some 5) (if X4 (-20) 20 [x.Off.Lo,x.Off.Hi] then some 7 else if x.Off.Lo>x.Off.Hi then some 2 else some 0) (fun i y=>by simp) (by
    simp only [Sum.elim_inr]
    rw [X2 _ _ _ (by simp)]
    simp only [jS]
    cases X4 (-20) 20 [x.Off.Lo,x.Off.Hi]
    ·by_cases h:x.Off.Lo>x.Off.Hi<;>simp [h]
    ·simp)]
   by_cases hm:x.Name∈l.map (·.Name)
   ·simp [hm]
   ·simp only [hm,if_false,ne_eq,not_true]
    cases X4 (-20) 20 [x.Off.Lo,x.Off.Hi]
    ·by_cases h:x.Off.Lo>x.Off.Hi<;>simp [h]
    ·simp
def X4H (a:Zt):Int:=if X4 (-30000) 30000 [a.X.Lo,a.X.Hi,a.Y.Lo,a.Y.Hi]||X4 0 1000 [a.Hza.Lo,a.Hza.Hi]||X4 1 4 [a.Hz5] then 7 else if a.X.Lo>a.X.Hi∨a.Y.Lo>a.Y.Hi∨a.Hza.Lo>a.Hza.Hi then 2 else 0
theorem X8d (a:Zt):X6O a=some (X4H a):=by
 rw [X7a];unfold X3h X4H
 rw [X2 _ _ _ (by simp),X2 _ _ _ (by simp),X2 _ _ _ (by simp)]
 simp only [jS]
 cases X4 (-30000) 30000 [a.X.Lo,a.X.Hi,a.Y.Lo,a.Y.Hi]
 ·cases X4 0 1000 [a.Hza.Lo,a.Hza.Hi]
  ·cases X4 1 4 [a.Hz5]
   ·by_cases h1:a.X.Lo>a.X.Hi
    ·simp [h1]
    ·by_cases h2:a.Y.Lo>a.Y.Hi
     ·simp [h1,h2]
     ·by_cases h3:a.Hza.Lo>a.Hza.Hi<;>simp [h1,h2,h3]
   ·simp
  ·simp
 ·simp
theorem X7q (i:Int) (a:Zt):X3V i a=some (X4H a):=by
 rw [X5O];unfold X24
 rw [X8d];rfl
theorem X9Y (lo hi a b c d:Int):X4 lo hi [a,b,c,d]=(X4 lo hi [a,b]||X4 lo hi [c,d]):=by simp [Bool.or_assoc]
theorem X7M (a:Zt):X5v a=some (X4H a):=by
 rw [X6y];unfold X2x X4H X3a
 rw [X2V _ _ _ (by simp),X2V _ _ _ (by simp),XQ,X1k,X9Y]
 simp only [jS,X2D]
 cases X4 (-30000) 30000 [a.X.Lo,a.X.Hi]
 ·cases X4 (-30000) 30000 [a.Y.Lo,a.Y.Hi]
  ·cases X4 0 1000 [a.Hza.Lo,a.Hza.Hi]
   ·cases X4 1 4 [a.Hz5]
    ·by_cases h1:a.X.Lo>a.X.Hi<;>by_cases h2:a.Y.Lo>a.Y.Hi<;>by_cases h3:a.Hza.Lo>a.Hza.Hi<;>simp [h1,h2,h3]
    ·by_cases h1:a.X.Lo>a.X.Hi<;>by_cases h2:a.Y.Lo>a.Y.Hi<;>by_cases h3:a.Hza.Lo>a.Hza.Hi<;>simp [h1,h2,h3]
   ·by_cases h1:a.X.Lo>a.X.Hi<;>by_cases h2:a.Y.Lo>a.Y.Hi<;>simp [h1,h2]
  ·simp
 ·simp
def X1R:Nat→List ByteArray→List Z5→Int×Int×Int
 | _,_,[]=>(0,0,0)
 | i,names,x::l=>if X7d x names=0 then X1R (i+1) (names++[x.Name]) l else (3,(i:Int),X7d x names)
def X2W:Nat→List Zt→Int×Int×Int
 | _,[]=>(0,0,0)
 | i,a::l=>if X4H a=0 then X2W (i+1) l else (4,(i:Int),X4H a)
def X1H (f:ZI):Int×Int×Int :=
 if (X45 f.Hz9).2.2≠0 then (1,0,(X45 f.Hz9).2.2) else
 if X4 0 40000 [f.Day]||X4 1 500 [f.Step]||X4 0 8 [f.Half] then (2,0,7) else
 if X4 1 4 [(f.Hz0.length:Int)] then (3,0,3) else
 if (X1R 0 [] f.Hz0).2.2≠0 then X1R 0 [] f.Hz0 else
 if 6<f.Hz7.length then (4,0,3) else X2W 0 f.Hz7
theorem X8k (l:List Zt) (hl:l.length≤6) (k:(Int×Int×Zt)⊕Unit→Option (Int×Int×Int)) (h1:∀ (i e:Int) y,e≠0→k (.inl (e,i,y))=some (4,i,e)) (h2:k (.inr ())=some (0,0,0)) :
  Option.bind (X3N l (↑l.length) 0) k=some (X2W 0 l):=by
 have key:=X5 (X1t l (↑l.length)) k l.length (fun i (_:Unit)=>(i:Int)) (fun _ _=>True) (fun i _=>some (X2W i (l.drop i)))
  (by
   intro b _ R
   simp [X1t,X1y,h2,X2W])
  (by
   intro i b hi _ R hR
   have hR':=hR () trivial
   simp only [X1t,X1y]
   rw [List.drop_eq_getElem_cons hi]
   simp only [kS,X1 _ _ _ hi,X2W]
   have hw:=wS i (by omega)
   rw [hw,X7q]
   have e1:decide ((i:Int)<↑l.length)=true:=by simp [hi]
   have e2:=z0S i
   simp only [e1,e2,Bool.and_self,cond_true,jS]
   by_cases h3:X4H l[i]=0
   ·simp only [h3,bne_self_eq_false,cond_false,jS,Sum.elim_inl,if_true]
    exact hR'
   ·simp [h3,X12 h3,h1])
 exact (key 0 () (by omega) trivial).trans (by simp)
theorem X8l (l:List Zt) (hl:l.length≤6) (k:(Int×Int×Zt)⊕Unit→Option (Int×Int×Int)) (h1:∀ (i e:Int) y,e≠0→k (.inl (e,i,y))=some (4,i,e)) (h2:k (.inr ())=some (0,0,0)) :
  Option.bind (X2z l (↑l.length) 0) k=some (X2W 0 l):=X8k l hl k h1 h2
theorem X8M (f:ZI) (hl:f.Hz0.length≤4) (k:(Int×Int×Z5×Z5)⊕Unit→Option (Int×Int×Int)) (r:Option (Int×Int×Int)) (h1:∀ (i e:Int) y y',e≠0→k (.inl (e,i,y,y'))=some (3,i,e)) (h2:k (.inr ())=r) :
  Option.bind (X3M f.Hz0 (↑f.Hz0.length) f 0) k=if (X1R 0 [] f.Hz0).2.2≠0 then some (X1R 0 [] f.Hz0) else r:=by
 have key:=X5 (X1s f.Hz0 (↑f.Hz0.length) f) k f.Hz0.length (fun i (_:Unit)=>(i:Int)) (fun _ _=>True) (fun i _=>if (X1R i ((f.Hz0.take i).map (·.Name)) (f.Hz0.drop i)).2.2≠0 then some (X1R i ((f.Hz0.take i).map (·.Name)) (f.Hz0.drop i)) else r)
  (by
   intro b _ R
   simp [X1s,X1x,h2,X1R])
  (by
   intro i b hi _ R hR
   have hR':=hR () trivial
   simp only [X1s,X1x]
   rw [List.drop_eq_getElem_cons hi]
   rw [←List.take_concat_get hi] at hR'
   simp only [List.concat_eq_append,List.map_append,List.map_cons,List.map_nil] at hR'
   simp only [kS,X1 _ _ _ hi,X1R,List.drop_zero]
   have hw:=wS i (by omega)
   rw [hw,X6F _ _ (by simp;omega)]
   have e1:decide ((i:Int)<↑f.Hz0.length)=true:=by simp [hi]
   have e2:=z0S i
   have e3:decide ((i:Int)≤↑f.Hz0.length)=true:=by simp;omega
   simp only [e1,e2,e3,Bool.and_self,cond_true,jS]
   by_cases h3:X7d f.Hz0[i] ((f.Hz0.take i).map (·.Name))=0
   ·simp only [h3,bne_self_eq_false,cond_false,jS,Sum.elim_inl,if_true]
    exact hR'
   ·simp only [X12 h3,cond_true,jS,Sum.elim_inr,h1 _ _ _ _ h3,if_neg h3]
    rw [if_pos h3])
 exact (key 0 () (by omega) trivial).trans (by simp)
theorem X7V (f:ZI):X6c f=some (X1H f):=by
 rw [X6K];unfold X2M X1H
 rw [X5N,X2 _ _ _ (by simp),X2 _ _ _ (by simp),X2 _ _ _ (by simp),X2 _ _ _ (by simp)]
 simp only [jS]
 by_cases h1:(X45 f.Hz9).2.2=0
 ·simp only [h1,bne_self_eq_false,cond_false,ne_eq,not_true,if_false]
  cases X4 0 40000 [f.Day]
  ·cases X4 1 500 [f.Step]
   ·cases X4 0 8 [f.Half]
    ·cases hi:X4 1 4 [(f.Hz0.length:Int)]
     ·have hl:f.Hz0.length≤4:=by simp at hi;omega
      simp only [cond_false,Bool.or_self,Bool.false_eq_true,if_false]
      have ha:(bif decide ((f.Hz7.length:Int)>6) then some (4,0,3) else Option.bind (X2z f.Hz7 (↑f.Hz7.length) 0) fun o257↦Sum.elim (fun y258↦bif y258.fst != 0 then some (4,y258.snd.fst,y258.fst) else some ((0:Int),(0:Int),(0:Int))) (fun y259↦some (0,0,0)) o257)=(some (if 6<f.Hz7.length then (4,0,3) else X2W 0 f.Hz7):Option (Int×Int×Int)):=by
       by_cases h6:6<f.Hz7.length
       ·have:decide ((f.Hz7.length:Int)>6)=true:=by simp;omega
        rw [this];simp [h6]
       ·have:decide ((f.Hz7.length:Int)>6)=false:=by simp;omega
        rw [this]
        simp only [cond_false,h6,if_false]
        exact X8l _ (by omega) _ (fun i e y he=>by simp [X12 he]) rfl
      rw [X8M f hl _ _ (fun i e y y' he=>by simp [X12 he]) (by simp only [Sum.elim_inr];exact ha)]
      by_cases h3:(X1R 0 [] f.Hz0).2.2=0<;>simp [h3]
     ·simp
    ·simp
   ·simp
  ·simp
 ·simp [h1,X12 h1]
theorem X7O (f:ZI) (hl:f.Hz0.length≤4) (k:(Int×Int×Int×List ByteArray×List ByteArray×Z5)⊕((Int×Int×Int×List ByteArray×List ByteArray×Z5)⊕List ByteArray)→Option (Int×Int×Int)) (r:Option (Int×Int×Int))
  (h1:∀ (i e:Int) y y' z,k (.inl (i,e,3,y,y',z))=some (3,i,e)) (h1':∀ (i e:Int) y y' z,k (.inr (.inl (i,e,3,y,y',z)))=some (3,i,e)) (h2:∀ l,k (.inr (.inr l))=r) :
  Option.bind (X31 f (0,[])) k=if (X1R 0 [] f.Hz0).2.2≠0 then some (X1R 0 [] f.Hz0) else r:=by
 have key:=X5 (Wv f) k f.Hz0.length (fun i (b:List ByteArray)=>((i:Int),b)) (fun i b=>b=(f.Hz0.take i).map (·.Name)) (fun i b=>if (X1R i b (f.Hz0.drop i)).2.2≠0 then some (X1R i b (f.Hz0.drop i)) else r)
  (by
   intro b _ R
   simp [Wv,WM,h2,X1R])
  (by
   intro i b hi hb R hR
   have hR':=hR (b++[f.Hz0[i].Name]) (by rw [hb,←List.take_concat_get hi,List.concat_eq_append,List.map_append];rfl)
   have hbl:b.length≤4:=by rw [hb];simp;omega
   simp only [Wv,WM]
   rw [List.drop_eq_getElem_cons hi]
   simp only [kS,X1 _ _ _ hi,X1R]
   have hw:=wS i (by omega)
   rw [hw,X4B _ _ (by omega),X7Z]
   have e1:decide ((i:Int)<↑f.Hz0.length)=true:=by simp [hi]
   have e2:=z0S i
   have e3:Nat.ble ((b.length+[f.Hz0[i].Name].length)*(16+1)) 200000000000000=true:=by
    apply Nat.ble_eq_true_of_le;simp;omega
   have hf:IntKind.wrap .i64 (0-X3T f.Hz0[i]) = -X3T f.Hz0[i]:=by unfold X3T;split<;>(rw [w64]<;>omega)
   simp only [e1,e2,e3,Bool.and_self,cond_true,jS,hf,X3a]
   rw [X2V _ _ _ (by simp)]
   unfold X7d
   by_cases h3:X18 f.Hz0[i].Name b=0
   ·simp only [h3,beq_self_eq_true,cond_true,ne_eq,not_true,if_false,jS,X2D]
    cases ho:X4 (-X3T f.Hz0[i]) (X3T f.Hz0[i]) [f.Hz0[i].Off.Lo,f.Hz0[i].Off.Hi]
    ·by_cases h4:f.Hz0[i].Off.Lo>f.Hz0[i].Off.Hi
     ·simp [h4,h1]
     ·simp only [h4,Bool.false_eq_true,if_false,bne_self_eq_false,cond_false,jS,Sum.elim_inl,if_true]
      exact hR'
    ·simp [h1]
   ·have h5:=X12 h3
    simp [h3,X3S h3,h5,h1'])
 exact (key 0 [] (by omega) (by simp)).trans (by simp)
theorem X7N (f:ZI) (hl:f.Hz7.length≤6) (k:(Int×Int×Int)⊕Unit→Option (Int×Int×Int)) (h1:∀ (i e:Int),k (.inl (i,e,4))=some (4,i,e)) (h2:k (.inr ())=some (0,0,0)) :
  Option.bind (X32 f 0) k=some (X2W 0 f.Hz7):=by
 have key:=X5 (Ww f) k f.Hz7.length (fun i (_:Unit)=>(i:Int)) (fun _ _=>True) (fun i _=>some (X2W i (f.Hz7.drop i)))
  (by
   intro b _ R
   simp [Ww,WN,h2,X2W])
  (by
   intro i b hi _ R hR
   have hR':=hR () trivial
   simp only [Ww,WN]
   rw [List.drop_eq_getElem_cons hi]
   simp only [kS,X1 _ _ _ hi,X2W]
   have hw:=wS i (by omega)
   rw [hw,X7M]
   have e1:decide ((i:Int)<↑f.Hz7.length)=true:=by simp [hi]
   have e2:=z0S i
   simp only [e1,e2,Bool.and_self,cond_true,jS]
   by_cases h3:X4H f.Hz7[i]=0
   ·simp only [h3,bne_self_eq_false,cond_false,jS,Sum.elim_inl,if_true]
    exact hR'
   ·simp [h3,X12 h3,h1])
 exact (key 0 () (by omega) trivial).trans (by simp)
theorem X5I (f:ZI):X40 f=some (X1H f):=by
 rw [X66];unfold X2b X1H
 rw [X62,XQ,XQ,XQ,XQ,X1k,X1k,X1k,X1k]
 simp only [jS,Bool.not_not]
 by_cases h1:(X45 f.Hz9).2.2=0
 ·simp only [h1,bne_self_eq_false,cond_false,ne_eq,not_true,if_false]
  cases X4 0 40000 [f.Day]
  ·cases X4 1 500 [f.Step]
   ·cases X4 0 8 [f.Half]
    ·cases hi:X4 1 4 [(f.Hz0.length:Int)]
     ·have hl:f.Hz0.length≤4:=by simp at hi;omega
      simp only [cond_false,Bool.or_self,Bool.false_eq_true,if_false]
      rw [X7O f hl _ (some (if 6<f.Hz7.length then (4,0,3) else X2W 0 f.Hz7)) (fun i e y y' z=>rfl) (fun i e y y' z=>rfl) (fun l=>by
       simp only [Sum.elim_inr]
       by_cases h6:6<f.Hz7.length
       ·have:decide ((f.Hz7.length:Int)>6)=true:=by simp;omega
        rw [this];simp [h6]
       ·have:decide ((f.Hz7.length:Int)>6)=false:=by simp;omega
        rw [this]
        simp only [cond_false,h6,if_false]
        exact X7N f (by omega) _ (fun i e=>rfl) rfl)]
      by_cases h3:(X1R 0 [] f.Hz0).2.2=0<;>simp [h3]
     ·simp
    ·simp
   ·simp
  ·simp
 ·simp [h1,X12 h1]
end Nore
open Go Go.Ab
namespace Nore
def X4x (d:Int):Int→List Zj→Int
 | c,[]=>c
 | c,p::l=>X4x d (if p.Day≤d then p.Hz4 else c) l
def X4y (m:Zx) (d:Int):Int:=X4x d 0 m.Hz3
theorem X7j (d:Int) (p:Zj):∀ (l:List Zj) (c:Int),X4x d c (l++[p])=if p.Day≤d then p.Hz4 else X4x d c l
 | [],c=>rfl
 | q::l,c=>by simp only [List.cons_append,X4x,X7j d p l]
theorem X4V (m:Zx) (d:Int) (hl:m.Hz3.length<1000000):X2T m d=some (X4y m d):=by
 rw [X5e];unfold X1C X4y
 have key:=X5 (XT d m) (fun o=>some o) m.Hz3.length (fun i (b:Int)=>(b,(i:Int))) (fun _ _=>True) (fun i b=>some (X4x d b (m.Hz3.drop i)))
  (by
   intro b _ R
   simp [XT,XV,X4x])
  (by
   intro i b hi _ R hR
   simp only [XT,XV]
   rw [List.drop_eq_getElem_cons hi]
   simp only [kS,X1 _ _ _ hi,X4x]
   have hw:=wS i (by omega)
   rw [hw]
   have e1:decide ((i:Int)<↑m.Hz3.length)=true:=by simp [hi]
   have e2:=z0S i
   simp only [e1,e2,Bool.and_self,cond_true]
   by_cases h3:m.Hz3[i].Day≤d
   ·simp only [h3,decide_true,cond_true,jS,Sum.elim_inl,if_true]
    exact hR _ trivial
   ·simp only [h3,decide_false,cond_false,jS,Sum.elim_inl,if_false]
    exact hR _ trivial)
 exact key 0 0 (by omega) trivial
theorem X8u (d:Int) (l:List Zj) (hl:l.length<1000000) (k:(Zj×Int×Int)⊕Unit→Option (Zx×Int×Int)) (mk:Zx) (h1:∀ p c e,k (.inl (p,c,e))=some (mk,c,e)) (h2:k (.inr ())=some (mk,0,0)) :
  Option.bind (X1F d l ((l.length:Int)-1)) k=some (mk,X4x d 0 l,0):=by
 have key:=X5 (XX d l) k l.length (fun i (_:Unit)=>(l.length:Int)-1-i) (fun _ _=>True) (fun i _=>some (mk,X4x d 0 (l.take (l.length-i)),0))
  (by
   intro b _ R
   have:decide ((l.length:Int)-1-l.length≥0)=false:=by simp;omega
   simp only [XX,W7,this,cond_false,jS,Sum.elim_inr,h2]
   simp [X4x])
  (by
   intro i b hi _ R hR
   have hR':=hR () trivial
   have ht:((l.length:Int)-1-i).toNat=l.length-1-i:=by omega
   have hj:l.length-1-i<l.length:=by omega
   simp only [XX,W7,ht,X1 _ _ _ hj]
   have e1:decide ((l.length:Int)-1-i≥0)=true:=by simp;omega
   have e2:decide ((0:Int)≤(l.length:Int)-1-i)=true:=by simp;omega
   have e3:decide ((l.length:Int)-1-i<l.length)=true:=by simp;omega
   have hw:IntKind.wrap .i64 ((l.length:Int)-1-i-1)=(l.length:Int)-1-((i+1:Nat):Int):=by rw [w64]<;>omega
   simp only [e1,e2,e3,Bool.and_self,cond_true,hw]
   have hs:l.take (l.length-i)=l.take (l.length-(i+1))++[l[l.length-1-i]]:=by
    have:=List.take_concat_get hj
    rw [show l.length-i=l.length-1-i+1 by omega,←this,List.concat_eq_append,show l.length-(i+1)=l.length-1-i by omega]
   rw [hs,X7j]
   by_cases h3:l[l.length-1-i].Day≤d
   ·simp [h3,h1]
   ·simp only [h3,decide_false,cond_false,jS,Sum.elim_inl,if_false]
    exact hR')
 have:=key 0 () (by omega) trivial
 unfold X1F
 simpa using this
theorem X8P (l:List Zj) (h:X3B l=0):l.length≤4:=by
 unfold X3B at h
 cases ho:X4 1 4 [(l.length:Int)]
 ·simp at ho;omega
 ·rw [ho] at h;simp at h
theorem X8v (sands:List CtSand):∀ (l:List Zx) (i:Nat) (names:List ByteArray),(X52 sands i names l).2.2=0→∀ m∈l,X3f 30000 m.At=false∧m.Hz3.length≤4
 | [],_,_,_,m,hm=>by cases hm
 | x::l,i,names,h,m,hm=>by
  simp only [X52] at h
  by_cases h0:X3J x names=0
  ·simp only [h0,if_true] at h
   rcases List.mem_cons.1 hm with e|e
   ·subst e
    unfold X3J at h0
    by_cases h1:X18 m.Name names=0
    ·simp only [h1,if_true] at h0
     cases hf:X3f 30000 m.At
     ·rw [hf] at h0
      exact ⟨rfl,X8P _ (by simpa using h0)⟩
     ·rw [hf] at h0;simp at h0
    ·simp only [h1,if_false] at h0
   ·exact X8v sands l _ _ h m e
  ·simp only [h0,if_false] at h
structure W6 (f:ZI):Prop where
 chart:(X45 f.Hz9).2.2=0
 marks:f.Hz9.Hz8.length≤8
 mark:∀ m∈f.Hz9.Hz8,X3f 30000 m.At=false∧m.Hz3.length≤4
 day:0≤f.Day∧f.Day≤40000
 step:1≤f.Step∧f.Step≤500
 half:0≤f.Half∧f.Half≤8
 inst:1≤f.Hz0.length∧f.Hz0.length≤4
 off:∀ x∈f.Hz0,-X3T x≤x.Off.Lo∧x.Off.Lo≤x.Off.Hi∧x.Off.Hi≤X3T x
 areas:f.Hz7.length≤6
 area:∀ a∈f.Hz7,X4H a=0
theorem X8s:∀ (l:List Z5) (i:Nat) (names:List ByteArray),(X1R i names l).2.2=0→∀ x∈l,-X3T x≤x.Off.Lo∧x.Off.Lo≤x.Off.Hi∧x.Off.Hi≤X3T x
 | [],_,_,_,m,hm=>by cases hm
 | x::l,i,names,h,m,hm=>by
  simp only [X1R] at h
  by_cases h0:X7d x names=0
  ·simp only [h0,if_true] at h
   rcases List.mem_cons.1 hm with e|e
   ·subst e
    unfold X7d at h0
    by_cases h1:X18 m.Name names=0
    ·simp only [h1,ne_eq,not_true,if_false] at h0
     cases ho:X4 (-X3T m) (X3T m) [m.Off.Lo,m.Off.Hi]
     ·rw [ho] at h0
      simp at ho h0
      omega
     ·rw [ho] at h0;simp at h0
    ·simp only [ne_eq,h1,not_false_eq_true,if_true] at h0
   ·exact X8s l _ _ h m e
  ·simp only [h0,if_false] at h
theorem X8m:∀ (l:List Zt) (i:Nat),(X2W i l).2.2=0→∀ x∈l,X4H x=0
 | [],_,_,m,hm=>by cases hm
 | x::l,i,h,m,hm=>by
  simp only [X2W] at h
  by_cases h0:X4H x=0
  ·simp only [h0,if_true] at h
   rcases List.mem_cons.1 hm with e|e
   ·subst e;exact h0
   ·exact X8m l _ h m e
  ·simp only [h0,if_false] at h
theorem X6P {f:ZI} (h:(X1H f).2.2=0):W6 f:=by
 unfold X1H at h
 by_cases h1:(X45 f.Hz9).2.2=0
 ·simp only [h1,ne_eq,not_true,if_false] at h
  cases h2:(X4 0 40000 [f.Day]||X4 1 500 [f.Step]||X4 0 8 [f.Half])
  ·rw [h2] at h
   cases h3:X4 1 4 [(f.Hz0.length:Int)]
   ·rw [h3] at h
    simp only [Bool.false_eq_true,if_false] at h
    by_cases h4:(X1R 0 [] f.Hz0).2.2=0
    ·simp only [h4,ne_eq,not_true,if_false] at h
     by_cases h5:6<f.Hz7.length
     ·rw [if_pos h5] at h;simp at h
     ·rw [if_neg h5] at h
      simp at h2 h3
      have hm:¬ 8<f.Hz9.Hz8.length:=fun q=>by unfold X45 at h1;rw [if_pos q] at h1;simp at h1
      have h1':=h1
      unfold X45 at h1'
      rw [if_neg hm] at h1'
      exact ⟨h1,by omega,X8v _ _ _ _ h1',by omega,by omega,by omega,by omega,X8s _ _ _ h4,by omega,X8m _ _ h⟩
    ·exfalso
     rw [if_pos h4] at h;exact h4 h
   ·rw [h3] at h;simp at h
  ·rw [h2] at h;simp at h
 ·rw [if_pos h1] at h;exact absurd h h1
theorem X57 {f:ZI} (hg:W6 f) (mark:Int) (h0:0≤mark) (h1:mark<f.Hz9.Hz8.length) :
  X3d f.Hz9 f.Day mark=some (f.Hz9.Hz8.getD mark.toNat ⟨ByteArray.empty,⟨0,0⟩,[]⟩,X4y (f.Hz9.Hz8.getD mark.toNat ⟨ByteArray.empty,⟨0,0⟩,[]⟩) f.Day,0):=by
 rw [X5A];unfold X1L
 have hm:=hg.marks
 have hd:=hg.day
 have hj:mark.toNat<f.Hz9.Hz8.length:=by omega
 have hp:=(hg.mark _ (List.getElem_mem hj)).2
 have hw:IntKind.wrap .i64 ((f.Hz9.Hz8.length:Int)-1)=(f.Hz9.Hz8.length:Int)-1:=by rw [w64]<;>omega
 rw [X5N,WQ _ _ _ (by simp),WQ _ _ _ (by simp),hw]
 have o1:X4 0 40000 [f.Day]=false:=by simp;omega
 have o2:X4 0 ((f.Hz9.Hz8.length:Int)-1) [mark]=false:=by simp;omega
 have e1:decide (0≤mark)=true:=by simp [h0]
 have e2:decide (mark<(f.Hz9.Hz8.length:Int))=true:=by simp [h1]
 simp only [jS,hg.chart,bne_self_eq_false,cond_false,o1,o2,e1,e2,Bool.and_self,cond_true,X1 _ _ _ hj]
 have hw2:IntKind.wrap .i64 ((f.Hz9.Hz8[mark.toNat].Hz3.length:Int)-1)=(f.Hz9.Hz8[mark.toNat].Hz3.length:Int)-1:=by rw [w64]<;>omega
 rw [hw2]
 exact X8u f.Day _ (by omega) _ _ (fun p c e=>rfl) rfl
def Z8J (f:ZI) (mark:Int):Zx:=f.Hz9.Hz8.getD mark.toNat ⟨ByteArray.empty,⟨0,0⟩,[]⟩
def X3F (f:ZI) (mark:Int):Bool:=X4y (Z8J f mark) f.Day != 0
theorem X8U {f:ZI} (hg:W6 f) (mark:Int) (h0:0≤mark) (h1:mark<f.Hz9.Hz8.length) (l:List Zm) (kit:Nat→Nat) (m:List (Zh×Int)) :
  XR (mark,f,l,kit,m)=some (X3F f mark,f,l,kit,m):=by
 rw [X3l];unfold XA
 rw [X5y];unfold X1K
 rw [X57 hg mark h0 h1]
 rfl
def Kit (f:ZI) (kit:Nat→Nat):Prop:=∀ i,(h:i<f.Hz0.length)→kit i=if f.Hz0[i].Lead then 2 else 1
def Xp (f:ZI) (i:Int):Z5:=f.Hz0.getD i.toNat ⟨ByteArray.empty,false,⟨0,0⟩⟩
def Xa (f:ZI) (x:Zm):Int :=
 if X4 0 ((f.Hz0.length:Int)-1) [x.Hz1] then 4 else
 if (Xp f x.Hz1).Lead then (if X4 0 1000 [x.Hz6]||X4 0 4 [x.Hz5] then 7 else if x.Mark≠0 then 2 else 0)
 else if X4 0 ((f.Hz9.Hz8.length:Int)-1) [x.Mark] then 4 else if X3F f x.Mark=false then 9 else if X4 0 31 [x.Hz6] then 7 else if x.Hz5≠0 then 7 else 0
theorem X9h {f:ZI} (hg:W6 f) (x:Zm) (l:List Zm) {kit:Nat→Nat} (hk:Kit f kit) (m:List (Zh×Int)) :
  X15 (x,f,l,kit,m)=some (Xa f x,f,l,kit,m):=by
 rw [X3H];unfold XK Xa
 have hm:=hg.marks
 have hi:=hg.inst
 have hw:IntKind.wrap .i64 ((f.Hz9.Hz8.length:Int)-1)=(f.Hz9.Hz8.length:Int)-1:=by rw [w64]<;>omega
 have hw2:IntKind.wrap .i64 ((f.Hz0.length:Int)-1)=(f.Hz0.length:Int)-1:=by rw [w64]<;>omega
 simp only [hw,hw2]
 rw [X2 _ _ _ (by simp),X2 _ _ _ (by simp),X2 _ _ _ (by simp),X2 _ _ _ (by simp),X2 _ _ _ (by simp)]
 simp only [jS]
 cases ho:X4 0 ((f.Hz0.length:Int)-1) [x.Hz1]
 ·simp at ho
  have hj:x.Hz1.toNat<f.Hz0.length:=by omega
  have e1:decide (0≤x.Hz1)=true:=by simp;omega
  have e2:decide (x.Hz1<((4:Nat):Int))=true:=by simp;omega
  have e3:Nat.blt x.Hz1.toNat 4=true:=by rw [Tr.blt_dec];simp;omega
  have hkk:=hk _ hj
  have hio:Xp f x.Hz1=f.Hz0[x.Hz1.toNat]:=X1 _ _ _ hj
  rw [hio]
  have e2':decide (x.Hz1<(4:Int))=true:=by simp;omega
  simp only [cond_false,Bool.false_eq_true,if_false,e1,e2,e2',e3,Bool.and_self,cond_true]
  cases hL:f.Hz0[x.Hz1.toNat].Lead
  ·rw [hL] at hkk
   simp only [Bool.false_eq_true,if_false] at hkk
   simp only [hkk,show Nat.beq 1 0=false from rfl,show Nat.beq 1 1=true from rfl,cond_false,cond_true,Bool.false_eq_true,if_false]
   cases hmk:X4 0 ((f.Hz9.Hz8.length:Int)-1) [x.Mark]
   ·simp at hmk
    simp only [cond_false,Bool.false_eq_true,if_false]
    rw [X8U hg x.Mark (by omega) (by omega)]
    simp only [jS]
    cases X3F f x.Mark
    ·simp
    ·cases X4 0 31 [x.Hz6]
     ·by_cases h5:x.Hz5=0<;>simp [h5,X12]
     ·simp
   ·simp
  ·rw [hL] at hkk
   simp only [if_true] at hkk
   simp only [hkk,show Nat.beq 2 0=false from rfl,show Nat.beq 2 1=false from rfl,show Nat.beq 2 (1+1)=true from rfl,cond_false,cond_true,if_true]
   cases X4 0 1000 [x.Hz6]
   ·cases X4 0 4 [x.Hz5]
    ·by_cases h5:x.Mark=0<;>simp [h5,X12]
    ·simp
   ·simp
 ·simp
theorem X7t {f:ZI} (hg:W6 f) (x:Zm):X4Z f x=some (Xa f x):=by
 rw [X68];unfold X2c Xa
 have hm:=hg.marks
 have hi:=hg.inst
 have hw:IntKind.wrap .i64 ((f.Hz9.Hz8.length:Int)-1)=(f.Hz9.Hz8.length:Int)-1:=by rw [w64]<;>omega
 have hw2:IntKind.wrap .i64 ((f.Hz0.length:Int)-1)=(f.Hz0.length:Int)-1:=by rw [w64]<;>omega
 simp only [hw,hw2]
 rw [XQ,XQ,XQ,XQ,XQ,X1k,X1k,X1k,X1k,X1k]
 simp only [jS,Bool.not_not]
 cases ho:X4 0 ((f.Hz0.length:Int)-1) [x.Hz1]
 ·simp at ho
  have hj:x.Hz1.toNat<f.Hz0.length:=by omega
  have e1:decide (0≤x.Hz1)=true:=by simp;omega
  have e2:decide (x.Hz1<(f.Hz0.length:Int))=true:=by simp;omega
  have hio:Xp f x.Hz1=f.Hz0[x.Hz1.toNat]:=X1 _ _ _ hj
  rw [hio]
  simp only [cond_false,Bool.false_eq_true,if_false,e1,e2,Bool.and_self,cond_true,X1 _ _ _ hj]
  cases hL:f.Hz0[x.Hz1.toNat].Lead
  ·simp only [cond_false,Bool.false_eq_true,if_false]
   cases hmk:X4 0 ((f.Hz9.Hz8.length:Int)-1) [x.Mark]
   ·simp at hmk
    have hj2:x.Mark.toNat<f.Hz9.Hz8.length:=by omega
    have e3:decide (0≤x.Mark)=true:=by simp;omega
    have e4:decide (x.Mark<(f.Hz9.Hz8.length:Int))=true:=by simp;omega
    have hp:=(hg.mark _ (List.getElem_mem hj2)).2
    simp only [cond_false,Bool.false_eq_true,if_false,e3,e4,Bool.and_self,cond_true,X1 _ _ _ hj2]
    rw [X4V _ _ (by omega)]
    unfold X3F Z8J
    rw [X1 _ _ _ hj2]
    simp only [jS]
    by_cases h0:X4y f.Hz9.Hz8[x.Mark.toNat] f.Day=0
    ·simp [h0]
    ·simp only [X3S h0,X12 h0,cond_false,Bool.true_eq_false,if_false]
     cases X4 0 31 [x.Hz6]
     ·by_cases h5:x.Hz5=0<;>simp [h5,X12]
     ·simp
   ·simp
  ·simp only [cond_true,if_true]
   cases X4 0 1000 [x.Hz6]
   ·cases X4 0 4 [x.Hz5]
    ·by_cases h5:x.Mark=0<;>simp [h5,X12]
    ·simp
   ·simp
 ·simp
def XU (f:ZI):Nat→List Zm→Int×Int
 | _,[]=>(0,0)
 | i,x::l=>if Xa f x=0 then XU f (i+1) l else ((i:Int),Xa f x)
def Wk (f:ZI) (l:List Zm):Int×Int:=if (X1H f).2.2≠0 then (0,(X1H f).2.2) else if 8<l.length then (0,3) else XU f 0 l
theorem X5K (f:ZI) (l:List Zm):X2j f l=some (Wk f l):=by
 rw [X41];unfold XW Wk
 rw [X5I]
 simp only [jS]
 by_cases h:(X1H f).2.2=0
 ·have hg:=X6P h
  simp only [h,beq_self_eq_true,cond_true,bne_self_eq_false,cond_false,ne_eq,not_true,if_false]
  by_cases h8:8<l.length
  ·have:decide ((l.length:Int)>8)=true:=by simp;omega
   rw [this];simp [h8]
  ·have:decide ((l.length:Int)>8)=false:=by simp;omega
   rw [this]
   simp only [cond_false,h8,if_false]
   exact X5 (Xi l f) _ l.length (fun i (_:Unit)=>(i:Int)) (fun _ _=>True) (fun i _=>some (XU f i (l.drop i)))
    (by
     intro b _ R
     simp [Xi,Xn,XU])
    (by
     intro i b hi _ R hR
     have hR':=hR () trivial
     simp only [Xi,Xn]
     rw [List.drop_eq_getElem_cons hi]
     have hw:=wS i (by omega)
     simp only [kS,X1 _ _ _ hi,hw,XU]
     rw [X7t hg]
     have h1:decide ((i:Int)<↑l.length)=true:=by simp [hi]
     have h2:=z0S i
     simp only [h1,h2,Bool.and_self,cond_true,jS]
     by_cases he:Xa f l[i]=0
     ·simp only [he,bne_self_eq_false,cond_false,jS,Sum.elim_inl,if_true]
      exact hR'
     ·simp [he,X12 he]) 0 () (by omega) trivial
 ·simp [h,X12 h,X3S h]
theorem X9s (f:ZI) (hi:f.Hz0.length≤4):∃ kit,X2Y f.Hz0 (↑f.Hz0.length) (0,fun _=>0)=some kit∧Kit f kit:=by
 have key:∀ j i (b:Nat→Nat),f.Hz0.length-i=j→i≤f.Hz0.length→(∀ q,(h:q<f.Hz0.length)→q<i→b q=if f.Hz0[q].Lead then 2 else 1) →
   ∃ kit,Z93 (Wo f.Hz0 (↑f.Hz0.length)) ((i:Int),b)=some kit∧Kit f kit:=fun j=>by
  induction j with
  | zero =>
   intro i b hj hil hb
   have:i=f.Hz0.length:=by omega
   subst this
   refine ⟨b,?_,fun q hq=>hb q hq hq⟩
   rw [←X2l (Z93 _ _),X43]
   simp [Wo,WD]
  | succ j ih =>
   intro i b hj hil hb
   have hlt:i<f.Hz0.length:=by omega
   have hw:=wS i (by omega)
   have e1:decide ((i:Int)<↑f.Hz0.length)=true:=by simp [hlt]
   have e2:=z0S i
   have e3:decide ((i:Int)<((4:Nat):Int))=true:=by simp;omega
   have e3':decide ((i:Int)<(4:Int))=true:=by simp;omega
   have e4:Nat.blt i 4=true:=by rw [Tr.blt_dec];simp;omega
   obtain ⟨kit,h1,h2⟩:=ih (i+1) (fun q=>if q=i then (if f.Hz0[i].Lead then 2 else 1) else b q) (by omega) (by omega) (fun q hq hq2=>by
    by_cases e:q=i
    ·subst e;simp
    ·simp only [e,if_false];exact hb q hq (by omega))
   refine ⟨kit,?_,h2⟩
   rw [←X2l (Z93 _ _),X43]
   simp only [Wo,WD,kS,X1 _ _ _ hlt,hw,e1,e2,e3,e3',e4,Bool.and_self,cond_true]
   have hfun:(fun j=>bif Nat.beq j i then 1+1 else bif Nat.beq j i then 1 else b j)=fun q=>if q=i then 2 else b q:=by
    funext q;rw [Tr.beq_dec];by_cases e:q=i<;>simp [e]
   have hfun2:(fun j=>bif Nat.beq j i then 1 else b j)=fun q=>if q=i then 1 else b q:=by
    funext q;rw [Tr.beq_dec];by_cases e:q=i<;>simp [e]
   rw [hfun,hfun2]
   cases hL:f.Hz0[i].Lead
   ·rw [hL] at h1
    simp only [Bool.false_eq_true,if_false] at h1
    simp only [cond_false,jS,Sum.elim_inl]
    rw [X2l];exact h1
   ·rw [hL] at h1
    simp only [if_true] at h1
    simp only [cond_true,jS,Sum.elim_inl]
    rw [X2l];exact h1
 exact key _ 0 _ rfl (by omega) (fun q _ h=>by omega)
theorem X9e {f:ZI} (hg:W6 f) (l:List Zm) (h8:l.length≤8) {kit:Nat→Nat} (hk:Kit f kit) {γ:Type} (k:_→Option γ) :
  Option.bind (X2Z l (↑l.length) (0,f,l,kit,[])) k=if (XU f 0 l).2=0 then k (.inr (f,l,kit,[])) else k (.inl ((XU f 0 l).2,(XU f 0 l).1,f,l,kit,l.getD (XU f 0 l).1.toNat ⟨0,0,0,0⟩,l.getD (XU f 0 l).1.toNat ⟨0,0,0,0⟩,[])):=by
 refine (X5 (Wp l (↑l.length)) k l.length (fun i (_:Unit)=>((i:Int),f,l,kit,[])) (fun _ _=>True) (fun i _=>if (XU f i (l.drop i)).2=0 then k (.inr (f,l,kit,[])) else k (.inl ((XU f i (l.drop i)).2,(XU f i (l.drop i)).1,f,l,kit,l.getD (XU f i (l.drop i)).1.toNat ⟨0,0,0,0⟩,l.getD (XU f i (l.drop i)).1.toNat ⟨0,0,0,0⟩,[])))
  (by
   intro b _ R
   simp [Wp,WE,XU])
  (by
   intro i b hi _ R hR
   have hR':=hR () trivial
   simp only [Wp,WE]
   rw [List.drop_eq_getElem_cons hi]
   have hw:=wS i (by omega)
   simp only [kS,X1 _ _ _ hi,hw,XU]
   rw [X9h hg _ _ hk]
   have h1:decide ((i:Int)<↑l.length)=true:=by simp [hi]
   have h2:=z0S i
   simp only [h1,h2,Bool.and_self,cond_true,jS]
   by_cases he:Xa f l[i]=0
   ·simp only [he,bne_self_eq_false,cond_false,jS,Sum.elim_inl,if_true]
    exact hR'
   ·simp only [X12 he,cond_true,jS,Sum.elim_inr,if_neg he]
    rw [show ((i:Int)).toNat=i from rfl,X1 _ _ _ hi]) 0 () (by omega) trivial).trans (by simp)
theorem X9a (f:ZI) (l:List Zm):((X1H f).2.2≠0∨8<l.length)∧X2B (l,f)=some (.inl (Wk f l).2)∧(Wk f l).2≠0 ∨
  ∃ kit,W6 f∧l.length≤8∧Kit f kit∧X2B (l,f)=some (.inr ((Wk f l).2,f,l,kit,[])):=by
 rw [X5E];unfold X1Q
 rw [X5R];unfold X26
 rw [X7V]
 unfold Wk
 simp only [jS]
 by_cases h:(X1H f).2.2=0
 ·have hg:=X6P h
  simp only [h,bne_self_eq_false,cond_false,ne_eq,not_true,if_false]
  by_cases h8:8<l.length
  ·have:decide ((l.length:Int)>8)=true:=by simp;omega
   rw [this];simp [h8]
  ·have:decide ((l.length:Int)>8)=false:=by simp;omega
   rw [this]
   simp only [cond_false,h8,if_false]
   obtain ⟨kit,hk1,hk2⟩:=X9s f hg.inst.2
   refine .inr ⟨kit,hg,by omega,hk2,?_⟩
   rw [hk1,jS]
   rw [X9e hg l (by omega) hk2]
   by_cases he:(XU f 0 l).2=0<;>simp [he]
 ·left
  simp [h,X12 h]
end Nore
open Go Go.Ab
namespace Nore
theorem X5i {β σ ω γ:Type} (st:σ→Option (σ⊕ω)) (k:ω→Option γ) (n:Nat) (emb:Nat→β→σ) (P:Nat→β→Prop) (Q:Nat→β→Option γ→Prop)
  (hd:∀ b,P n b→∀ R:σ→Option γ,Q n b (Option.bind (st (emb n b)) (Sum.elim R k)))
  (hn:∀ i b,i<n→P i b→∀ R:σ→Option γ,(∀ b',P (i+1) b'→Q (i+1) b' (R (emb (i+1) b')))→Q i b (Option.bind (st (emb i b)) (Sum.elim R k))) :
  ∀ i b,i≤n→P i b→Q i b (Option.bind (Z93 st (emb i b)) k):=by
 intro i b hi hP
 induction hj:n-i generalizing i b with
 | zero =>
  have:i=n:=by omega
  subst this
  rw [X43];exact hd b hP _
 | succ j ih =>
  rw [X43]
  exact hn i b (by omega) hP _ fun b' hb'=>ih (i+1) b' (by omega) hb' (by omega)
instance decPoint:DecidableEq Zu:=fun a b=>decidable_of_iff (a.X=b.X∧a.Y=b.Y) ⟨fun h=>Zu.ext h.1 h.2,fun h=>by subst h;exact ⟨rfl,rfl⟩⟩
def X4z (v:Zu):Int×Zu :=
 if 0≤v.X∧0<v.Y then (0,v) else if 0<v.X∧v.Y≤0 then (8,⟨-v.Y,v.X⟩) else if v.X≤0∧v.Y<0 then (16,⟨-v.X,-v.Y⟩) else (24,⟨v.Y,-v.X⟩)
def X6:List Zu:=[⟨0,1000⟩,⟨195,981⟩,⟨383,924⟩,⟨556,831⟩,⟨707,707⟩,⟨831,556⟩,⟨924,383⟩,⟨981,195⟩]
def X6D (v:Zu) (l:List Zu):Nat:=l.countP fun q=>decide (q.X*v.Y-q.Y*v.X≤0)
def X5t (v:Zu):Int:=(X4z v).1+(X6D (X4z v).2 X6:Nat)-1
theorem X91 {v:Zu} (hb : -60000≤v.X∧v.X≤60000 ∧ -60000≤v.Y∧v.Y≤60000) (h0:¬ (v.X=0∧v.Y=0)):0≤(X4z v).1∧(X4z v).1≤24∧0≤(X4z v).2.X∧(X4z v).2.X≤60000∧0<(X4z v).2.Y∧(X4z v).2.Y≤60000:=by
 unfold X4z
 split
 ·simp only;omega
 ·split
  ·simp only;omega
  ·split<;>simp only<;>omega
theorem X8h {γ:Type} (v:Zu) (hb : -60000≤v.X∧v.X≤60000 ∧ -60000≤v.Y∧v.Y≤60000) (h0:¬ (v.X=0∧v.Y=0)) (k:Int×Zu→Option γ) :
  Option.bind (X1G (0,v)) k=k (X4z v):=by
 obtain ⟨x,y⟩:=v
 simp only at hb h0
 have stop:∀ (n:Int) (x y:Int),0≤x→0<y→Option.bind (Z93 Xc (n,⟨x,y⟩)) k=k (n,⟨x,y⟩):=fun n x y hx hy=>by
  rw [X43]
  have e1:decide (x<0)=false:=by simp;omega
  have e2:decide (y≤0)=false:=by simp;omega
  simp only [Xc,Xw,e1,e2,cond_false,jS,Sum.elim_inr]
 have go:∀ (n:Int) (x y:Int),0≤n→n≤24 → -60000≤x→x≤60000 → -60000≤y→y≤60000→(x<0∨y≤0)→Option.bind (Z93 Xc (n,⟨x,y⟩)) k=Option.bind (Z93 Xc (n+8,⟨-y,x⟩)) k:=fun n x y h1 h2 h3 h4 h5 h6 h7=>by
  rw [X43]
  have w1:IntKind.wrap .i64 (n+8)=n+8:=by rw [w64]<;>omega
  have w2:IntKind.wrap .i64 (0-y) = -y:=by rw [w64]<;>omega
  by_cases e1:x<0
  ·simp only [Xc,Xw,e1,decide_true,cond_true,jS,Sum.elim_inl,w1,w2]
  ·have e2:y≤0:=by omega
   simp only [Xc,Xw,e1,e2,decide_true,decide_false,cond_true,cond_false,jS,Sum.elim_inl,w1,w2]
 unfold X1G X4z
 simp only
 by_cases c1:0≤x∧0<y
 ·rw [if_pos c1];exact stop _ _ _ c1.1 c1.2
 ·rw [if_neg c1]
  by_cases c2:0<x∧y≤0
  ·rw [if_pos c2,go 0 x y (by omega) (by omega) (by omega) (by omega) (by omega) (by omega) (by omega)]
   exact stop _ _ _ (by omega) (by omega)
  ·rw [if_neg c2]
   by_cases c3:x≤0∧y<0
   ·rw [if_pos c3,go 0 x y (by omega) (by omega) (by omega) (by omega) (by omega) (by omega) (by omega),go _ _ _ (by omega) (by omega) (by omega) (by omega) (by omega) (by omega) (by omega)]
    exact stop _ _ _ (by omega) (by omega)
   ·rw [if_neg c3,go 0 x y (by omega) (by omega) (by omega) (by omega) (by omega) (by omega) (by omega),go _ _ _ (by omega) (by omega) (by omega) (by omega) (by omega) (by omega) (by omega),go _ _ _ (by omega) (by omega) (by omega) (by omega) (by omega) (by omega) (by omega)]
    rw [show (- - y:Int)=y by omega]
    exact stop _ _ _ (by omega) (by omega)
theorem X8i {γ:Type} (q:Nat→Zu) (hq:∀ i,(h:i<8)→q i=X6[i]) (v:Zu) (hb:0≤v.X∧v.X≤60000∧0≤v.Y∧v.Y≤60000) (n:Int) (hn:0≤n∧n≤24) (k:Int→Option γ) :
  Option.bind (X2I q v (n,0)) k=k (n+(X6D v X6:Nat)):=by
 refine (X5 (XZ q v) k 8 (fun i (b:Int)=>(b,(i:Int))) (fun i b=>0≤b∧b≤24+i) (fun i b=>k (b+(X6D v (X6.drop i):Nat))) ?_ ?_ 0 n (by omega) (by omega)).trans (by simp)
 ·intro b _ R
  simp [XZ,W9,X6D,X6]
 ·intro i b hi hP R hR
  simp only [XZ,W9]
  rw [List.drop_eq_getElem_cons (show i<X6.length from hi)]
  have hw:=wS i (by omega)
  have hwb:IntKind.wrap .i64 (b+1)=b+1:=by rw [w64]<;>omega
  have e1:decide ((i:Int)<8)=true:=by simp;omega
  have e2:=z0S i
  have e3:decide ((i:Int)<((8:Nat):Int))=true:=by simp;omega
  have hqb:0≤(X6[i]'hi).X∧(X6[i]'hi).X≤1000∧0≤(X6[i]'hi).Y∧(X6[i]'hi).Y≤1000:=by
   have:i=0∨i=1∨i=2∨i=3∨i=4∨i=5∨i=6∨i=7:=by omega
   rcases this with rfl|rfl|rfl|rfl|rfl|rfl|rfl|rfl<;>simp [X6]
  have b1:=X4w (a:=(X6[i]'hi).X) (b:=v.Y) 1000 60000 (by omega) (by omega) (by omega) (by omega)
  have b2:=X4w (a:=(X6[i]'hi).Y) (b:=v.X) 1000 60000 (by omega) (by omega) (by omega) (by omega)
  simp only [kS,hq i hi,hw,hwb]
  rw [w64 (x:=(X6[i]'hi).X*v.Y) (by omega) (by omega),w64 (x:=(X6[i]'hi).Y*v.X) (by omega) (by omega),w64 (x:=(X6[i]'hi).X*v.Y-_) (by omega) (by omega)]
  simp only [e1,e2,e3,Bool.and_self,cond_true]
  unfold X6D at hR ⊢
  generalize X6[i]'hi=Q at *
  by_cases h:Q.X*v.Y-Q.Y*v.X≤0
  ·rw [List.countP_cons_of_pos (by simpa using h)]
   simp only [h,decide_true,cond_true,jS,Sum.elim_inl]
   rw [hR (b+1) (by omega)]
   congr 1
   push_cast
   omega
  ·rw [List.countP_cons_of_neg (by simpa using h)]
   simp only [h,decide_false,cond_false,jS,Sum.elim_inl]
   exact hR b (by omega)
theorem X72 (v:Zu) (hb : -60000≤v.X∧v.X≤60000 ∧ -60000≤v.Y∧v.Y≤60000) (h0:¬ (v.X=0∧v.Y=0)):X4i v=some (X5t v):=by
 rw [X5C];unfold X1N
 have hq:=X91 hb h0
 rw [X8h v hb h0,X8i _ (fun i hi=>by
   have:i=0∨i=1∨i=2∨i=3∨i=4∨i=5∨i=6∨i=7:=by omega
   rcases this with rfl|rfl|rfl|rfl|rfl|rfl|rfl|rfl<;>rfl) _ (by omega) _ (by omega)]
 have hc:X6D (X4z v).2 X6≤8:=List.countP_le_length (l:=X6)
 unfold X5t
 rw [w64 (by omega) (by omega)]
theorem X8w {v:Zu} (hb : -60000≤v.X∧v.X≤60000 ∧ -60000≤v.Y∧v.Y≤60000) (h0:¬ (v.X=0∧v.Y=0)):0≤X5t v∧X5t v≤31:=by
 have hq:=X91 hb h0
 have hc:X6D (X4z v).2 X6≤8:=List.countP_le_length (l:=X6)
 have h1:1≤X6D (X4z v).2 X6:=by
  unfold X6D X6
  rw [List.countP_cons_of_pos (by simp;omega)]
  omega
 unfold X5t
 omega
def X50 (f:ZI) (mark:Int) (p:Zu):Int×Int :=
 if X3F f mark=false then (0,9) else if X3f 30000 p then (0,7) else if (Z8J f mark).At=p then (0,8) else (X5t (XI (Z8J f mark).At p),0)
def X3K (f:ZI) (mark:Int) (p:Zu):Int:=if (X50 f mark p).2≠0 then -1 else (X50 f mark p).1
theorem X7v {f:ZI} (hg:W6 f) {mark:Int} (h0:0≤mark) (h1:mark<f.Hz9.Hz8.length):Bd 30000 (Z8J f mark).At:=by
 have hj:mark.toNat<f.Hz9.Hz8.length:=by omega
 have:=(hg.mark _ (List.getElem_mem hj)).1
 rw [X6J] at this
 unfold Z8J
 rw [X1 _ _ _ hj];exact this
theorem X7z {f:ZI} (hg:W6 f) (mark:Int) (h0:0≤mark) (h1:mark<f.Hz9.Hz8.length) (p:Zu):X5k f.Hz9 f.Day mark p=some (X50 f mark p):=by
 rw [X6l];unfold X2m X50
 rw [X4J];unfold X14
 rw [X57 hg mark h0 h1]
 have hb:=X7v hg h0 h1
 unfold X3F Z8J at *
 generalize hM:f.Hz9.Hz8.getD mark.toNat ⟨ByteArray.empty,⟨0,0⟩,[]⟩=M at *
 simp only [jS,beq_self_eq_true,cond_true]
 by_cases hp:X4y M f.Day=0
 ·simp [hp]
 ·simp only [X3S hp,cond_false,jS,bne_self_eq_false,X12 hp,Bool.true_eq_false,if_false]
  rw [X5l _ (by omega) _ (by simp)]
  simp only [jS,List.any_cons,List.any_nil,Bool.or_false]
  cases hf:X3f 30000 p
  ·rw [X6J] at hf
   unfold Bd at hb hf
   simp only [cond_false,Bool.false_eq_true,if_false,Bool.and_true]
   by_cases he:M.At=p
   ·subst he;simp
   ·have:(M.At.X==p.X&&M.At.Y==p.Y)=false:=by
     cases hc:(M.At.X==p.X&&M.At.Y==p.Y)
     ·rfl
     ·exfalso;simp at hc;exact he (Zu.ext hc.1 hc.2)
    rw [this,if_neg he]
    simp only [cond_false]
    rw [w64 (x:=M.At.X-p.X) (by omega) (by omega),w64 (x:=M.At.Y-p.Y) (by omega) (by omega)]
    have h00:¬ (M.At.X-p.X=0∧M.At.Y-p.Y=0):=fun q=>he (Zu.ext (by omega) (by omega))
    rw [X72 _ (by simp only;omega) h00]
    rfl
  ·simp
theorem X93 {f:ZI} (hg:W6 f) {mark:Int} (h0:0≤mark) (h1:mark<f.Hz9.Hz8.length) (p:Zu) : -1≤X3K f mark p∧X3K f mark p≤31:=by
 have hb:=X7v hg h0 h1
 unfold X3K X50
 by_cases h:X3F f mark=false
 ·simp [h]
 ·rw [if_neg h]
  by_cases h3:X3f 30000 p=true
  ·simp [h3]
  ·rw [if_neg h3]
   by_cases h4:(Z8J f mark).At=p
   ·simp [h4]
   ·rw [if_neg h4]
    simp only [Bool.not_eq_true] at h3
    rw [X6J] at h3
    unfold Bd at hb h3
    have:=X8w (v:=XI (Z8J f mark).At p) (by unfold XI;simp only;omega) (fun q=>h4 (by unfold XI at q;simp only at q;exact Zu.ext (by omega) (by omega)))
    simp only [ne_eq,not_true,if_false]
    omega
theorem X5w (a b:Zh):Zh.eqb a b=true↔a=b:=by
 obtain ⟨m,⟨x,y⟩⟩:=a
 obtain ⟨m',⟨x',y'⟩⟩:=b
 simp [Zh.eqb]
theorem X7i {v:Int} (s k:Zh):∀ m:List (Zh×Int),Z8K Zh.eqb s (ZgG Zh.eqb k v m)=bif Zh.eqb s k then some v else Z8K Zh.eqb s m
 | []=>by
  simp only [ZgG,Z8K]
 | (a,b)::m=>by
  have ih:=X7i (v:=v) s k m
  simp only [ZgG]
  have sym:∀ x y,Zh.eqb x y=Zh.eqb y x:=fun x y=>by
   cases h:Zh.eqb y x with
   | true=>rw [(X5w _ _).1 h,(X5w x x).2 rfl]
   | false=>cases h2:Zh.eqb x y with
    | false=>rfl
    | true=>rw [(X5w _ _).1 h2,(X5w y y).2 rfl] at h;cases h
  cases e:Zh.eqb a k with
  | true =>
   have:=(X5w _ _).1 e
   subst this
   simp only [e,cond_true,Z8K]
   cases Zh.eqb s a<;>rfl
  | false =>
   have e6:Zh.eqb k a=false:=by rw [sym];exact e
   simp only [e,e6,cond_false,Z8K,ih]
   cases h:Zh.eqb s k with
   | true =>
    have:=(X5w _ _).1 h
    subst this
    simp [e,e6]
   | false=>rfl
def Wx (f:ZI) (m:List (Zh×Int)):Prop:=∀ (mark:Int) p n,0≤mark→mark<f.Hz9.Hz8.length→Z8K Zh.eqb ⟨mark,p⟩ m=some n→n=X3K f mark p
theorem X8H (f:ZI):Wx f []:=fun _ _ _ _ _ h=>by cases h
theorem X8W {f:ZI} (hg:W6 f) {mark:Int} (h0:0≤mark) (h1:mark<f.Hz9.Hz8.length) (p:Zu) (l:List Zm) (kit:Nat→Nat) {m:List (Zh×Int)} (hm:Wx f m) :
  ∃ m',Wx f m'∧XS (mark,p,f,l,kit,m)=some (X3K f mark p,f,l,kit,m'):=by
 rw [X3q];unfold XC
 cases hf:Z8K Zh.eqb ⟨mark,p⟩ m with
 | some n=>exact ⟨m,hm,by simp only [hf,Option.isSome_some,Bool.not_true,cond_false,Option.getD_some];rw [hm _ _ _ h0 h1 hf]⟩
 | none =>
  simp only [hf,Option.isSome_none,Bool.not_false,cond_true]
  rw [X7z hg mark h0 h1]
  have put:∀ v,v=X3K f mark p→Wx f (ZgG Zh.eqb ⟨mark,p⟩ v m):=fun v hv mk q n k0 k1 hq=>by
   rw [X7i] at hq
   cases e:Zh.eqb ⟨mk,q⟩ ⟨mark,p⟩ with
   | true =>
    rw [e] at hq
    cases (X5w _ _).1 e;cases hq;exact hv
   | false =>
    rw [e] at hq
    exact hm _ _ _ k0 k1 hq
  simp only [jS]
  by_cases he:(X50 f mark p).2=0
  ·have hs:X3K f mark p=(X50 f mark p).1:=by unfold X3K;rw [if_neg (by simp [he])]
   refine ⟨_,put _ hs.symm,?_⟩
   simp only [he,bne_self_eq_false,cond_false,hs]
  ·have hs:X3K f mark p = -1:=by unfold X3K;rw [if_pos he]
   refine ⟨_,put _ hs.symm,?_⟩
   simp only [X12 he,cond_true,hs]
def X9G (shown Z5W:Int):Int:=if (shown-Z5W+32) % 32>16 then (shown-Z5W+32) % 32-32 else (shown-Z5W+32) % 32
def X48 (a:Zt) (p:Zu):Bool := !X4 a.X.Lo a.X.Hi [p.X] && !X4 a.Y.Lo a.Y.Hi [p.Y]
def X6A (f:ZI) (p:Zu):Option Zt:=f.Hz7.find? fun a=>X48 a p
def X2g (f:ZI) (p:Zu) (x:Zm):ZE×Bool :=
 if (Xp f x.Hz1).Lead then (match X6A f p with
  | none=>(⟨-20,20⟩,true)
  | some a=>(⟨x.Hz6-a.Hza.Hi,x.Hz6-a.Hza.Lo⟩,x.Hz5==0||x.Hz5==a.Hz5))
 else (⟨X9G x.Hz6 (X3K f x.Mark p),X9G x.Hz6 (X3K f x.Mark p)⟩,decide (X3K f x.Mark p≥0))
theorem X3E {f:ZI} {x:Zm} (h:Xa f x=0):(0≤x.Hz1∧x.Hz1<f.Hz0.length)∧((Xp f x.Hz1).Lead=true→0≤x.Hz6∧x.Hz6≤1000∧0≤x.Hz5∧x.Hz5≤4∧x.Mark=0) ∧
  ((Xp f x.Hz1).Lead=false→0≤x.Mark∧x.Mark<f.Hz9.Hz8.length∧X3F f x.Mark=true∧0≤x.Hz6∧x.Hz6≤31∧x.Hz5=0):=by
 unfold Xa at h
 cases h1:X4 0 ((f.Hz0.length:Int)-1) [x.Hz1]
 ·rw [h1] at h
  simp only [Bool.false_eq_true,if_false] at h
  simp at h1
  refine ⟨by omega,fun hL => ?_,fun hL => ?_⟩
  ·rw [if_pos hL] at h
   cases h2:X4 0 1000 [x.Hz6]
   ·cases h3:X4 0 4 [x.Hz5]
    ·rw [h2,h3] at h
     simp at h h2 h3
     omega
    ·rw [h2,h3] at h;simp at h
   ·rw [h2] at h;simp at h
  ·rw [if_neg (by simp [hL])] at h
   cases h2:X4 0 ((f.Hz9.Hz8.length:Int)-1) [x.Mark]
   ·rw [h2] at h
    cases h3:X3F f x.Mark
    ·rw [h3] at h;simp at h
    ·cases h4:X4 0 31 [x.Hz6]
     ·rw [h3,h4] at h
      simp at h h2 h4
      exact ⟨by omega,by omega,rfl,by omega,by omega,by omega⟩
     ·rw [h3,h4] at h;simp at h
   ·rw [h2] at h;simp at h
 ·rw [h1] at h;simp at h
theorem X8q {f:ZI} (hg:W6 f) {x:Zm} (hx:Xa f x=0) (hL:(Xp f x.Hz1).Lead=false) (p:Zu) (l:List Zm) (kit:Nat→Nat) {m:List (Zh×Int)} (hm:Wx f m) :
  ∃ m',Wx f m'∧Xo (p,x,f,l,kit,m)=some ((X2g f p x).1,(X2g f p x).2,f,l,kit,m'):=by
 obtain ⟨h1,_,h3⟩:=X3E hx
 have h3:=h3 hL
 obtain ⟨m',hm',ht⟩:=X8W hg h3.1 h3.2.1 p l kit hm
 refine ⟨m',hm',?_⟩
 rw [X3s];unfold XD X2g X9G
 rw [ht,if_neg (by simp [hL])]
 have hs:=X93 hg h3.1 h3.2.1 p
 generalize X3K f x.Mark p=s at *
 simp only [jS]
 rw [w64 (x:=x.Hz6-s) (by omega) (by omega),w64 (x:=x.Hz6-s+32) (by omega) (by omega)]
 have ht:(x.Hz6-s+32).tmod 32=(x.Hz6-s+32) % 32:=Int.tmod_eq_emod_of_nonneg (by omega)
 rw [ht]
 by_cases hc:(x.Hz6-s+32) % 32>16
 ·have hw:IntKind.wrap .i64 ((x.Hz6-s+32) % 32-32)=(x.Hz6-s+32) % 32-32:=by rw [w64]<;>omega
  simp only [hc,decide_true,cond_true,if_true,hw]
 ·simp only [hc,decide_false,cond_false,if_false]
theorem X8Z {a:Zt} (h:X4H a=0):0≤a.Hza.Lo∧a.Hza.Lo≤a.Hza.Hi∧a.Hza.Hi≤1000∧a.X.Lo≤a.X.Hi∧a.Y.Lo≤a.Y.Hi∧1≤a.Hz5∧a.Hz5≤4:=by
 unfold X4H at h
 cases h1:(X4 (-30000) 30000 [a.X.Lo,a.X.Hi,a.Y.Lo,a.Y.Hi]||X4 0 1000 [a.Hza.Lo,a.Hza.Hi]||X4 1 4 [a.Hz5])
 ·rw [h1] at h
  simp at h h1
  omega
 ·rw [h1] at h;simp at h
theorem X9t {f:ZI} (hg:W6 f) {x:Zm} (hx:Xa f x=0) (hL:(Xp f x.Hz1).Lead=true) (p:Zu) (l:List Zm) (kit:Nat→Nat) (m:List (Zh×Int)) :
  W0 (p,x,f,l,kit,m)=some ((X2g f p x).1,(X2g f p x).2,f,l,kit,m):=by
 obtain ⟨h1,h2,_⟩:=X3E hx
 have h2:=h2 hL
 rw [X4c];unfold Wb X2g
 rw [if_pos hL]
 have ha:=hg.areas
 refine (X5 (Xm (↑f.Hz7.length) f.Hz7 p) _ f.Hz7.length (fun i (_:Unit)=>(i:Int)) (fun _ _=>True) (fun i _=>match (f.Hz7.drop i).find? fun a=>X48 a p with
   | none=>some (⟨-20,20⟩,true,f,l,kit,m)
   | some a=>some (⟨x.Hz6-a.Hza.Hi,x.Hz6-a.Hza.Lo⟩,x.Hz5==0||x.Hz5==a.Hz5,f,l,kit,m)) ?_ ?_ 0 () (by omega) trivial).trans ?_
 ·intro b _ R
  simp [Xm,Xv]
 ·intro i b hi _ R hR
  have hR':=hR () trivial
  have hab:=X8Z (hg.area _ (List.getElem_mem hi))
  simp only [Xm,Xv]
  rw [List.drop_eq_getElem_cons hi,List.find?_cons]
  have hw:=wS i (by omega)
  simp only [kS,X1 _ _ _ hi,hw]
  rw [X2 _ _ _ (by simp),X2 _ _ _ (by simp)]
  have e1:decide ((i:Int)<↑f.Hz7.length)=true:=by simp [hi]
  have e2:=z0S i
  have e3:decide ((i:Int)<0)=false:=by simp
  simp only [e1,e2,Bool.and_self,cond_true,jS]
  have w1:IntKind.wrap .i64 (x.Hz6-f.Hz7[i].Hza.Hi)=x.Hz6-f.Hz7[i].Hza.Hi:=by rw [w64]<;>omega
  have w2:IntKind.wrap .i64 (x.Hz6-f.Hz7[i].Hza.Lo)=x.Hz6-f.Hz7[i].Hza.Lo:=by rw [w64]<;>omega
  cases o1:X4 f.Hz7[i].X.Lo f.Hz7[i].X.Hi [p.X]
  ·cases o2:X4 f.Hz7[i].Y.Lo f.Hz7[i].Y.Hi [p.Y]
   ·have:X48 f.Hz7[i] p=true:=by unfold X48;rw [o1,o2];rfl
    simp only [this,Bool.not_false,cond_true,jS,Sum.elim_inr,Sum.elim_inl,e3,cond_false,e1,e2,Bool.and_self,kS,X1 _ _ _ hi,w1,w2]
    by_cases hG:x.Hz5=0
    ·simp [hG]
    ·simp [X3S hG]
   ·have:X48 f.Hz7[i] p=false:=by unfold X48;rw [o1,o2];rfl
    simp only [this,Bool.not_false,Bool.not_true,cond_true,cond_false,jS,Sum.elim_inl]
    exact hR'
  ·have:X48 f.Hz7[i] p=false:=by unfold X48;rw [o1];rfl
   simp only [this,Bool.not_true,cond_false,jS,Sum.elim_inl]
   exact hR'
 ·simp only [List.drop_zero,X6A]
  cases f.Hz7.find? fun a=>X48 a p<;>rfl
end Nore
namespace Nore.Geo
def vxL:List Int:=[0,195,383,556,707,831,924,981,1000,981,924,831,707,556,383,195,0,-195,-383,-556,-707,-831,-924,-981,-1000,-981,-924,-831,-707,-556,-383,-195]
def vyL:List Int:=[1000,981,924,831,707,556,383,195,0,-195,-383,-556,-707,-831,-924,-981,-1000,-981,-924,-831,-707,-556,-383,-195,0,195,383,556,707,831,924,981]
def vx (p:Nat):Int:=vxL.getD p 0
def vy (p:Nat):Int:=vyL.getD p 0
def crs (p:Nat) (X Y:Int):Int:=vx p*Y-vy p*X
def cc (p q:Nat):Int:=vx p*vy q-vy p*vx q
theorem plucker (t u p:Nat) (X Y:Int):cc u t*crs p X Y=cc p t*crs u X Y+(- crs t X Y)*cc p u:=by
 unfold cc crs
 generalize vx t=a,vy t=b,vx u=c,vy u=d,vx p=e,vy p=f
 grind
def Tow (t:Nat) (X Y:Int):Prop:=crs t X Y≤0∧crs ((t+1) % 32) X Y>0
theorem tab0:∀ t,t<32→cc ((t+1) % 32) t>0:=by decide
theorem tab1:∀ t,t<32→∀ j,j<15→cc ((t+(j+1)) % 32) t>0∧cc ((t+(j+1)) % 32) ((t+1) % 32)≥0:=by decide
theorem tab2:∀ t,t<32→∀ j,j<16→cc ((t+(j+17)) % 32) t≤0∧cc ((t+(j+17)) % 32) ((t+1) % 32)≤0:=by decide
theorem tow_pos {t:Nat} {X Y:Int} (ht:t<32) (h:Tow t X Y) (j:Nat) (h1:1≤j) (h2:j≤15):crs ((t+j) % 32) X Y>0:=by
 obtain ⟨ha,hb⟩:=h
 have k0:=tab0 t ht
 have k1:=tab1 t ht (j-1) (by omega)
 rw [show j-1+1=j by omega] at k1
 have e:=plucker t ((t+1) % 32) ((t+j) % 32) X Y
 generalize crs ((t+j) % 32) X Y=z at *
 generalize crs ((t+1) % 32) X Y=y at *
 generalize crs t X Y=x at *
 obtain ⟨k1,k2⟩:=k1
 generalize cc ((t+1) % 32) t=K at *
 generalize cc ((t+j) % 32) t=A at *
 generalize cc ((t+j) % 32) ((t+1) % 32)=B at *
 have p1:A*y>0:=Int.mul_pos k1 hb
 have p2:(-x)*B≥0:=Int.mul_nonneg (by omega) k2
 have p3:K*z>0:=by omega
 exact Int.pos_of_mul_pos_right p3 k0 |> fun h=>h
theorem tow_neg {t:Nat} {X Y:Int} (ht:t<32) (h:Tow t X Y) (j:Nat) (h1:17≤j) (h2:j≤32):crs ((t+j) % 32) X Y≤0:=by
 obtain ⟨ha,hb⟩:=h
 have k0:=tab0 t ht
 have k1:=tab2 t ht (j-17) (by omega)
 rw [show j-17+17=j by omega] at k1
 have e:=plucker t ((t+1) % 32) ((t+j) % 32) X Y
 generalize crs ((t+j) % 32) X Y=z at *
 generalize crs ((t+1) % 32) X Y=y at *
 generalize crs t X Y=x at *
 obtain ⟨k1,k2⟩:=k1
 generalize cc ((t+1) % 32) t=K at *
 generalize cc ((t+j) % 32) t=A at *
 generalize cc ((t+j) % 32) ((t+1) % 32)=B at *
 have p1:A*y≤0:=Int.mul_nonpos_of_nonpos_of_nonneg k1 (by omega)
 have p2:(-x)*B≤0:=Int.mul_nonpos_of_nonneg_of_nonpos (by omega) k2
 have p3:K*z≤0:=by omega
 apply Int.not_lt.1
 intro hz
 have:=Int.mul_pos k0 hz
 omega
theorem tow_sign {t:Nat} {X Y:Int} (ht:t<32) (h:Tow t X Y) (p:Nat) (hp:p<32) (hne:p≠(t+16) % 32):(crs p X Y>0)↔(1≤(p+32-t) % 32∧(p+32-t) % 32≤15):=by
 have hj:(t+(p+32-t) % 32) % 32=p:=by omega
 constructor
 ·intro hs
  by_cases h1:1≤(p+32-t) % 32∧(p+32-t) % 32≤15
  ·exact h1
  ·exfalso
   by_cases h0:(p+32-t) % 32=0
   ·have:p=t:=by omega
    subst this
    have:=h.1
    omega
   ·have:=tow_neg ht h ((p+32-t) % 32) (by omega) (by omega)
    rw [hj] at this
    omega
 ·intro h1
  have:=tow_pos ht h _ h1.1 h1.2
  rw [hj] at this
  exact this
theorem tow_unique {t u:Nat} {X Y:Int} (ht:t<32) (hu:u<32) (h:Tow t X Y) (h':Tow u X Y):u=t:=by
 have a:=tow_sign ht h u hu
 have b:=tow_sign ht h ((u+1) % 32) (by omega)
 have a':=h'.1
 have b':=h'.2
 by_cases e:u=(t+16) % 32
 ·have e2:(u+1) % 32≠(t+16) % 32:=by omega
  have:=(b e2).1 b'
  omega
 ·by_cases e2:(u+1) % 32=(t+16) % 32
  ·have e3:(u+32-t) % 32=15:=by omega
   have:=(a e).2 (by omega)
   omega
  ·have:=(b e2).1 b'
   have e3:¬ (1≤(u+32-t) % 32∧(u+32-t) % 32≤15):=fun hh=>by have:=(a e).2 hh;omega
   omega
theorem opp:∀ p,p<16→vx (p+16) = - vx p∧vy (p+16) = - vy p:=by decide
theorem tow_exists {X Y:Int} (h:X≠0∨Y≠0):∃ t,t<32∧Tow t X Y:=by
 by_cases hx:∃ t,t<32∧Tow t X Y
 ·exact hx
 ·exfalso
  have hn:∀ t,t<32→crs t X Y≤0→crs ((t+1) % 32) X Y≤0:=fun t ht h1=>by
   apply Int.not_lt.1
   intro h2
   exact hx ⟨t,ht,h1,h2⟩
  have all:∀ t,t<32→crs t X Y≤0→∀ j,crs ((t+j) % 32) X Y≤0:=fun t ht h1 j=>by
   induction j with
   | zero=>rw [show (t+0) % 32=t by omega];exact h1
   | succ j ih =>
    have:=hn ((t+j) % 32) (by omega) ih
    rw [show ((t+j) % 32+1) % 32=(t+(j+1)) % 32 by omega] at this
    exact this
  have o:=opp
  have c0:crs 0 X Y = - (1000*X):=by unfold crs;simp only [show vx 0=0 from rfl,show vy 0=1000 from rfl];omega
  have c8:crs 8 X Y=1000*Y:=by unfold crs;simp only [show vx 8=1000 from rfl,show vy 8=0 from rfl];omega
  have c16:crs 16 X Y=1000*X:=by unfold crs;simp only [show vx 16=0 from rfl,show vy 16 = -1000 from rfl];omega
  have c24:crs 24 X Y = - (1000*Y):=by unfold crs;simp only [show vx 24 = -1000 from rfl,show vy 24=0 from rfl];omega
  have z:∃ t,t<32∧crs t X Y≤0:=by
   by_cases h0:crs 0 X Y≤0
   ·exact ⟨0,by omega,h0⟩
   ·exact ⟨16,by omega,by omega⟩
  obtain ⟨t,ht,h1⟩:=z
  have r:∀ p,p<32→crs p X Y≤0:=fun p hp=>by
   have:=all t ht h1 (p+32-t)
   rw [show (t+(p+32-t)) % 32=p by omega] at this
   exact this
  have r0:=r 0 (by omega)
  have r8:=r 8 (by omega)
  have r16:=r 16 (by omega)
  have r24:=r 24 (by omega)
  omega
def isTow (X Y:Int) (t:Nat):Bool:=decide (crs t X Y≤0)&&decide (crs ((t+1) % 32) X Y>0)
def tow (X Y:Int):Nat:=((List.range 32).find? (isTow X Y)).getD 0
theorem isTow_iff {X Y:Int} {t:Nat}:isTow X Y t=true↔Tow t X Y:=by simp [isTow,Tow]
theorem tow_spec {X Y:Int} (h:X≠0∨Y≠0):tow X Y<32∧Tow (tow X Y) X Y:=by
 obtain ⟨t,ht,hT⟩:=tow_exists h
 unfold tow
 cases hf:(List.range 32).find? (isTow X Y) with
 | none =>
  rw [List.find?_eq_none] at hf
  exact absurd (isTow_iff.2 hT) (hf t (by simp [ht]))
 | some u =>
  have h1:=List.find?_some hf
  have h2:=List.mem_of_find?_eq_some hf
  simp only [Option.getD_some]
  exact ⟨by simpa using h2,isTow_iff.1 h1⟩
theorem tow_eq {X Y:Int} {t:Nat} (ht:t<32) (hT:Tow t X Y):tow X Y=t:=by
 have h:X≠0∨Y≠0:=by
  apply Classical.byContradiction
  intro hc
  have:X=0∧Y=0:=by omega
  obtain ⟨rfl,rfl⟩:=this
  have:=hT.2
  simp [crs] at this
 have:=tow_spec h
 exact tow_unique ht this.1 hT this.2
end Nore.Geo
open Go Go.Ab
namespace Nore
def X4h (p:Nat):Zu:=⟨Geo.vx p,Geo.vy p⟩
theorem X95:∀ p,p<32 → -1000≤Geo.vx p∧Geo.vx p≤1000 ∧ -1000≤Geo.vy p∧Geo.vy p≤1000:=by decide
theorem X9S {a:Int} (h : -1000000≤a∧a≤1000000):IntKind.wrap .i64 (0-a) = -a:=by rw [w64]<;>omega
theorem X9R (q:Nat):∀ p,p<32→p / 8=q→(∀ n r,Z8A X9 n ((p:Int),())=some r→r=X4h p)∧(∃ n r,Z8A X9 n ((p:Int),())=some r):=by
 have base:∀ p:Nat,p<8→∀ n,Z8A X9 (n+1) ((p:Int),())=some (X4h p):=fun p hp n=>by
  have e:∀ p,p<8→(List.getD [Zu.mk 0 1000,Zu.mk 195 981,Zu.mk 383 924,Zu.mk 556 831,Zu.mk 707 707,Zu.mk 831 556,Zu.mk 924 383,Zu.mk 981 195] p (Zu.mk 0 0)).X=Geo.vx p∧(List.getD [Zu.mk 0 1000,Zu.mk 195 981,Zu.mk 383 924,Zu.mk 556 831,Zu.mk 707 707,Zu.mk 831 556,Zu.mk 924 383,Zu.mk 981 195] p (Zu.mk 0 0)).Y=Geo.vy p:=by decide
  have e':=e p hp
  simp only [Z8A,X9,X2i,kS]
  have h1:decide ((p:Int)≥8)=false:=by simp;omega
  rw [h1]
  generalize List.getD _ p _=g at *
  have h2:decide ((0:Int)≤(p:Int))=true:=by simp
  have h3:decide ((p:Int)<((8:Nat):Int))=true:=by simp;omega
  have h4:Nat.blt p 8=true:=by simp [Nat.blt,Nat.ble_eq];omega
  simp only [cond_false,List.length_cons,List.length_nil,Nat.zero_add,Nat.reduceAdd]
  rw [h2,h3,h4]
  simp only [Bool.and_self,cond_true,X4h,Option.some.injEq]
  cases g
  simp only [Zu.mk.injEq]
  exact e'
 induction q with
 | zero =>
  intro p hp hq
  have hp8:p<8:=by omega
  refine ⟨fun n r h => ?_,⟨1,_,base p hp8 0⟩⟩
  cases n with
  | zero=>simp [Z8A] at h
  | succ n=>rw [base p hp8 n] at h;exact (Option.some.inj h).symm
 | succ q ih =>
  intro p hp hq
  obtain ⟨i1,m,s,i2⟩:=ih (p-8) (by omega) (by omega)
  have hstep:∀ n,Z8A X9 (n+1) ((p:Int),())=Option.bind (Z8A X9 n (((p-8:Nat):Int),())) fun v=>some ⟨v.Y,IntKind.wrap .i64 (0-v.X)⟩:=fun n=>by
   simp only [Z8A,X9,X2i]
   have h1:decide ((p:Int)≥8)=true:=by simp;omega
   have h2:IntKind.wrap .i64 ((p:Int)-8)=((p-8:Nat):Int):=by rw [w64]<;>omega
   rw [h1,h2]
   rfl
  have tt:(⟨(X4h (p-8)).Y,-(X4h (p-8)).X⟩:Zu)=X4h p:=by
   have e:∀ p,p<24→Geo.vy p=Geo.vx (p+8) ∧ - Geo.vx p=Geo.vy (p+8):=by decide
   have e':=e (p-8) (by omega)
   rw [show p-8+8=p by omega] at e'
   simp only [X4h,Zu.mk.injEq]
   exact e'
  have bd:=X95 (p-8) (by omega)
  have wv:IntKind.wrap .i64 (0-(X4h (p-8)).X) = - (X4h (p-8)).X:=X9S (by simp only [X4h];omega)
  refine ⟨fun n r h => ?_,⟨m+1,X4h p,?_⟩⟩
  ·cases n with
   | zero=>simp [Z8A] at h
   | succ n =>
    rw [hstep] at h
    cases hr:Z8A X9 n (((p-8:Nat):Int),()) with
    | none=>rw [hr] at h;simp at h
    | some v =>
     rw [hr] at h
     have:=i1 n v hr
     subst this
     simp only [jS,Option.some.injEq] at h
     rw [←h,wv,tt]
  ·rw [hstep,i2]
   have:=i1 m s i2
   subst this
   simp only [jS,wv,tt]
theorem X2h (p:Nat) (hp:p<32):X3R (p:Int)=some (X4h p):=by
 obtain ⟨h1,h2⟩:=X9R (p / 8) p hp rfl
 exact ZhF h1 h2
theorem X8c (p:Nat) (hp:p<32) (v:Zu) (hv:Bd 60000 v):IntKind.wrap .i64 (IntKind.wrap .i64 ((X4h p).X*v.Y)-IntKind.wrap .i64 ((X4h p).Y*v.X))=Geo.crs p v.X v.Y:=by
 have bd:=X95 p hp
 unfold Bd at hv
 rw [X8N 2000000 rfl (by simp only [X4h];omega) (by omega) (by simp only [X4h];omega) (by omega)]
 rfl
theorem X73 (v:Zu) (hv:Bd 60000 v) (h0:v.X≠0∨v.Y≠0):WU v=some ((Geo.tow v.X v.Y:Nat):Int):=by
 have ht:=Geo.tow_spec h0
 unfold WU
 have key:=X5 (W2 v) (fun o224=>some o224) (Geo.tow v.X v.Y) (fun i (_:Unit)=>(i:Int)) (fun _ _=>True) (fun _ _=>some ((Geo.tow v.X v.Y:Nat):Int))
  (by
   intro b _ R
   simp only [W2,Wd]
   generalize ht':Geo.tow v.X v.Y=t at *
   have hw:=wS t (by omega)
   have hm:Int.tmod ((t+1:Nat):Int) 32=(((t+1) % 32:Nat):Int):=rfl
   rw [hw,hm,X2h _ ht.1,X2h _ (by omega)]
   simp only [jS]
   rw [X8c _ ht.1 v hv,X8c _ (by omega) v hv]
   have a1:decide (Geo.crs t v.X v.Y>0)=false:=by simpa using ht.2.1
   have a2:decide (Geo.crs ((t+1) % 32) v.X v.Y≤0)=false:=by simpa using ht.2.2
   simp [a1,a2])
  (by
   intro i b hi _ R hR
   have hR':=hR () trivial
   simp only [W2,Wd]
   have hi32:i<32:=by omega
   have hw:=wS i (by omega)
   have hm:Int.tmod ((i+1:Nat):Int) 32=(((i+1) % 32:Nat):Int):=rfl
   rw [hw,hm,X2h _ hi32,X2h _ (by omega)]
   simp only [jS]
   rw [X8c _ hi32 v hv,X8c _ (by omega) v hv]
   by_cases a1:Geo.crs i v.X v.Y>0
   ·simp [a1];simpa using hR'
   ·by_cases a2:Geo.crs ((i+1) % 32) v.X v.Y≤0
    ·simp [a1,a2];simpa using hR'
    ·exfalso
     have:Geo.Tow i v.X v.Y:=⟨by omega,by omega⟩
     have:=Geo.tow_eq hi32 this
     omega)
 exact key 0 () (by omega) trivial
theorem X6b {X Y:Int} (hx:0≤X) (hy:0<Y):Geo.tow X Y+1=X6D ⟨X,Y⟩ X6∧1≤X6D ⟨X,Y⟩ X6∧X6D ⟨X,Y⟩ X6≤8:=by
 unfold X6D X6
 have c0:Geo.crs 0 X Y=0*Y-1000*X:=rfl
 have c1:Geo.crs 1 X Y=195*Y-981*X:=rfl
 have c2:Geo.crs 2 X Y=383*Y-924*X:=rfl
 have c3:Geo.crs 3 X Y=556*Y-831*X:=rfl
 have c4:Geo.crs 4 X Y=707*Y-707*X:=rfl
 have c5:Geo.crs 5 X Y=831*Y-556*X:=rfl
 have c6:Geo.crs 6 X Y=924*Y-383*X:=rfl
 have c7:Geo.crs 7 X Y=981*Y-195*X:=rfl
 have c8:Geo.crs 8 X Y=1000*Y-0*X:=rfl
 by_cases h1:195*Y-981*X≤0
 rotate_left
 ·have ht:Geo.tow X Y=0:=Geo.tow_eq (by omega) ⟨by omega,by show Geo.crs 1 X Y>0;omega⟩
  have d0:decide ((0:Int)*Y-1000*X≤0)=true:=by simp;omega
  have d1:decide ((195:Int)*Y-981*X≤0)=false:=by simp;omega
  have d2:decide ((383:Int)*Y-924*X≤0)=false:=by simp;omega
  have d3:decide ((556:Int)*Y-831*X≤0)=false:=by simp;omega
  have d4:decide ((707:Int)*Y-707*X≤0)=false:=by simp;omega
  have d5:decide ((831:Int)*Y-556*X≤0)=false:=by simp;omega
  have d6:decide ((924:Int)*Y-383*X≤0)=false:=by simp;omega
  have d7:decide ((981:Int)*Y-195*X≤0)=false:=by simp;omega
  rw [ht]
  simp [List.countP_cons,d0,d1,d2,d3,d4,d5,d6,d7,show 0≤1000*X by omega]
 by_cases h2:383*Y-924*X≤0
 rotate_left
 ·have ht:Geo.tow X Y=1:=Geo.tow_eq (by omega) ⟨by omega,by show Geo.crs 2 X Y>0;omega⟩
  have d0:decide ((0:Int)*Y-1000*X≤0)=true:=by simp;omega
  have d1:decide ((195:Int)*Y-981*X≤0)=true:=by simp;omega
  have d2:decide ((383:Int)*Y-924*X≤0)=false:=by simp;omega
  have d3:decide ((556:Int)*Y-831*X≤0)=false:=by simp;omega
  have d4:decide ((707:Int)*Y-707*X≤0)=false:=by simp;omega
  have d5:decide ((831:Int)*Y-556*X≤0)=false:=by simp;omega
  have d6:decide ((924:Int)*Y-383*X≤0)=false:=by simp;omega
  have d7:decide ((981:Int)*Y-195*X≤0)=false:=by simp;omega
  rw [ht]
  simp [List.countP_cons,d0,d1,d2,d3,d4,d5,d6,d7,show 0≤1000*X by omega]
 by_cases h3:556*Y-831*X≤0
 rotate_left
 ·have ht:Geo.tow X Y=2:=Geo.tow_eq (by omega) ⟨by omega,by show Geo.crs 3 X Y>0;omega⟩
  have d0:decide ((0:Int)*Y-1000*X≤0)=true:=by simp;omega
  have d1:decide ((195:Int)*Y-981*X≤0)=true:=by simp;omega
  have d2:decide ((383:Int)*Y-924*X≤0)=true:=by simp;omega
  have d3:decide ((556:Int)*Y-831*X≤0)=false:=by simp;omega
  have d4:decide ((707:Int)*Y-707*X≤0)=false:=by simp;omega
  have d5:decide ((831:Int)*Y-556*X≤0)=false:=by simp;omega
  have d6:decide ((924:Int)*Y-383*X≤0)=false:=by simp;omega
  have d7:decide ((981:Int)*Y-195*X≤0)=false:=by simp;omega
  rw [ht]
  simp [List.countP_cons,d0,d1,d2,d3,d4,d5,d6,d7,show 0≤1000*X by omega]
 by_cases h4:707*Y-707*X≤0
 rotate_left
 ·have ht:Geo.tow X Y=3:=Geo.tow_eq (by omega) ⟨by omega,by show Geo.crs 4 X Y>0;omega⟩
  have d0:decide ((0:Int)*Y-1000*X≤0)=true:=by simp;omega
  have d1:decide ((195:Int)*Y-981*X≤0)=true:=by simp;omega
  have d2:decide ((383:Int)*Y-924*X≤0)=true:=by simp;omega
  have d3:decide ((556:Int)*Y-831*X≤0)=true:=by simp;omega
  have d4:decide ((707:Int)*Y-707*X≤0)=false:=by simp;omega
  have d5:decide ((831:Int)*Y-556*X≤0)=false:=by simp;omega
  have d6:decide ((924:Int)*Y-383*X≤0)=false:=by simp;omega
  have d7:decide ((981:Int)*Y-195*X≤0)=false:=by simp;omega
  rw [ht]
  simp [List.countP_cons,d0,d1,d2,d3,d4,d5,d6,d7,show 0≤1000*X by omega]
 by_cases h5:831*Y-556*X≤0
 rotate_left
 ·have ht:Geo.tow X Y=4:=Geo.tow_eq (by omega) ⟨by omega,by show Geo.crs 5 X Y>0;omega⟩
  have d0:decide ((0:Int)*Y-1000*X≤0)=true:=by simp;omega
  have d1:decide ((195:Int)*Y-981*X≤0)=true:=by simp;omega
  have d2:decide ((383:Int)*Y-924*X≤0)=true:=by simp;omega
  have d3:decide ((556:Int)*Y-831*X≤0)=true:=by simp;omega
  have d4:decide ((707:Int)*Y-707*X≤0)=true:=by simp;omega
  have d5:decide ((831:Int)*Y-556*X≤0)=false:=by simp;omega
  have d6:decide ((924:Int)*Y-383*X≤0)=false:=by simp;omega
  have d7:decide ((981:Int)*Y-195*X≤0)=false:=by simp;omega
  rw [ht]
  simp [List.countP_cons,d0,d1,d2,d3,d4,d5,d6,d7,show 0≤1000*X by omega]
 by_cases h6:924*Y-383*X≤0
 rotate_left
 ·have ht:Geo.tow X Y=5:=Geo.tow_eq (by omega) ⟨by omega,by show Geo.crs 6 X Y>0;omega⟩
  have d0:decide ((0:Int)*Y-1000*X≤0)=true:=by simp;omega
  have d1:decide ((195:Int)*Y-981*X≤0)=true:=by simp;omega
  have d2:decide ((383:Int)*Y-924*X≤0)=true:=by simp;omega
  have d3:decide ((556:Int)*Y-831*X≤0)=true:=by simp;omega
  have d4:decide ((707:Int)*Y-707*X≤0)=true:=by simp;omega
  have d5:decide ((831:Int)*Y-556*X≤0)=true:=by simp;omega
  have d6:decide ((924:Int)*Y-383*X≤0)=false:=by simp;omega
  have d7:decide ((981:Int)*Y-195*X≤0)=false:=by simp;omega
  rw [ht]
  simp [List.countP_cons,d0,d1,d2,d3,d4,d5,d6,d7,show 0≤1000*X by omega]
 by_cases h7:981*Y-195*X≤0
 rotate_left
 ·have ht:Geo.tow X Y=6:=Geo.tow_eq (by omega) ⟨by omega,by show Geo.crs 7 X Y>0;omega⟩
  have d0:decide ((0:Int)*Y-1000*X≤0)=true:=by simp;omega
  have d1:decide ((195:Int)*Y-981*X≤0)=true:=by simp;omega
  have d2:decide ((383:Int)*Y-924*X≤0)=true:=by simp;omega
  have d3:decide ((556:Int)*Y-831*X≤0)=true:=by simp;omega
  have d4:decide ((707:Int)*Y-707*X≤0)=true:=by simp;omega
  have d5:decide ((831:Int)*Y-556*X≤0)=true:=by simp;omega
  have d6:decide ((924:Int)*Y-383*X≤0)=true:=by simp;omega
  have d7:decide ((981:Int)*Y-195*X≤0)=false:=by simp;omega
  rw [ht]
  simp [List.countP_cons,d0,d1,d2,d3,d4,d5,d6,d7,show 0≤1000*X by omega]
 have ht:Geo.tow X Y=7:=Geo.tow_eq (by omega) ⟨by omega,by show Geo.crs 8 X Y>0;omega⟩
 have d0:decide ((0:Int)*Y-1000*X≤0)=true:=by simp;omega
 have d1:decide ((195:Int)*Y-981*X≤0)=true:=by simp;omega
 have d2:decide ((383:Int)*Y-924*X≤0)=true:=by simp;omega
 have d3:decide ((556:Int)*Y-831*X≤0)=true:=by simp;omega
 have d4:decide ((707:Int)*Y-707*X≤0)=true:=by simp;omega
 have d5:decide ((831:Int)*Y-556*X≤0)=true:=by simp;omega
 have d6:decide ((924:Int)*Y-383*X≤0)=true:=by simp;omega
 have d7:decide ((981:Int)*Y-195*X≤0)=true:=by simp;omega
 rw [ht]
 simp [List.countP_cons,d0,d1,d2,d3,d4,d5,d6,d7,show 0≤1000*X by omega]
theorem X8j:∀ t,t<32→Geo.vx ((t+8) % 32)=Geo.vy t∧Geo.vy ((t+8) % 32) = - Geo.vx t:=by decide
theorem X6I (t:Nat) (ht:t<32) (X Y:Int):Geo.crs ((t+8) % 32) Y (-X)=Geo.crs t X Y:=by
 have h:=X8j t ht
 unfold Geo.crs
 rw [h.1,h.2]
 rw [Int.mul_neg,Int.neg_mul]
 omega
theorem X2E {X Y:Int} (h:X≠0∨Y≠0):Geo.tow Y (-X)=(Geo.tow X Y+8) % 32:=by
 obtain ⟨h1,h2,h3⟩:=Geo.tow_spec h
 generalize Geo.tow X Y=t at *
 apply Geo.tow_eq (by omega)
 refine ⟨?_,?_⟩
 ·rw [X6I t h1];exact h2
 ·rw [show ((t+8) % 32+1) % 32=((t+1) % 32+8) % 32 by omega,X6I _ (by omega)];exact h3
theorem X9f {v:Zu} (hb : -60000≤v.X∧v.X≤60000 ∧ -60000≤v.Y∧v.Y≤60000) (h0:¬ (v.X=0∧v.Y=0)):X5t v=((Geo.tow v.X v.Y:Nat):Int):=by
 unfold X5t X4z
 by_cases c1:0≤v.X∧0<v.Y
 ·rw [if_pos c1]
  have h:=X6b c1.1 c1.2
  have he:X6D ⟨v.X,v.Y⟩ X6=X6D v X6:=rfl
  rw [he] at h
  simp only
  omega
 ·rw [if_neg c1]
  by_cases c2:0<v.X∧v.Y≤0
  ·rw [if_pos c2]
   have h1:=X6b (X := -v.Y) (Y:=v.X) (by omega) c2.1
   have h2:=X2E (X := -v.Y) (Y:=v.X) (by omega)
   rw [Int.neg_neg] at h2
   simp only
   omega
  ·rw [if_neg c2]
   by_cases c3:v.X≤0∧v.Y<0
   ·rw [if_pos c3]
    have h1:=X6b (X := -v.X) (Y := -v.Y) (by omega) (by omega)
    have h2:=X2E (X := -v.X) (Y := -v.Y) (by omega)
    have h3:=X2E (X := -v.Y) (Y:=v.X) (by omega)
    rw [Int.neg_neg] at h2 h3
    simp only
    omega
   ·rw [if_neg c3]
    have h1:=X6b (X:=v.Y) (Y := -v.X) (by omega) (by omega)
    have h2:=X2E (X:=v.Y) (Y := -v.X) (by omega)
    have h3:=X2E (X := -v.X) (Y := -v.Y) (by omega)
    have h4:=X2E (X := -v.Y) (Y:=v.X) (by omega)
    rw [Int.neg_neg] at h3 h4
    simp only
    omega
theorem X74 {v:Zu} (hb : -60000≤v.X∧v.X≤60000 ∧ -60000≤v.Y∧v.Y≤60000) (h0:¬ (v.X=0∧v.Y=0)):WU v=some (X5t v):=by
 rw [X73 v (by unfold Bd;omega) (by omega),X9f hb h0]
end Nore
open Go Go.Ab
namespace Nore
def X71 (x k:Int):Bool:=IntKind.wrap IntKind.i64 (↑(BitVec.toNat (BitVec.ofInt (IntKind.bits IntKind.i64) (Int.fdiv x (2 ^ min (Int.toNat k) (IntKind.bits IntKind.i64))) &&& BitVec.ofInt (IntKind.bits IntKind.i64) 1)):Int)==1
theorem X97 (k:Int):X71 0 k=false:=by
 unfold X71
 rw [show Int.fdiv 0 (2 ^ min (Int.toNat k) (IntKind.bits IntKind.i64))=0 from Int.zero_fdiv _]
 decide
def X2G (f:ZI) (ib mb:Int) (x:Zm):Bool:=X71 ib x.Hz1||(!(Xp f x.Hz1).Lead&&X71 mb x.Mark)
def X5m (n a:ZE):ZE:=⟨if a.Lo>n.Lo then a.Lo else n.Lo,if a.Hi<n.Hi then a.Hi else n.Hi⟩
def atL (f:ZI) (p:Zu) (ib mb:Int):(Nat→ZE)→List Zm→(Nat→ZE)×Bool
 | s,[]=>(s,true)
 | s,x::l=>if X2G f ib mb x then atL f p ib mb s l else
  if (X2g f p x).2=false∨(X5m (X2g f p x).1 (s x.Hz1.toNat)).Lo>(X5m (X2g f p x).1 (s x.Hz1.toNat)).Hi then (s,false) else
  atL f p ib mb (fun j=>if j=x.Hz1.toNat then X5m (X2g f p x).1 (s x.Hz1.toNat) else s j) l
def X2F (f:ZI) (i:Nat):ZE:=if h:i<f.Hz0.length then f.Hz0[i].Off else ⟨0,0⟩
def atN (f:ZI) (l:List Zm) (p:Zu) (ib mb:Int):(Nat→ZE)×Bool:=atL f p ib mb (X2F f) l
theorem X9q {γ:Type} (f:ZI) (hi4:f.Hz0.length≤4) (x0 x2:Int) (l:List Zm) (kit:Nat→Nat) (m:List (Zh×Int)) (p:Zu) (k:(Nat→ZE)→Option γ) :
  Option.bind (X1Y (↑f.Hz0.length) x0 x2 f.Hz0 f l kit m p (0,fun _=>⟨0,0⟩)) k=k (X2F f):=by
 refine (X5 (Xq (↑f.Hz0.length) x0 x2 f.Hz0 f l kit m p) k f.Hz0.length (fun i (b:Nat→ZE)=>((i:Int),b)) (fun i b=>∀ j,b j=if j<i then X2F f j else ⟨0,0⟩) (fun _ _=>k (X2F f)) ?_ ?_ 0 _ (by omega) (fun j=>by simp))
 ·intro b hb R
  have:b=X2F f:=by
   funext j
   rw [hb]
   by_cases h:j<f.Hz0.length
   ·simp [h]
   ·simp [h,X2F]
  simp [Xq,Xy,this]
 ·intro i b hi hb R hR
  have hw:=wS i (by omega)
  have e1:decide ((i:Int)<↑f.Hz0.length)=true:=by simp [hi]
  have e2:=z0S i
  have e3:decide ((i:Int)<((4:Nat):Int))=true:=by simp;omega
  have e3':decide ((i:Int)<(4:Int))=true:=by simp;omega
  have e4:Nat.blt i 4=true:=by rw [Tr.blt_dec];simp;omega
  simp only [Xq,Xy,kS,X1 _ _ _ hi,hw,e1,e2,e3,e3',e4,Bool.and_self,cond_true,jS,Sum.elim_inl]
  refine hR _ fun j => ?_
  rw [Tr.beq_dec]
  by_cases e:j=i
  ·subst e;simp [X2F,hi]
  ·simp only [e,decide_false,cond_false,hb j]
   by_cases h:j<i
   ·simp [h,show j<i+1 by omega]
   ·simp [h,show ¬ j<i+1 by omega]
theorem X9P {f:ZI} (hg:W6 f) {l:List Zm} (hl:∀ x∈l,Xa f x=0) (hll:l.length≤8) {kit:Nat→Nat} (hk:Kit f kit) {m:List (Zh×Int)} (hm:Wx f m) (p:Zu) (ib mb:Int) :
  ∃ m',Wx f m'∧Wy (ib,p,mb,f,l,kit,m)=some ((atN f l p ib mb).1,(atN f l p ib mb).2,f,l,kit,m'):=by
 rw [X4o];unfold WB atN
 rw [X9q f hg.inst.2]
 have main:=X5i (Xr ib l mb (↑l.length) p) (fun o=>Sum.elim (fun (y:Bool×(Nat→ZE)×ZI×List Zm×(Nat→Nat)×ZE×List (Zh×Int)×Zm)=>some (y.snd.fst,y.fst,y.snd.snd.fst,y.snd.snd.snd.fst,y.snd.snd.snd.snd.fst,y.snd.snd.snd.snd.snd.snd.fst)) (fun y=>Sum.elim (fun (y:Bool×(Nat→ZE)×ZI×List Zm×(Nat→Nat)×ZE×List (Zh×Int)×Zm)=>some (y.snd.fst,y.fst,y.snd.snd.fst,y.snd.snd.snd.fst,y.snd.snd.snd.snd.fst,y.snd.snd.snd.snd.snd.snd.fst)) (fun (y:(Nat→ZE)×ZI×List Zm×(Nat→Nat)×List (Zh×Int))=>some (y.fst,true,y.snd.fst,y.snd.snd.fst,y.snd.snd.snd.fst,y.snd.snd.snd.snd)) y) o) l.length
  (fun i (b:(Nat→ZE)×List (Zh×Int))=>((i:Int),b.1,f,l,kit,b.2)) (fun _ b=>Wx f b.2) (fun i b r=>∃ m',Wx f m'∧r=some ((atL f p ib mb b.1 (l.drop i)).1,(atL f p ib mb b.1 (l.drop i)).2,f,l,kit,m'))
  (by
   intro b hb R
   refine ⟨b.2,hb,?_⟩
   simp [Xr,Xz,atL])
  (by
   intro i b hi hb R hR
   have hx:=hl _ (List.getElem_mem hi)
   obtain ⟨x,hxd⟩:∃ x,l[i]=x:=⟨_,rfl⟩
   rw [hxd] at hx
   have hgd:l.getD i ⟨0,0,0,0⟩=x:=(X1 _ _ _ hi).trans hxd
   obtain ⟨h1,h2,h3⟩:=X3E hx
   have hi4:=hg.inst.2
   have hw:=wS i (by omega)
   have e1:decide ((i:Int)<↑l.length)=true:=by simp [hi]
   have e2:=z0S i
   simp only [Xr,Xz,kS,hgd,hw,e1,e2,Bool.and_self,cond_true]
   rw [List.drop_eq_getElem_cons hi,hxd]
   have hj:x.Hz1.toNat<f.Hz0.length:=by omega
   have i1:decide (0≤x.Hz1)=true:=by simp;omega
   have i2:decide (x.Hz1<((4:Nat):Int))=true:=by simp;omega
   have i2':decide (x.Hz1<(4:Int))=true:=by simp;omega
   have i3:Nat.blt x.Hz1.toNat 4=true:=by rw [Tr.blt_dec];simp;omega
   have i4:decide (x.Hz1<0)=false:=by simp;omega
   have hkk:=hk _ hj
   have hio:Xp f x.Hz1=f.Hz0[x.Hz1.toNat]:=X1 _ _ _ hj
   have hcut:∀ (n a:ZE),(⟨bif decide (a.Lo>n.Lo) then a.Lo else n.Lo,bif decide (a.Hi<n.Hi) then a.Hi else n.Hi⟩:ZE)=X5m n a:=fun n a=>by
    unfold X5m
    by_cases c1:a.Lo>n.Lo<;>by_cases c2:a.Hi<n.Hi<;>simp [c1,c2]
   have hcut1:∀ (n a:ZE),(bif decide (a.Lo>n.Lo) then a.Lo else n.Lo)=(X5m n a).Lo:=fun n a=>by rw [←hcut]
   have hcut2:∀ (n a:ZE),(bif decide (a.Hi<n.Hi) then a.Hi else n.Hi)=(X5m n a).Hi:=fun n a=>by rw [←hcut]
   have hfun:∀ (c:ZE) (s:Nat→ZE),(fun j=>bif Nat.beq j x.Hz1.toNat then c else s j)=fun j=>if j=x.Hz1.toNat then c else s j:=fun c s=>by
    funext j;rw [Tr.beq_dec];by_cases e:j=x.Hz1.toNat<;>simp [e]
   simp only [i1,i2,i2',i3,i4,Bool.and_self,cond_true,cond_false,atL]
   rcases Bool.eq_false_or_eq_true (Xp f x.Hz1).Lead with hL|hL
   rotate_left
   ·rw [←hio,hL] at hkk
    simp only [Bool.false_eq_true,if_false] at hkk
    have h3:=h3 hL
    have i5:decide (x.Mark<0)=false:=by simp;omega
    simp only [hkk,show Nat.beq 1 0=false from rfl,show Nat.beq 1 1=true from rfl,cond_false,cond_true,i5]
    have hib:(IntKind.wrap IntKind.i64 (↑(BitVec.toNat (BitVec.ofInt (IntKind.bits IntKind.i64) (Int.fdiv ib (2 ^ min (Int.toNat x.Hz1) (IntKind.bits IntKind.i64))) &&& BitVec.ofInt (IntKind.bits IntKind.i64) 1)):Int)==1)=X71 ib x.Hz1:=rfl
    have hmb:(IntKind.wrap IntKind.i64 (↑(BitVec.toNat (BitVec.ofInt (IntKind.bits IntKind.i64) (Int.fdiv mb (2 ^ min (Int.toNat x.Mark) (IntKind.bits IntKind.i64))) &&& BitVec.ofInt (IntKind.bits IntKind.i64) 1)):Int)==1)=X71 mb x.Mark:=rfl
    rw [hib,hmb]
    rcases Bool.eq_false_or_eq_true (X71 ib x.Hz1) with hb1|hb1
    rotate_left
    ·rcases Bool.eq_false_or_eq_true (X71 mb x.Mark) with hb2|hb2
     rotate_left
     ·have hsk:X2G f ib mb x=false:=by unfold X2G;rw [hL,hb1,hb2];rfl
      simp only [hb1,hb2,cond_false,hsk,Bool.false_eq_true,if_false]
      obtain ⟨m',hm',hc⟩:=X8q hg hx hL p l kit hb
      rw [hc]
      simp only [jS,hcut,hcut1,hcut2,hfun]
      cases ho:(X2g f p x).2
      ·exact ⟨m',hm',by simp⟩
      ·by_cases hc:(X5m (X2g f p x).1 (b.1 x.Hz1.toNat)).Lo>(X5m (X2g f p x).1 (b.1 x.Hz1.toNat)).Hi
       ·exact ⟨m',hm',by simp [hc]⟩
       ·simp only [Bool.not_true,cond_false,hc,decide_false,jS,Sum.elim_inl,Bool.true_eq_false,or_self,if_false]
        exact hR (_,m') hm'
     ·have hsk:X2G f ib mb x=true:=by unfold X2G;rw [hL,hb1,hb2];rfl
      simp only [hb1,hb2,cond_true,cond_false,jS,Sum.elim_inl,hsk,if_true]
      exact hR b hb
    ·have hsk:X2G f ib mb x=true:=by unfold X2G;rw [hb1];rfl
     simp only [hb1,cond_true,jS,Sum.elim_inl,hsk,if_true]
     exact hR b hb
   ·rw [←hio,hL] at hkk
    simp only [if_true] at hkk
    have h2:=h2 hL
    simp only [hkk,show Nat.beq 2 0=false from rfl,show Nat.beq 2 1=false from rfl,show Nat.beq 2 (1+1)=true from rfl,cond_false,cond_true]
    have hib:(IntKind.wrap IntKind.i64 (↑(BitVec.toNat (BitVec.ofInt (IntKind.bits IntKind.i64) (Int.fdiv ib (2 ^ min (Int.toNat x.Hz1) (IntKind.bits IntKind.i64))) &&& BitVec.ofInt (IntKind.bits IntKind.i64) 1)):Int)==1)=X71 ib x.Hz1:=rfl
    rw [hib]
    rcases Bool.eq_false_or_eq_true (X71 ib x.Hz1) with hb1|hb1
    rotate_left
    ·have hsk:X2G f ib mb x=false:=by unfold X2G;rw [hL,hb1];rfl
     simp only [hb1,cond_false,hsk,Bool.false_eq_true,if_false]
     rw [X9t hg hx hL p l kit]
     simp only [jS,hcut,hcut1,hcut2,hfun]
     cases ho:(X2g f p x).2
     ·exact ⟨b.2,hb,by simp⟩
     ·by_cases hc:(X5m (X2g f p x).1 (b.1 x.Hz1.toNat)).Lo>(X5m (X2g f p x).1 (b.1 x.Hz1.toNat)).Hi
      ·exact ⟨b.2,hb,by simp [hc]⟩
      ·simp only [Bool.not_true,cond_false,hc,decide_false,jS,Sum.elim_inl,Bool.true_eq_false,or_self,if_false]
       exact hR (_,b.2) hb
    ·have hsk:X2G f ib mb x=true:=by unfold X2G;rw [hb1];rfl
     simp only [hb1,cond_true,jS,Sum.elim_inl,hsk,if_true]
     exact hR b hb)
 have:=main 0 (X2F f,m) (by omega) hm
 unfold X1Z
 simpa using this
end Nore
open Go Go.Ab
namespace Nore
def X2k (f:ZI) (x y:Int):Nat→List Zu
 | 0=>[]
 | n+1=>⟨x*f.Step,y*f.Step⟩::X2k f x (y+1) n
def X1U (f:ZI):Nat:=(2*f.Half+1).toNat
def X2Q (f:ZI) (x:Int):Nat→List Zu
 | 0=>[]
 | n+1=>X2k f x (-f.Half) (X1U f)++X2Q f (x+1) n
def X5V (f:ZI):List Zu:=X2Q f (-f.Half) (X1U f)
def X4T (f:ZI) (l:List Zm):List Zu:=(X5V f).filter fun p=>(atN f l p 0 0).2
theorem X7h (f:ZI) (x:Int) (p:Zu):∀ (n:Nat) (y:Int),p∈X2k f x y n↔∃ j:Int,y≤j∧j<y+n∧p=⟨x*f.Step,j*f.Step⟩
 | 0,y=>by simp [X2k];intro j h1 h2;omega
 | n+1,y=>by
  simp only [X2k,List.mem_cons,X7h f x p n]
  constructor
  ·rintro (h|⟨j,h1,h2,h3⟩)
   ·exact ⟨y,by omega,by push_cast;omega,h⟩
   ·exact ⟨j,by omega,by push_cast;omega,h3⟩
  ·rintro ⟨j,h1,h2,h3⟩
   by_cases e:j=y
   ·subst e;exact .inl h3
   ·exact .inr ⟨j,by omega,by push_cast at h2;omega,h3⟩
theorem X6V (f:ZI) (p:Zu):∀ (n:Nat) (x:Int),p∈X2Q f x n↔∃ i j:Int,x≤i∧i<x+n ∧ -f.Half≤j∧j < -f.Half+X1U f∧p=⟨i*f.Step,j*f.Step⟩
 | 0,x=>by simp [X2Q];intro i h1 h2;omega
 | n+1,x=>by
  simp only [X2Q,List.mem_append,X7h,X6V f p n]
  constructor
  ·rintro (⟨j,h1,h2,h3⟩|⟨i,j,h1,h2,h3,h4,h5⟩)
   ·exact ⟨x,j,by omega,by push_cast;omega,h1,h2,h3⟩
   ·exact ⟨i,j,by omega,by push_cast;omega,h3,h4,h5⟩
  ·rintro ⟨i,j,h1,h2,h3,h4,h5⟩
   by_cases e:i=x
   ·subst e;exact .inl ⟨j,h3,h4,h5⟩
   ·exact .inr ⟨i,j,by omega,by push_cast at h2;omega,h3,h4,h5⟩
theorem X7G {f:ZI} (hh:0≤f.Half) (p:Zu):p∈X5V f↔∃ i j:Int,-f.Half≤i∧i≤f.Half ∧ -f.Half≤j∧j≤f.Half∧p=⟨i*f.Step,j*f.Step⟩:=by
 unfold X5V
 rw [X6V]
 have:(X1U f:Int)=2*f.Half+1:=by unfold X1U;omega
 constructor
 ·rintro ⟨i,j,h1,h2,h3,h4,h5⟩;exact ⟨i,j,by omega,by omega,by omega,by omega,h5⟩
 ·rintro ⟨i,j,h1,h2,h3,h4,h5⟩;exact ⟨i,j,by omega,by omega,by omega,by omega,h5⟩
theorem X9I {f:ZI} (hg:W6 f) {p:Zu} (h:p∈X5V f):Bd 4000 p:=by
 obtain ⟨i,j,h1,h2,h3,h4,rfl⟩:=(X7G hg.half.1 p).1 h
 have:=hg.half
 have:=hg.step
 have b1:=X4w (a:=i) (b:=f.Step) 8 500 (by omega) (by omega) (by omega) (by omega)
 have b2:=X4w (a:=j) (b:=f.Step) 8 500 (by omega) (by omega) (by omega) (by omega)
 unfold Bd;simp only;omega
structure X82 (f:ZI) (l:List Zm):Prop where
 fix:W6 f
 len:l.length≤8
 each:∀ x∈l,Xa f x=0
theorem X87 (f:ZI):∀ (l:List Zm) (i:Nat),(XU f i l).2=0→∀ x∈l,Xa f x=0
 | [],_,_,m,hm=>by cases hm
 | x::l,i,h,m,hm=>by
  simp only [XU] at h
  by_cases h0:Xa f x=0
  ·simp only [h0,if_true] at h
   rcases List.mem_cons.1 hm with e|e
   ·subst e;exact h0
   ·exact X87 f l _ h m e
  ·simp only [h0,if_false] at h
theorem X7P (f:ZI):∀ (l:List Zm) (i:Nat),(∀ x∈l,Xa f x=0)→(XU f i l).2=0
 | [],_,_=>rfl
 | x::l,i,h=>by
  simp only [XU,h x (by simp),if_true]
  exact X7P f l _ fun y hy=>h y (by simp [hy])
theorem X7c {f:ZI} {l:List Zm} (h:(Wk f l).2=0):X82 f l:=by
 unfold Wk at h
 by_cases h1:(X1H f).2.2=0
 ·simp only [h1,ne_eq,not_true,if_false] at h
  by_cases h8:8<l.length
  ·rw [if_pos h8] at h;simp at h
  ·rw [if_neg h8] at h
   exact ⟨X6P h1,by omega,X87 f l 0 h⟩
 ·rw [if_pos h1] at h;exact absurd h h1
theorem X8I {f:ZI} {l:List Zm} (h1:(X1H f).2.2=0) (h2:l.length≤8) (h3:∀ x∈l,Xa f x=0):(Wk f l).2=0:=by
 unfold Wk
 rw [if_neg (by simp [h1]),if_neg (by omega)]
 exact X7P f l 0 h3
end Nore
open Go Go.Ab
namespace Nore
def inS (v:Int) (s:ZE):Prop:=s.Lo≤v∧v≤s.Hi
def X7T (f:ZI) (p:Zu) (ib mb:Int) (s:Nat→ZE) (l:List Zm) (i:Nat) (v:Int):Prop :=
 inS v (s i)∧∀ x∈l,X2G f ib mb x=false→x.Hz1.toNat=i→(X2g f p x).2=true∧inS v (X2g f p x).1
theorem X7C (n a:ZE) (v:Int):inS v (X5m n a)↔inS v n∧inS v a:=by
 unfold inS X5m
 constructor
 ·rintro ⟨h1,h2⟩
  simp only at h1 h2
  split at h1<;>split at h2<;>omega
 ·rintro ⟨h1,h2⟩
  simp only
  constructor<;>split<;>omega
theorem X6g {f:ZI} {p:Zu} {ib mb:Int} {s:Nat→ZE} {x:Zm} {l:List Zm} {i:Nat} {v:Int} :
  X7T f p ib mb s (x::l) i v↔X7T f p ib mb s l i v∧(X2G f ib mb x=false→x.Hz1.toNat=i→(X2g f p x).2=true∧inS v (X2g f p x).1):=by
 unfold X7T
 constructor
 ·rintro ⟨h1,h2⟩
  exact ⟨⟨h1,fun y hy=>h2 y (by simp [hy])⟩,h2 x (by simp)⟩
 ·rintro ⟨⟨h1,h2⟩,h3⟩
  refine ⟨h1,fun y hy => ?_⟩
  rcases List.mem_cons.1 hy with e|e
  ·subst e;exact h3
  ·exact h2 y e
theorem X7y (f:ZI) (p:Zu) (ib mb:Int):∀ (l:List Zm) (s:Nat→ZE),(∀ i,(s i).Lo≤(s i).Hi) →
  ((atL f p ib mb s l).2=true→(∀ i,((atL f p ib mb s l).1 i).Lo≤((atL f p ib mb s l).1 i).Hi)∧∀ i v,inS v ((atL f p ib mb s l).1 i)↔X7T f p ib mb s l i v) ∧
  ((atL f p ib mb s l).2=false→∃ x∈l,X2G f ib mb x=false∧∀ v,¬ X7T f p ib mb s l x.Hz1.toNat v)
 | [],s,hs=>by
  simp only [atL]
  exact ⟨fun _=>⟨hs,fun i v=>by simp [X7T]⟩,fun h=>by cases h⟩
 | x::l,s,hs=>by
  simp only [atL]
  by_cases hk:X2G f ib mb x=true
  ·rw [if_pos hk]
   obtain ⟨h1,h2⟩:=X7y f p ib mb l s hs
   refine ⟨fun h=>⟨(h1 h).1,fun i v => ?_⟩,fun h => ?_⟩
   ·rw [(h1 h).2 i v,X6g]
    simp [hk]
   ·obtain ⟨y,hy,hy2,hy3⟩:=h2 h
    refine ⟨y,by simp [hy],hy2,fun v hv=>hy3 v ?_⟩
    exact (X6g.1 hv).1
  ·rw [if_neg hk]
   have hk':X2G f ib mb x=false:=by simpa using hk
   by_cases hc:(X2g f p x).2=false∨(X5m (X2g f p x).1 (s x.Hz1.toNat)).Lo>(X5m (X2g f p x).1 (s x.Hz1.toNat)).Hi
   ·rw [if_pos hc]
    refine ⟨fun h=>(by cases h),fun _=>⟨x,by simp,hk',fun v hv => ?_⟩⟩
    obtain ⟨h1,h2⟩:=X6g.1 hv
    obtain ⟨h3,h4⟩:=h2 hk' rfl
    rcases hc with hc|hc
    ·rw [hc] at h3;cases h3
    ·have:=(X7C (X2g f p x).1 (s x.Hz1.toNat) v).2 ⟨h4,h1.1⟩
     unfold inS at this;omega
   ·rw [if_neg hc]
    have hc1:(X2g f p x).2=true:=by
     cases h:(X2g f p x).2
     ·exact absurd (.inl h) hc
     ·rfl
    have hc2:(X5m (X2g f p x).1 (s x.Hz1.toNat)).Lo≤(X5m (X2g f p x).1 (s x.Hz1.toNat)).Hi:=Int.not_lt.1 fun q=>hc (.inr q)
    obtain ⟨h1,h2⟩:=X7y f p ib mb l (fun j=>if j=x.Hz1.toNat then X5m (X2g f p x).1 (s x.Hz1.toNat) else s j) (fun i=>by
     by_cases e:i=x.Hz1.toNat
     ·simp only [e,if_true];exact hc2
     ·simp only [e,if_false];exact hs i)
    have key:∀ i v,X7T f p ib mb (fun j=>if j=x.Hz1.toNat then X5m (X2g f p x).1 (s x.Hz1.toNat) else s j) l i v↔X7T f p ib mb s (x::l) i v:=fun i v=>by
     rw [X6g]
     unfold X7T
     by_cases e:i=x.Hz1.toNat
     ·subst e
      simp only [if_true,X7C,hk',hc1,true_and,forall_const]
      constructor
      ·rintro ⟨⟨a,b⟩,c⟩;exact ⟨⟨b,c⟩,a⟩
      ·rintro ⟨⟨b,c⟩,a⟩;exact ⟨⟨a,b⟩,c⟩
     ·simp only [e,if_false,hk',forall_const]
      constructor
      ·rintro ⟨a,b⟩;exact ⟨⟨a,b⟩,fun q=>absurd q.symm e⟩
      ·rintro ⟨⟨a,b⟩,_⟩;exact ⟨a,b⟩
    refine ⟨fun h=>⟨(h1 h).1,fun i v=>((h1 h).2 i v).trans (key i v)⟩,fun h => ?_⟩
    obtain ⟨y,hy,hy2,hy3⟩:=h2 h
    exact ⟨y,by simp [hy],hy2,fun v hv=>hy3 v ((key _ v).2 hv)⟩
theorem X9u {f:ZI} (hg:W6 f) (i:Nat):(X2F f i).Lo≤(X2F f i).Hi:=by
 unfold X2F
 split
 ·rename_i h
  exact (hg.off _ (List.getElem_mem h)).2.1
 ·simp
def Num (f:ZI) (l:List Zm) (p:Zu) (ib mb:Int) (i:Nat) (v:Int):Prop:=X7T f p ib mb (X2F f) l i v
theorem X9Q {f:ZI} (hg:W6 f) (l:List Zm) (p:Zu) (ib mb:Int):(atN f l p ib mb).2=true↔∀ i,∃ v,Num f l p ib mb i v:=by
 obtain ⟨h1,h2⟩:=X7y f p ib mb l (X2F f) (X9u hg)
 unfold atN
 constructor
 ·intro h i
  obtain ⟨h3,h4⟩:=h1 h
  exact ⟨_,(h4 i ((atL f p ib mb (X2F f) l).1 i).Lo).1 ⟨Int.le_refl _,h3 i⟩⟩
 ·intro h
  cases hb:(atL f p ib mb (X2F f) l).2
  ·obtain ⟨x,_,_,h3⟩:=h2 hb
   obtain ⟨v,hv⟩:=h x.Hz1.toNat
   exact absurd hv (h3 v)
  ·rfl
theorem X8O {f:ZI} {l:List Zm} {p:Zu}:p∈X4T f l↔p∈X5V f∧(atN f l p 0 0).2=true:=by
 unfold X4T;rw [List.mem_filter]
theorem X4u (f:ZI) (l:List Zm):X3P f l=some (decide ((Wk f l).2=0)):=by
 rw [X6o];unfold X2r
 rw [X5K]
 simp only [jS]
 by_cases h:(Wk f l).2=0<;>simp [h,X3S]
end Nore
open Go Go.Ab
namespace Nore
def X3b:Nat→List Nat→List (List Nat)
 | 0,_=>[[]]
 | _+1,[]=>[]
 | n+1,t::l=>(X3b n l).map (t :: ·)++X3b (n+1) l
theorem X6f:∀ (l:List Nat) (n:Nat) (s:List Nat),s∈X3b n l↔s.Sublist l∧s.length=n
 | l,0,s=>by
  cases l<;>simp only [X3b,List.mem_singleton]<;>constructor
  ·rintro rfl;exact ⟨List.Sublist.refl _,rfl⟩
  ·intro h;exact List.eq_nil_of_length_eq_zero h.2
  ·rintro rfl;exact ⟨List.nil_sublist _,rfl⟩
  ·intro h;exact List.eq_nil_of_length_eq_zero h.2
 | [],n+1,s=>by
  simp only [X3b,List.not_mem_nil,false_iff]
  rintro ⟨h1,h2⟩
  have:=List.sublist_nil.1 h1
  subst this;simp at h2
 | t::l,n+1,s=>by
  simp only [X3b,List.mem_append,List.mem_map,X6f l]
  constructor
  ·rintro (⟨r,⟨h1,h2⟩,rfl⟩|⟨h1,h2⟩)
   ·exact ⟨h1.cons_cons t,by simp [h2]⟩
   ·exact ⟨h1.cons t,h2⟩
  ·rintro ⟨h1,h2⟩
   cases h1 with
   | cons _ h=>exact .inr ⟨h,h2⟩
   | cons_cons _ h=>exact .inl ⟨_,⟨h,by simpa using h2⟩,rfl⟩
def X5n (ok:List Nat→Bool) (l:List Nat):Nat→Nat→Option (List Nat)
 | _,0=>none
 | n,k+1=>match (X3b n l).find? ok with
  | some s=>some s
  | none=>X5n ok l (n+1) k
theorem X79 (ok:List Nat→Bool) (l:List Nat):∀ (k n:Nat) (s:List Nat),X5n ok l n k=some s→ok s=true∧s.Sublist l∧n≤s.length∧s.length<n+k∧(∀ r,r.Sublist l→ok r=true→n≤r.length→s.length≤r.length)∧(X3b s.length l).find? ok=some s
 | 0,n,s,h=>by cases h
 | k+1,n,s,h=>by
  unfold X5n at h
  cases hf:(X3b n l).find? ok with
  | some r =>
   rw [hf] at h
   cases h
   have hm:=(X6f l n s).1 (List.mem_of_find?_eq_some hf)
   refine ⟨List.find?_some hf,hm.1,by omega,by omega,fun r _ _ h=>by omega,by rw [hm.2];exact hf⟩
  | none =>
   rw [hf] at h
   obtain ⟨h1,h2,h3,h4,h5,h6⟩:=X79 ok l k (n+1) s h
   refine ⟨h1,h2,by omega,by omega,fun r hr hk hn => ?_,h6⟩
   by_cases e:n=r.length
   ·have:=(List.find?_eq_none.1 hf) r ((X6f l n r).2 ⟨hr,e.symm⟩)
    exact absurd hk this
   ·exact h5 r hr hk (by omega)
theorem X84 (ok:List Nat→Bool) (l:List Nat):∀ (k n:Nat) (r:List Nat),r.Sublist l→ok r=true→n≤r.length→r.length<n+k→∃ s,X5n ok l n k=some s
 | 0,n,r,h1,h2,h3,h4=>by omega
 | k+1,n,r,h1,h2,h3,h4=>by
  unfold X5n
  cases hf:(X3b n l).find? ok with
  | some s=>exact ⟨s,rfl⟩
  | none =>
   by_cases e:n=r.length
   ·have:=(List.find?_eq_none.1 hf) r ((X6f l n r).2 ⟨h1,e.symm⟩)
    exact absurd h2 this
   ·exact X84 ok l k (n+1) r h1 h2 (by omega) (by omega)
theorem X85:∀ {a b:List Nat},a.Nodup→(∀ t∈a,t∈b)→a.length≤b.length
 | [],b,_,_=>by simp
 | t::a,b,h,hs=>by
  have h2:=List.nodup_cons.1 h
  have hm:=hs t (by simp)
  have:=X85 (b:=b.erase t) h2.2 fun u hu=>by
   have hne:u≠t:=fun e=>h2.1 (e ▸ hu)
   exact (List.mem_erase_of_ne hne).2 (hs u (by simp [hu]))
  have hlen:=List.length_erase_of_mem hm
  have hpos:=List.length_pos_of_mem hm
  simp only [List.length_cons]
  omega
def X0 (f:ZI):Nat:=f.Hz9.Hz8.length
def X7E (f:ZI) (s:List Nat) (x:Zm):Bool := !(s.contains (X0 f+x.Hz1.toNat))&&((Xp f x.Hz1).Lead || !(s.contains x.Mark.toNat))
def WO (f:ZI) (l:List Zm) (s:List Nat):List Zm:=l.filter (X7E f s)
def X3c (f:ZI) (l:List Zm) (t:Nat):Bool:=l.any fun x=>decide (X0 f+x.Hz1.toNat=t)||(!(Xp f x.Hz1).Lead&&decide (x.Mark.toNat=t))
def WP (f:ZI) (l:List Zm):List Nat:=(List.range (X0 f+f.Hz0.length)).filter (X3c f l)
def okW (f:ZI) (l:List Zm) (s:List Nat):Bool := !(X4T f (WO f l s)).isEmpty
def X4a (f:ZI) (l:List Zm):List Nat:=(X5n (okW f l) (WP f l) 0 (f.Hz0.length+1)).getD []
theorem X9J {f:ZI} (hg:W6 f):X5V f≠[]:=fun h=>by
 have:=(X7G hg.half.1 ⟨(-f.Half)*f.Step,(-f.Half)*f.Step⟩).2 ⟨-f.Half,-f.Half,by have:=hg.half;omega,by have:=hg.half;omega,by have:=hg.half;omega,by have:=hg.half;omega,rfl⟩
 rw [h] at this;cases this
theorem X8Q {f:ZI} (hg:W6 f):X4T f []=X5V f:=by
 unfold X4T
 apply List.filter_eq_self.2
 intro p _
 rfl
theorem X8y {f:ZI} {l:List Zm} {s:List Nat}:∀ x∈WO f l s,x∈l:=fun x hx=>(List.mem_filter.1 hx).1
theorem X9v {f:ZI} (hg:W6 f) {l:List Zm} (hl:∀ x∈l,Xa f x=0):okW f l ((WP f l).filter fun t=>decide (X0 f≤t))=true:=by
 have:WO f l ((WP f l).filter fun t=>decide (X0 f≤t))=[]:=by
  unfold WO
  rw [List.filter_eq_nil_iff]
  intro x hx hk
  obtain ⟨⟨h1,h2⟩,_⟩:=X3E (hl x hx)
  unfold X7E at hk
  have hc:((WP f l).filter fun t=>decide (X0 f≤t)).contains (X0 f+x.Hz1.toNat)=true:=by
   rw [List.contains_iff_mem,List.mem_filter]
   refine ⟨?_,by simp⟩
   unfold WP
   rw [List.mem_filter,List.mem_range]
   refine ⟨by omega,?_⟩
   unfold X3c
   rw [List.any_eq_true]
   exact ⟨x,hx,by simp⟩
  rw [hc] at hk
  simp at hk
 unfold okW
 rw [this,X8Q hg]
 cases h:X5V f with
 | nil=>exact absurd h (X9J hg)
 | cons a b=>rfl
theorem X9b {f:ZI} {l:List Zm}:((WP f l).filter fun t=>decide (X0 f≤t)).length≤f.Hz0.length:=by
 unfold WP
 rw [List.filter_filter]
 have h1:((List.range (X0 f+f.Hz0.length)).filter fun t=>decide (X0 f≤t)&&X3c f l t).length≤((List.range (X0 f+f.Hz0.length)).filter fun t=>decide (X0 f≤t)).length:=by
  apply List.Sublist.length_le
  have:((List.range (X0 f+f.Hz0.length)).filter fun t=>decide (X0 f≤t)&&X3c f l t)=((List.range (X0 f+f.Hz0.length)).filter fun t=>decide (X0 f≤t)).filter (X3c f l):=by
   rw [List.filter_filter]
   congr 1
   funext t
   rw [Bool.and_comm]
  rw [this]
  exact List.filter_sublist
 have h2:∀ (n m:Nat),((List.range (m+n)).filter fun t=>decide (m≤t)).length≤n:=fun n m=>by
  induction n with
  | zero =>
   have:(List.range (m+0)).filter (fun t=>decide (m≤t))=[]:=by
    rw [List.filter_eq_nil_iff]
    intro a ha
    have:=List.mem_range.1 ha
    simp;omega
   rw [this];simp
  | succ n ih =>
   rw [←Nat.add_assoc,List.range_succ,List.filter_append]
   simp only [List.length_append]
   have:([m+n].filter fun t=>decide (m≤t)).length≤1:=by
    exact List.length_filter_le (fun t=>decide (m≤t)) [m+n]
   omega
 have:=h2 f.Hz0.length (X0 f)
 omega
structure X9O (f:ZI) (l:List Zm) (s:List Nat):Prop where
 ok:okW f l s=true
 sub:s.Sublist (WP f l)
 least:∀ r,r.Sublist (WP f l)→okW f l r=true→s.length≤r.length
 first:X5n (okW f l) (WP f l) 0 (f.Hz0.length+1)=some s
theorem X7R {f:ZI} (hg:W6 f) {l:List Zm} (hl:∀ x∈l,Xa f x=0):X9O f l (X4a f l):=by
 have hlen := @X9b f l
 obtain ⟨s,hs⟩:=X84 (okW f l) (WP f l) (f.Hz0.length+1) 0 ((WP f l).filter fun t=>decide (X0 f≤t)) List.filter_sublist (X9v hg hl) (by omega) (by omega)
 have:X4a f l=s:=by unfold X4a;rw [hs];rfl
 rw [this]
 obtain ⟨h1,h2,_,_,h5,_⟩:=X79 _ _ _ _ _ hs
 exact ⟨h1,h2,fun r hr hk=>h5 r hr hk (by omega),hs⟩
theorem X8Y {f:ZI} {l:List Zm}:(WP f l).Nodup:=List.Pairwise.filter _ List.nodup_range
theorem X94 {f:ZI} {l:List Zm} {t:Nat} (h:t∈WP f l):t<X0 f+f.Hz0.length:=by
 unfold WP at h;exact List.mem_range.1 (List.mem_filter.1 h).1
theorem X8C {f:ZI} {l:List Zm}:(WP f l).Pairwise (· < ·):=List.Pairwise.filter _ List.pairwise_lt_range
theorem X9g {f:ZI} {l:List Zm} (hl:∀ x∈l,Xa f x=0) (s:List Nat):WO f l ((WP f l).filter fun t=>s.contains t)=WO f l s:=by
 unfold WO
 apply List.filter_congr
 intro x hx
 obtain ⟨⟨h1,h2⟩,_,h3⟩:=X3E (hl x hx)
 have key:∀ t,t<X0 f+f.Hz0.length→X3c f l t=true→((WP f l).filter fun t=>s.contains t).contains t=s.contains t:=fun t ht hu=>by
  rw [Bool.eq_iff_iff,List.contains_iff_mem,List.mem_filter]
  constructor
  ·exact fun h=>h.2
  ·intro h
   refine ⟨?_,h⟩
   unfold WP
   rw [List.mem_filter,List.mem_range]
   exact ⟨ht,hu⟩
 unfold X7E
 rw [key (X0 f+x.Hz1.toNat) (by omega) (by unfold X3c;rw [List.any_eq_true];exact ⟨x,hx,by simp⟩)]
 cases hL:(Xp f x.Hz1).Lead
 ·have h3:=h3 hL
  rw [key x.Mark.toNat (by unfold X0;omega) (by unfold X3c;rw [List.any_eq_true];exact ⟨x,hx,by simp [hL]⟩)]
 ·simp
theorem X8E {f:ZI} (hg:W6 f) {l:List Zm} (hl:∀ x∈l,Xa f x=0) (s:List Nat) (hs:okW f l s=true):(X4a f l).length≤s.length:=by
 have h1:okW f l ((WP f l).filter fun t=>s.contains t)=true:=by unfold okW at hs ⊢;rw [X9g hl];exact hs
 have h2:=(X7R hg hl).least _ List.filter_sublist h1
 have h3:((WP f l).filter fun t=>s.contains t).length≤s.length:=by
  apply X85 (List.Pairwise.filter _ X8Y)
  intro t ht
  have:=(List.mem_filter.1 ht).2
  simpa using this
 omega
end Nore
open Go Go.Ab
namespace Nore
theorem X6h (n:Nat) (h:n<18446744073709551616):(BitVec.ofInt 64 (n:Int)).toNat=n:=by
 rw [BitVec.toNat_ofInt];omega
theorem X7w (k:Nat) (hk:k<40):IntKind.wrap .i64 (1*2 ^ min (Int.toNat (k:Int)) (IntKind.bits .i64))=((2 ^ k:Nat):Int):=by
 have hb:IntKind.bits .i64=64:=rfl
 have hp:((2:Int) ^ k)=((2 ^ k:Nat):Int):=by simp
 have hle:2 ^ k≤2 ^ 40:=Nat.pow_le_pow_right (by omega) (by omega)
 rw [hb,kS,show min k 64=k by omega,hp,Int.one_mul]
 generalize 2 ^ k=z at *
 rw [w64]<;>omega
theorem X9T (a b:Nat) (ha:a<2 ^ 41) (hb:b<2 ^ 41):IntKind.wrap .i64 (↑(BitVec.toNat (BitVec.ofInt (IntKind.bits .i64) (a:Int) ||| BitVec.ofInt (IntKind.bits .i64) (b:Int))):Int)=((a ||| b:Nat):Int):=by
 have h:=Nat.or_lt_two_pow ha hb
 rw [show IntKind.bits .i64=64 from rfl,BitVec.toNat_or,X6h _ (by omega),X6h _ (by omega),w64]<;>omega
theorem X9o (a b:Nat) (ha:a<2 ^ 41) (hb:b<2 ^ 41):IntKind.wrap .i64 (↑(BitVec.toNat (BitVec.ofInt (IntKind.bits .i64) (a:Int) &&& BitVec.ofInt (IntKind.bits .i64) (b:Int))):Int)=((a &&& b:Nat):Int):=by
 have h:a &&& b<2 ^ 41:=Nat.lt_of_le_of_lt Nat.and_le_left ha
 rw [show IntKind.bits .i64=64 from rfl,BitVec.toNat_and,X6h _ (by omega),X6h _ (by omega),w64]<;>omega
theorem X8z (a k:Nat) (hk:k<64):Int.fdiv (a:Int) (2 ^ min (Int.toNat (k:Int)) (IntKind.bits .i64))=((a / 2 ^ k:Nat):Int):=by
 have hb:IntKind.bits .i64=64:=rfl
 have hp:((2:Int) ^ k)=((2 ^ k:Nat):Int):=by simp
 rw [hb,kS,show min k 64=k by omega,hp,Int.ofNat_fdiv]
theorem X8o (a k:Nat) (ha:a<2 ^ 41) (hk:k<64):X71 (a:Int) (k:Int)=a.testBit k:=by
 unfold X71
 rw [X8z a k hk]
 have hle:a / 2 ^ k≤a:=Nat.div_le_self _ _
 have h1:=X9o (a / 2 ^ k) 1 (by omega) (by omega)
 simp only [Int.natCast_one] at h1
 rw [h1,Nat.testBit_eq_decide_div_mod_eq,Nat.and_one_is_mod,Bool.eq_iff_iff]
 simp only [beq_iff_eq,decide_eq_true_eq]
 omega
theorem X8f {a n:Nat} (h:∀ k,n≤k→a.testBit k=false):a<2 ^ n:=Nat.lt_pow_two_of_testBit a h
def X7x (a:Nat) (s:List Nat):Prop:=∀ k,a.testBit k=s.contains k
theorem X59 {f:ZI} {x:Zm} (h:Xa f x=0):((x.Hz1.toNat:Nat):Int)=x.Hz1∧x.Hz1.toNat<f.Hz0.length:=by
 obtain ⟨⟨h1,h2⟩,_⟩:=X3E h;omega
theorem X6U {f:ZI} {x:Zm} (h:Xa f x=0) (hL:(Xp f x.Hz1).Lead=false):((x.Mark.toNat:Nat):Int)=x.Mark∧x.Mark.toNat<f.Hz9.Hz8.length:=by
 obtain ⟨_,_,h3⟩:=X3E h;have:=h3 hL;omega
theorem X7Q {f:ZI} {l:List Zm} (hl:∀ x∈l,Xa f x=0) (k:Nat) (hk:X0 f+f.Hz0.length≤k):X3c f l k=false:=by
 unfold X3c
 rw [List.any_eq_false]
 intro x hx
 have h1:=X59 (hl x hx)
 have e1:decide (X0 f+x.Hz1.toNat=k)=false:=by simp;omega
 rw [e1,Bool.false_or]
 cases hL:(Xp f x.Hz1).Lead
 ·have h2:=X6U (hl x hx) hL
  have:decide (x.Mark.toNat=k)=false:=by unfold X0 at hk;simp;omega
  rw [this];simp
 ·simp
theorem X8V {f:ZI} (hg:W6 f) {l:List Zm} (hl:∀ x∈l,Xa f x=0) (hll:l.length≤8) {kit:Nat→Nat} (hk:Kit f kit) (m:List (Zh×Int)) :
  ∃ a:Nat,(∀ k,a.testBit k=X3c f l k)∧WC (f,l,kit,m)=some ((a:Int),f,l,kit,m):=by
 rw [X3o];unfold XB
 have hM:=hg.marks
 have hI:=hg.inst
 have main:=X5i (Xb (↑l.length) l f kit) (fun o=>some (o,f,l,kit,m)) l.length (fun i (a:Nat)=>((i:Int),(a:Int))) (fun i a=>∀ k,a.testBit k=X3c f (l.take i) k) (fun _ _ r=>∃ a:Nat,(∀ k,a.testBit k=X3c f l k)∧r=some ((a:Int),f,l,kit,m))
  (by
   intro a ha R
   refine ⟨a,by simpa using ha,?_⟩
   simp [Xb,Xh])
  (by
   intro i a hi ha R hR
   have hw:=wS i (by omega)
   have e1:decide ((i:Int)<↑l.length)=true:=by simp [hi]
   have e2:=z0S i
   have hx:=hl _ (List.getElem_mem hi)
   obtain ⟨x,hxd⟩:∃ x,l[i]=x:=⟨_,rfl⟩
   rw [hxd] at hx
   have hgd:l.getD i ⟨0,0,0,0⟩=x:=(X1 _ _ _ hi).trans hxd
   obtain ⟨n1,n2⟩:=X59 hx
   have hw1:IntKind.wrap .i64 ((↑f.Hz9.Hz8.length:Int)+x.Hz1)=((X0 f+x.Hz1.toNat:Nat):Int):=by unfold X0;rw [w64]<;>omega
   have hneg:decide (((X0 f+x.Hz1.toNat:Nat):Int)<0)=false:=by simp;omega
   have i1:decide (0≤x.Hz1)=true:=by simp;omega
   have i2:decide (x.Hz1<((4:Nat):Int))=true:=by simp;omega
   have i2':decide (x.Hz1<(4:Int))=true:=by simp;omega
   have i3:Nat.blt x.Hz1.toNat 4=true:=by rw [Tr.blt_dec];simp;omega
   have htake:l.take (i+1)=l.take i++[x]:=by rw [List.take_succ_eq_append_getElem hi,hxd]
   have hlt:a<2 ^ 12:=X8f fun k hk=>by
    rw [ha]
    apply X7Q (fun y hy=>hl y (List.mem_of_mem_take hy))
    unfold X0;omega
   have hp1:2 ^ (X0 f+x.Hz1.toNat)<2 ^ 12:=Nat.pow_lt_pow_right (by omega) (by unfold X0;omega)
   have ho1:=X9T a (2 ^ (X0 f+x.Hz1.toNat)) (by omega) (by omega)
   have hs1:=X7w (X0 f+x.Hz1.toNat) (by unfold X0;omega)
   have hkk:=hk _ n2
   have hio:Xp f x.Hz1=f.Hz0[x.Hz1.toNat]:=X1 _ _ _ n2
   simp only [Xb,Xh,kS,hgd,hw,e1,e2,hw1,hneg,i1,i2,i2',i3,Bool.and_self,cond_true,cond_false]
   simp only [kS] at hs1
   rcases Bool.eq_false_or_eq_true (Xp f x.Hz1).Lead with hL|hL
   ·rw [←hio,hL] at hkk
    simp only [if_true] at hkk
    simp only [hkk,show Nat.beq 2 0=false from rfl,show Nat.beq 2 1=false from rfl,show Nat.beq 2 (1+1)=true from rfl,cond_false,cond_true,hs1,ho1,jS,Sum.elim_inl]
    refine hR _ fun k => ?_
    rw [Nat.testBit_or,ha,Nat.testBit_two_pow,htake]
    unfold X3c
    simp [hL]
   ·rw [←hio,hL] at hkk
    simp only [Bool.false_eq_true,if_false] at hkk
    obtain ⟨m1,m2⟩:=X6U hx hL
    have i5:decide (x.Mark<0)=false:=by simp;omega
    have hlt2:a ||| 2 ^ (X0 f+x.Hz1.toNat)<2 ^ 12:=Nat.or_lt_two_pow hlt hp1
    have hp2:2 ^ x.Mark.toNat<2 ^ 12:=Nat.pow_lt_pow_right (by omega) (by omega)
    have ho2:=X9T (a ||| 2 ^ (X0 f+x.Hz1.toNat)) (2 ^ x.Mark.toNat) (by omega) (by omega)
    have hs2:=X7w x.Mark.toNat (by omega)
    simp only [kS] at hs2
    simp only [hkk,show Nat.beq 1 0=false from rfl,show Nat.beq 1 1=true from rfl,cond_false,cond_true,i5,hs1,ho1,hs2,ho2,jS,Sum.elim_inl]
    refine hR _ fun k => ?_
    rw [Nat.testBit_or,Nat.testBit_or,ha,Nat.testBit_two_pow,Nat.testBit_two_pow,htake]
    unfold X3c
    simp [hL,Bool.or_assoc])
 have h:=main 0 0 (by omega) (fun k=>by simp [X3c])
 unfold X16
 simpa using h
theorem X9j (f:ZI) (x:Zm):X2G f 0 0 x=false:=by unfold X2G;simp [X97]
theorem X6C (f:ZI) (p:Zu) (ib mb:Int) (q:Zm→Bool):∀ (l:List Zm) (s:Nat→ZE),(∀ x∈l,X2G f ib mb x = !q x)→atL f p ib mb s l=atL f p 0 0 s (l.filter q)
 | [],_,_=>rfl
 | x::l,s,h=>by
  have hx:=h x (by simp)
  have hl:∀ y∈l,X2G f ib mb y = !q y:=fun y hy=>h y (by simp [hy])
  cases hq:q x
  ·rw [hq] at hx
   rw [List.filter_cons_of_neg (by simp [hq])]
   simp only [atL,hx,Bool.not_false,if_true]
   exact X6C f p ib mb q l s hl
  ·rw [hq] at hx
   rw [List.filter_cons_of_pos hq]
   simp only [atL,hx,X9j,Bool.not_true,Bool.false_eq_true,if_false]
   rw [X6C f p ib mb q l _ hl]
theorem X9i {f:ZI} (hg:W6 f) {x:Zm} (hx:Xa f x=0) {a:Nat} {s:List Nat} (ha:X7x a s) (h12:a<2 ^ 40):X2G f ((a / 2 ^ X0 f:Nat):Int) ((a &&& (2 ^ X0 f-1):Nat):Int) x = !X7E f s x:=by
 have hM:=hg.marks
 have hI:=hg.inst
 obtain ⟨n1,n2⟩:=X59 hx
 have hle:a / 2 ^ X0 f≤a:=Nat.div_le_self _ _
 have hle2:a &&& (2 ^ X0 f-1)≤a:=Nat.and_le_left
 unfold X2G X7E
 rw [←n1,X8o _ _ (by omega) (by omega),Nat.testBit_div_two_pow,ha,n1,Nat.add_comm]
 cases hL:(Xp f x.Hz1).Lead
 ·obtain ⟨m1,m2⟩:=X6U hx hL
  have hmb:X71 ((a &&& (2 ^ X0 f-1):Nat):Int) x.Mark=s.contains x.Mark.toNat:=by
   rw [←m1,X8o _ _ (by omega) (by omega),Nat.testBit_and,ha,Nat.testBit_two_pow_sub_one,kS]
   have:decide (x.Mark.toNat<X0 f)=true:=by unfold X0;simp;omega
   rw [this,Bool.and_true]
  rw [hmb]
  cases s.contains (X0 f+x.Hz1.toNat)<;>cases s.contains x.Mark.toNat<;>rfl
 ·cases s.contains (X0 f+x.Hz1.toNat)<;>rfl
theorem X9E {f:ZI} (hg:W6 f) {l:List Zm} (hl:∀ x∈l,Xa f x=0) {a:Nat} {s:List Nat} (ha:X7x a s) (h12:a<2 ^ 40) (p:Zu):atN f l p ((a / 2 ^ X0 f:Nat):Int) ((a &&& (2 ^ X0 f-1):Nat):Int)=atN f (WO f l s) p 0 0:=by
 unfold atN WO
 exact X6C f p _ _ _ l _ fun x hx=>X9i hg (hl x hx) ha h12
end Nore
open Go Go.Ab
namespace Nore
theorem X7U {α:Type} (l:List α) (q:α→Bool):l.any q = !(l.filter q).isEmpty:=by
 induction l with
 | nil=>rfl
 | cons a l ih =>
  rw [List.any_cons,List.filter_cons]
  cases h:q a
  ·simp [ih]
  ·simp
theorem X81 {f:ZI} {l:List Zm} (hg:X82 f l) {kit:Nat→Nat} (hk:Kit f kit) {a:Nat} {s:List Nat} (ha:X7x a s) (h12:a<2 ^ 40) (x:Int) (hx : -8≤x∧x≤8) {m:List (Zh×Int)} (hm:Wx f m) {γ:Type} (k:_→Option γ) (Q:Option γ→Prop)
  (h1:∀ m' o p,Wx f m'→((X2k f x (-f.Half) (X1U f)).any fun p=>(atN f (WO f l s) p 0 0).2)=true→Q (k (.inl (f,l,kit,o,p,m',true))))
  (h2:∀ m',Wx f m'→((X2k f x (-f.Half) (X1U f)).any fun p=>(atN f (WO f l s) p 0 0).2)=false→Q (k (.inr (f,l,kit,m')))) :
  Q (Option.bind (XH x (a:Int) ((2 ^ X0 f-1:Nat):Int) (-f.Half,f,l,kit,m)) k):=by
 have hh:=hg.fix.half
 have hs:=hg.fix.step
 have hM:=hg.fix.marks
 have hw0:(X1U f:Int)=2*f.Half+1:=by unfold X1U;omega
 have hle2:a &&& (2 ^ X0 f-1)≤a:=Nat.and_le_left
 have hp8:2 ^ X0 f≤2 ^ 8:=Nat.pow_le_pow_right (by omega) hM
 refine (X5i (X8 x (a:Int) ((2 ^ X0 f-1:Nat):Int)) k (X1U f) (fun i (b:List (Zh×Int))=>(-f.Half+i,f,l,kit,b)) (fun i b=>Wx f b∧((X2k f x (-f.Half+i) (X1U f-i)).any fun p=>(atN f (WO f l s) p 0 0).2)=((X2k f x (-f.Half) (X1U f)).any fun p=>(atN f (WO f l s) p 0 0).2)) (fun _ _ r=>Q r) ?_ ?_ 0 m (by omega) ⟨hm,by simp⟩) |> fun h=>by simpa [XH] using h
 ·intro b hb R
  have e1:decide (-f.Half+(X1U f:Int)≤f.Half)=false:=by simp;omega
  simp only [X8,Xe,e1,cond_false,jS,Sum.elim_inr]
  refine h2 _ hb.1 ?_
  rw [←hb.2];simp [X2k]
 ·intro i b hi hb R hR
  obtain ⟨hb1,hb3⟩:=hb
  have e1:decide (-f.Half+(i:Int)≤f.Half)=true:=by simp;omega
  have hw:IntKind.wrap .i64 (-f.Half+(i:Int)+1) = -f.Half+((i+1:Nat):Int):=by rw [w64]<;>omega
  have m1:=X4w (a:=x) (b:=f.Step) 8 500 (by omega) (by omega) (by omega) (by omega)
  have m2:=X4w (a := -f.Half+(i:Int)) (b:=f.Step) 8 500 (by omega) (by omega) (by omega) (by omega)
  simp only [X8,Xe,e1,cond_true]
  rw [w64 (x:=x*f.Step) (by omega) (by omega),w64 (x:=(-f.Half+(i:Int))*f.Step) (by omega) (by omega),hw]
  have hsh:=X8z a (X0 f) (by unfold X0;omega)
  have hnd:=X9o a (2 ^ X0 f-1) (by omega) (by omega)
  rw [show (f.Hz9.Hz8.length:Int)=((X0 f:Nat):Int) from rfl,hsh,hnd]
  obtain ⟨m',hm',hc⟩:=X9P hg.fix hg.each hg.len hk hb1 ⟨x*f.Step,(-f.Half+(i:Int))*f.Step⟩ ((a / 2 ^ X0 f:Nat):Int) ((a &&& (2 ^ X0 f-1):Nat):Int)
  rw [X9E hg.fix hg.each ha h12] at hc
  rw [hc]
  simp only [jS]
  have hrow:X2k f x (-f.Half+(i:Int)) (X1U f-i)=⟨x*f.Step,(-f.Half+(i:Int))*f.Step⟩::X2k f x (-f.Half+((i+1:Nat):Int)) (X1U f-(i+1)):=by
   rw [show X1U f-i=(X1U f-(i+1))+1 by omega,X2k,show -f.Half+(i:Int)+1 = -f.Half+((i+1:Nat):Int) by push_cast;omega]
  rw [hrow,List.any_cons] at hb3
  cases hat:(atN f (WO f l s) ⟨x*f.Step,(-f.Half+(i:Int))*f.Step⟩ 0 0).2
  ·simp only [cond_false,jS,Sum.elim_inl]
   refine hR m' ⟨hm',?_⟩
   rw [hat,Bool.false_or] at hb3
   exact hb3
  ·simp only [cond_true,jS,Sum.elim_inr]
   refine h1 _ _ _ hm' ?_
   rw [hat,Bool.true_or] at hb3
   exact hb3.symm
theorem X8D {f:ZI} {l:List Zm} (hg:X82 f l) {kit:Nat→Nat} (hk:Kit f kit) {a:Nat} {s:List Nat} (ha:X7x a s) (h12:a<2 ^ 40) {m:List (Zh×Int)} (hm:Wx f m) :
  ∃ m',Wx f m'∧Wa ((a:Int),f,l,kit,m)=some (okW f l s,f,l,kit,m'):=by
 rw [X36];unfold Xu
 have hh:=hg.fix.half
 have hM:=hg.fix.marks
 have hw0:(X1U f:Int)=2*f.Half+1:=by unfold X1U;omega
 have hw2:IntKind.wrap .i64 (0-f.Half) = -f.Half:=by rw [w64]<;>omega
 have hp8:2 ^ X0 f≤2 ^ 8:=Nat.pow_le_pow_right (by omega) hM
 have hp1:1≤2 ^ X0 f:=Nat.one_le_two_pow
 have hmask:IntKind.wrap .i64 (IntKind.wrap .i64 (1*2 ^ min (Int.toNat (↑f.Hz9.Hz8.length:Int)) (IntKind.bits .i64))-1)=((2 ^ X0 f-1:Nat):Int):=by
  rw [show (f.Hz9.Hz8.length:Int)=((X0 f:Nat):Int) from rfl,X7w _ (by unfold X0;omega),w64]<;>omega
 have hok:okW f l s=(X5V f).any fun p=>(atN f (WO f l s) p 0 0).2:=by unfold okW X4T;rw [X7U]
 simp only [hw2,hmask]
 refine (X5i (X7 (a:Int) ((2 ^ X0 f-1:Nat):Int)) _ (X1U f) (fun i (b:List (Zh×Int))=>(-f.Half+i,f,l,kit,b)) (fun i b=>Wx f b∧((X2Q f (-f.Half+i) (X1U f-i)).any fun p=>(atN f (WO f l s) p 0 0).2)=okW f l s) (fun _ _ r=>∃ m',Wx f m'∧r=some (okW f l s,f,l,kit,m')) ?_ ?_ 0 m (by omega) ⟨hm,by rw [hok];simp [X5V]⟩) |> fun h=>by simpa [WT] using h
 ·intro b hb R
  have e1:decide (-f.Half+(X1U f:Int)≤f.Half)=false:=by simp;omega
  simp only [X7,Xd,e1,cond_false,jS,Sum.elim_inr]
  refine ⟨b,hb.1,?_⟩
  rw [←hb.2];simp [X2Q]
 ·intro i b hi hb R hR
  obtain ⟨hb1,hb3⟩:=hb
  have e1:decide (-f.Half+(i:Int)≤f.Half)=true:=by simp;omega
  have hw:IntKind.wrap .i64 (-f.Half+(i:Int)+1) = -f.Half+((i+1:Nat):Int):=by rw [w64]<;>omega
  have hgr:X2Q f (-f.Half+(i:Int)) (X1U f-i)=X2k f (-f.Half+(i:Int)) (-f.Half) (X1U f)++X2Q f (-f.Half+((i+1:Nat):Int)) (X1U f-(i+1)):=by
   rw [show X1U f-i=(X1U f-(i+1))+1 by omega,X2Q,show -f.Half+(i:Int)+1 = -f.Half+((i+1:Nat):Int) by push_cast;omega]
  rw [hgr,List.any_append] at hb3
  simp only [X7,Xd,e1,cond_true,hw,hw2]
  rw [Option.bind_assoc]
  refine X81 hg hk ha h12 _ (by omega) hb1 _ (fun r=>∃ m',Wx f m'∧r=some (okW f l s,f,l,kit,m')) (fun m' o p hm' ht => ?_) (fun m' hm' ht => ?_)
  ·simp only [Sum.elim_inl,jS,Sum.elim_inr]
   rw [ht,Bool.true_or] at hb3
   exact ⟨m',hm',by rw [←hb3]⟩
  ·simp only [jS,Sum.elim_inr,Sum.elim_inl]
   rw [ht,Bool.false_or] at hb3
   exact hR m' ⟨hm',hb3⟩
end Nore
open Go Go.Ab
namespace Nore
theorem X8R {α β:Type} {t:(α→Option β)→α→Option β} {x:α} (h:∃ n r,Z8A t n x=some r):∃ n r,Z9X t x=some r∧Z8A t n x=some r:=by
 obtain ⟨n,r,hr⟩:=h
 have:Z9X t x≠none:=by
  unfold Z9X
  rw [dif_pos ⟨n,r,hr⟩]
  exact fun h=>by cases h
 cases hc:Z9X t x with
 | none=>exact absurd hc this
 | some y =>
  obtain ⟨k,hk⟩:=Z8U hc
  exact ⟨k,y,rfl,hk⟩
theorem X8r {α β:Type} (g:α→β) (q:β→Bool):∀ (l:List α),(l.map g).find? q=(l.find? fun a=>q (g a)).map g
 | []=>rfl
 | a::l=>by
  rw [List.map_cons,List.find?_cons,List.find?_cons,X8r g q l]
  cases q (g a)<;>rfl
def X4G (f:ZI) (l:List Zm) (t:Nat):List Nat:=(WP f l).filter fun k=>decide (t≤k)
theorem X8X (f:ZI) (l:List Zm):X4G f l 0=WP f l:=List.filter_eq_self.2 fun _ _=>by simp
theorem X5x:∀ (l:List Nat) (t:Nat),l.Pairwise (· < ·)→t∈l→(l.filter fun k=>decide (t≤k))=t::l.filter fun k=>decide (t+1≤k)
 | [],_,_,h=>by cases h
 | a::l,t,hp,h=>by
  have hp2:=List.pairwise_cons.1 hp
  by_cases e:a=t
  ·subst e
   rw [List.filter_cons_of_pos (by simp),List.filter_cons_of_neg (by simp)]
   congr 1
   apply List.filter_congr
   intro b hb
   have:=hp2.1 b hb
   simp;omega
  ·have hm:t∈l:=by
    rcases List.mem_cons.1 h with e'|e'
    ·exact absurd e'.symm e
    ·exact e'
   have:=hp2.1 t hm
   rw [List.filter_cons_of_neg (by simp;omega),List.filter_cons_of_neg (by simp;omega)]
   exact X5x l t hp2.2 hm
theorem X9D {f:ZI} {l:List Zm} {t:Nat} (h:t∈WP f l):X4G f l t=t::X4G f l (t+1):=X5x _ t X8C h
theorem X9m {f:ZI} {l:List Zm} {t:Nat} (h:t∉WP f l):X4G f l t=X4G f l (t+1):=by
 unfold X4G
 apply List.filter_congr
 intro b hb
 have:b≠t:=fun e=>h (e ▸ hb)
 simp only [decide_eq_decide];omega
theorem X7H {f:ZI} {l:List Zm} (hl:∀ x∈l,Xa f x=0) {t:Nat}:t∈WP f l↔X3c f l t=true:=by
 unfold WP
 rw [List.mem_filter,List.mem_range]
 constructor
 ·exact fun h=>h.2
 ·intro h
  refine ⟨?_,h⟩
  have:=X7Q hl t
  by_cases c:t<X0 f+f.Hz0.length
  ·exact c
  ·rw [this (by omega)] at h;cases h
abbrev PSt:=Int×Bool×ZI×List Zm×(Nat→Nat)×Int×List (Zh×Int)
def X7u (f:ZI) (l:List Zm) (kit:Nat→Nat) (A:Nat) (s:List Nat) (n:Nat) (u:List Nat) (r:Option PSt):Prop :=
 ∃ m',Wx f m'∧match (X3b n u).find? (fun q=>okW f l (s++q)) with
  | some q=>∃ a':Nat,X7x a' (s++q)∧r=some ((a':Int),true,f,l,kit,(A:Int),m')
  | none=>∃ z,r=some (z,false,f,l,kit,(A:Int),m')
theorem X9F {a t:Nat} {s:List Nat} (h:X7x a s):X7x (a ||| 2 ^ t) (s++[t]):=fun k=>by
 rw [Nat.testBit_or,h k,Nat.testBit_two_pow,List.contains_eq_mem,List.contains_eq_mem]
 by_cases e:t=k
 ·subst e;simp
 ·simp [e,Ne.symm e]
theorem X89 {a:Nat} {s:List Nat} (h:X7x a s) (hs:∀ t∈s,t<12):a<2 ^ 12:=X8f fun k hk=>by
 rw [h k,List.contains_eq_mem]
 by_cases c:k∈s
 ·have:=hs k c;omega
 ·simp [c]
theorem X8n (a k:Nat) (ha:a<2 ^ 41) (hk:k<64):(IntKind.wrap IntKind.i64 (↑(BitVec.toNat (BitVec.ofInt (IntKind.bits IntKind.i64) (Int.fdiv (a:Int) (2 ^ min (Int.toNat (k:Int)) (IntKind.bits IntKind.i64))) &&& BitVec.ofInt (IntKind.bits IntKind.i64) 1)):Int)==0) = !a.testBit k:=by
 rw [X8z a k hk]
 have hle:a / 2 ^ k≤a:=Nat.div_le_self _ _
 have h1:=X9o (a / 2 ^ k) 1 (by omega) (by omega)
 simp only [Int.natCast_one] at h1
 rw [h1,Nat.testBit_eq_decide_div_mod_eq,Nat.and_one_is_mod,Bool.eq_iff_iff]
 simp only [beq_iff_eq,Bool.not_eq_true',decide_eq_false_iff_not]
 omega
theorem X9L {f:ZI} {l:List Zm} (hg:X82 f l) {kit:Nat→Nat} (hk:Kit f kit) {A:Nat} (hA:∀ k,A.testBit k=X3c f l k) :
  ∀ (n fuel t a:Nat) (s:List Nat) (m:List (Zh×Int)),n≤1000→t≤12→X7x a s→(∀ k∈s,k<12)→Wx f m →
   (Z8A Xj fuel ((t:Int),(a:Int),(n:Int),f,l,kit,(A:Int),m)=none∧fuel≤n)∨X7u f l kit A s n (X4G f l t) (Z8A Xj fuel ((t:Int),(a:Int),(n:Int),f,l,kit,(A:Int),m)):=by
 have hM:=hg.fix.marks
 have hI:=hg.fix.inst
 have hA12:A<2 ^ 12:=X8f fun k hk=>by rw [hA];exact X7Q hg.each k (by unfold X0;omega)
 intro n
 induction n with
 | zero =>
  intro fuel t a s m hn ht ha hs hm
  cases fuel with
  | zero=>exact .inl ⟨rfl,Nat.le_refl _⟩
  | succ fuel =>
   right
   have ha12:=X89 ha hs
   obtain ⟨m',hm',hc⟩:=X8D hg hk ha (by omega) hm
   simp only [Z8A,Xj,X1X]
   rw [show (((0:Nat):Int)==0)=true from rfl,cond_true,hc]
   refine ⟨m',hm',?_⟩
   simp only [X3b,List.find?_cons,List.find?_nil,List.append_nil]
   cases hok:okW f l s
   ·exact ⟨_,rfl⟩
   ·exact ⟨a,by simpa using ha,rfl⟩
 | succ n ih =>
  intro fuel t a s m hn ht ha hs hm
  cases fuel with
  | zero=>exact .inl ⟨rfl,Nat.zero_le _⟩
  | succ fuel =>
   have ha12:=X89 ha hs
   simp only [Z8A,Xj,X1X]
   have en:((((n+1:Nat):Int))==0)=false:=X3S (by omega)
   rw [en,cond_false]
   have hn1:IntKind.wrap .i64 (((n+1:Nat):Int)-1)=(n:Int):=by rw [w64]<;>omega
   refine (X5i (Xx (Z8A Xj fuel) (a:Int) ((n+1:Nat):Int)) _ 12 (fun i (b:List (Zh×Int))=>((i:Int),f,l,kit,(A:Int),b)) (fun i b=>Wx f b) (fun i b r=>(r=none∧fuel+1≤n+1)∨X7u f l kit A s (n+1) (X4G f l i) r) ?_ ?_ t m ht hm)
   ·intro b hb R
    right
    have e0:decide (((12:Nat):Int)<0)=false:=by decide
    have e1:(Int.fdiv (A:Int) (2 ^ min (Int.toNat ((12:Nat):Int)) (IntKind.bits IntKind.i64)) != 0)=false:=by
     rw [X8z A 12 (by omega)]
     have:A / 2 ^ 12=0:=Nat.div_eq_of_lt hA12
     rw [this];rfl
    simp only [Xx,XJ,e0,e1,cond_false,jS,Sum.elim_inr]
    refine ⟨b,hb,?_⟩
    have hu:X4G f l 12=[]:=by
     unfold X4G
     rw [List.filter_eq_nil_iff]
     intro x hx
     have:=X94 hx
     unfold X0 at this
     simp;omega
    rw [hu]
    simp only [X3b,List.find?_nil]
    exact ⟨_,rfl⟩
   ·intro i b hi hb R hR
    have e0:decide ((i:Int)<0)=false:=by simp
    have hw:=wS i (by omega)
    have hbit:=X8n A i (by omega) (by omega)
    have hsr:=X8z A i (by omega)
    simp only [Xx,XJ,e0,cond_false,hw,hbit]
    rw [hsr]
    by_cases hz:A / 2 ^ i=0
    ·have e1:(((A / 2 ^ i:Nat):Int) != 0)=false:=by rw [hz];rfl
     simp only [e1,cond_false,jS,Sum.elim_inr]
     right
     refine ⟨b,hb,?_⟩
     have hu:X4G f l i=[]:=by
      unfold X4G
      rw [List.filter_eq_nil_iff]
      intro x hx hle
      have h1:=(X7H hg.each).1 hx
      rw [←hA] at h1
      have hle':i≤x:=by simpa using hle
      have h2:(A / 2 ^ i).testBit (x-i)=true:=by rw [Nat.testBit_div_two_pow,show x-i+i=x by omega];exact h1
      rw [hz,Nat.zero_testBit] at h2
      cases h2
     rw [hu]
     simp only [X3b,List.find?_nil]
     exact ⟨_,rfl⟩
    ·have e1:(((A / 2 ^ i:Nat):Int) != 0)=true:=X12 (by omega)
     simp only [e1,cond_true]
     rcases Bool.eq_false_or_eq_true (A.testBit i) with hb1|hb1
     rotate_left
     ·simp only [hb1,Bool.not_false,cond_true,jS,Sum.elim_inl]
      have:=hR b hb
      rw [←X9m (fun h=>by rw [X7H hg.each,←hA,hb1] at h;cases h)] at this
      exact this
     ·have hu:X4G f l i=i::X4G f l (i+1):=X9D (by rw [X7H hg.each,←hA];exact hb1)
      have hp:2 ^ i<2 ^ 12:=Nat.pow_lt_pow_right (by omega) hi
      have hor:=X9T a (2 ^ i) (by omega) (by omega)
      have hsh:=X7w i (by omega)
      simp only [hb1,Bool.not_true,cond_false]
      rw [hsh,hor]
      rw [hu]
      have hs':∀ k∈s++[i],k<12:=fun k hk=>by
       rcases List.mem_append.1 hk with h|h
       ·exact hs k h
       ·have:=List.mem_singleton.1 h;omega
      rw [hn1]
      rcases ih fuel (i+1) (a ||| 2 ^ i) (s++[i]) b (by omega) (by omega) (X9F ha) hs' hb with ⟨h1,h2⟩|⟨m',hm',h1⟩
      ·rw [h1];exact .inl ⟨rfl,by omega⟩
      ·unfold X7u
       simp only [X3b,List.find?_append,X8r]
       have happ:(fun q=>okW f l (s++[i]++q))=fun q=>okW f l (s++(i::q)):=by funext q;simp
       rw [happ] at h1
       cases hf:(X3b n (X4G f l (i+1))).find? (fun q=>okW f l (s++(i::q))) with
       | some q =>
        rw [hf] at h1
        obtain ⟨a',ha',h1⟩:=h1
        rw [h1]
        right
        refine ⟨m',hm',a',?_,?_⟩
        ·simpa using ha'
        ·simp
       | none =>
        rw [hf] at h1
        obtain ⟨z,h1⟩:=h1
        rw [h1]
        simp only [jS,cond_false,Sum.elim_inl,Option.map_none,Option.none_or]
        exact hR m' hm'
theorem X9l {f:ZI} {l:List Zm} (hg:X82 f l) {kit:Nat→Nat} (hk:Kit f kit) {A:Nat} (hA:∀ k,A.testBit k=X3c f l k) {m:List (Zh×Int)} (hm:Wx f m) (n:Nat) (hn:n≤1000) :
  X7u f l kit A [] n (WP f l) (X2n (0,0,(n:Int),f,l,kit,(A:Int),m)):=by
 have key:∀ fuel,_:=fun fuel=>X9L hg hk hA n fuel 0 0 [] m hn (by omega) (fun k=>by simp) (fun _ h=>by cases h) hm
 rw [X8X] at key
 have h1:∃ k r,Z8A Xj k ((0:Int),(0:Int),(n:Int),f,l,kit,(A:Int),m)=some r:=by
  rcases key (n+1) with ⟨_,h⟩|⟨m',_,h⟩
  ·omega
  ·refine ⟨n+1,?_⟩
   revert h
   cases (X3b n (WP f l)).find? (fun q=>okW f l ([]++q)) with
   | some q=>rintro ⟨a',_,h⟩;exact ⟨_,h⟩
   | none=>rintro ⟨z,h⟩;exact ⟨_,h⟩
 obtain ⟨k,r,h2,h3⟩:=X8R h1
 unfold X2n
 rw [h2,←h3]
 rcases key k with ⟨h,_⟩|h
 ·exact absurd (h3.symm.trans h) (by simp)
 ·exact h
theorem X7n {f:ZI} {l:List Zm} (hg:X82 f l) {kit:Nat→Nat} (hk:Kit f kit) {A:Nat} (hA:∀ k,A.testBit k=X3c f l k) {s:List Nat} :
  ∀ (k n:Nat) (x:Int) (m:List (Zh×Int)),n+k≤1000→Wx f m→X5n (okW f l) (WP f l) n k=some s →
   ∃ (a:Nat) (m':_),X7x a s∧Wx f m'∧X2A (x,(n:Int),false,(A:Int),m,f,l,kit)=some ((a:Int),(A:Int),m',f,l,kit)
 | 0,n,x,m,hb,hm,h=>by cases h
 | k+1,n,x,m,hb,hm,h=>by
  unfold X2A
  rw [Zhk]
  obtain ⟨m',hm',hp⟩:=X9l hg hk hA hm n (by omega)
  have hw:=wS n (by omega)
  simp only [X25,X1z,Bool.not_false,cond_true,hw]
  unfold X5n at h
  simp only [List.nil_append] at hp
  cases hf:(X3b n (WP f l)).find? (okW f l) with
  | some q =>
   rw [hf] at h
   cases h
   have hf':(X3b n (WP f l)).find? (fun q=>okW f l q)=some s:=hf
   rw [hf'] at hp
   obtain ⟨a',ha',hp⟩:=hp
   rw [hp]
   simp only [jS]
   rw [Zhk]
   refine ⟨a',m',ha',hm',?_⟩
   simp [X25,X1z]
  | none =>
   rw [hf] at h
   have hf':(X3b n (WP f l)).find? (fun q=>okW f l q)=none:=hf
   rw [hf'] at hp
   obtain ⟨z,hp⟩:=hp
   rw [hp]
   simp only [jS]
   exact X7n hg hk hA k (n+1) z m' (by omega) hm' h
def X4v (f:ZI) (s:List Nat):List Int:=(s.filter fun t=>decide (t<X0 f)).map fun t:Nat=>(t:Int)
def X4t (f:ZI) (s:List Nat):List Int:=(s.filter fun t=>decide (X0 f≤t)).map fun t:Nat=>(t:Int)-(X0 f:Int)
theorem X8F {f:ZI} (hg:W6 f) {a:Nat} {s:List Nat} (ha:X7x a s) (h12:a<2 ^ 12) :
  X3O (a:Int) (↑f.Hz9.Hz8.length) (IntKind.wrap .i64 ((f.Hz9.Hz8.length:Int)+(f.Hz0.length:Int))) (0,[],[])=some (X4t f ((List.range (X0 f+f.Hz0.length)).filter fun t=>s.contains t),X4v f ((List.range (X0 f+f.Hz0.length)).filter fun t=>s.contains t)):=by
 have hM:=hg.marks
 have hI:=hg.inst
 have hN:IntKind.wrap .i64 ((f.Hz9.Hz8.length:Int)+(f.Hz0.length:Int))=((X0 f+f.Hz0.length:Nat):Int):=by unfold X0;rw [w64]<;>omega
 rw [hN,show (f.Hz9.Hz8.length:Int)=((X0 f:Nat):Int) from rfl]
 have hMn:X0 f≤8:=hM
 refine (X6i (X1u (a:Int) ((X0 f:Nat):Int) ((X0 f+f.Hz0.length:Nat):Int)) (X0 f+f.Hz0.length) (fun i (b:List Int×List Int)=>((i:Int),b.1,b.2)) (fun i b=>b.1.length≤i∧b.2.length≤i∧b.1=X4t f ((List.range i).filter fun t=>s.contains t)∧b.2=X4v f ((List.range i).filter fun t=>s.contains t)) (fun _ _=>some (X4t f ((List.range (X0 f+f.Hz0.length)).filter fun t=>s.contains t),X4v f ((List.range (X0 f+f.Hz0.length)).filter fun t=>s.contains t))) ?_ ?_ 0 ([],[]) (by omega) ⟨by simp,by simp,rfl,rfl⟩)
 ·intro b hb R
  simp only [X1u,X1A,Int.lt_irrefl,decide_false,cond_false,jS,Sum.elim_inr]
  rw [hb.2.2.1,hb.2.2.2]
 ·intro i b hi hb R hR
  obtain ⟨hl1,hl2,h1,h2⟩:=hb
  have e1:decide ((i:Int)<((X0 f+f.Hz0.length:Nat):Int))=true:=by simp;omega
  have e0:decide ((i:Int)<0)=false:=by simp
  have hw:=wS i (by omega)
  have hws:IntKind.wrap .i64 ((i:Int)-(X0 f:Int))=(i:Int)-(X0 f:Int):=by rw [w64]<;>omega
  have hbit:=X8n a i (by omega) (by omega)
  have ble:∀ (c:List Int) (d:Int),c.length≤i→Nat.ble ((c.length+[d].length)*(8+1)) 200000000000000=true:=fun c d h=>by
   apply Nat.ble_eq_true_of_le;simp only [List.length_cons,List.length_nil];omega
  simp only [X1u,X1A,e1,e0,cond_true,cond_false,hw,hbit,hws,ble _ _ hl1,ble _ _ hl2]
  rw [ha]
  have hr:(List.range (i+1)).filter (fun t=>s.contains t)=if s.contains i then (List.range i).filter (fun t=>s.contains t)++[i] else (List.range i).filter fun t=>s.contains t:=by
   rw [List.range_succ,List.filter_append]
   cases hc:s.contains i
   ·simp only [List.filter_cons,hc,List.filter_nil,Bool.false_eq_true,if_false,List.append_nil]
   ·simp only [List.filter_cons,hc,List.filter_nil,if_true]
  have mk:∀ (r:List Nat),X4t f (r++[i])=if decide (X0 f≤i) then X4t f r++[(i:Int)-(X0 f:Int)] else X4t f r:=fun r=>by
   unfold X4t
   rw [List.filter_append,List.map_append]
   by_cases c:X0 f≤i<;>simp [c]
  have mk2:∀ (r:List Nat),X4v f (r++[i])=if decide (i<X0 f) then X4v f r++[(i:Int)] else X4v f r:=fun r=>by
   unfold X4v
   rw [List.filter_append,List.map_append]
   by_cases c:i<X0 f<;>simp [c]
  cases hc:s.contains i
  ·simp only [Bool.not_false,cond_true,jS,Sum.elim_inl]
   rw [hc] at hr
   simp only [Bool.false_eq_true,if_false] at hr
   exact hR b ⟨by omega,by omega,by rw [hr,h1],by rw [hr,h2]⟩
  ·rw [hc] at hr
   simp only [if_true] at hr
   by_cases c:i<X0 f
   ·have e3:decide ((i:Int)<((X0 f:Nat):Int))=true:=by simp;omega
    simp only [Bool.not_true,cond_false,e3,cond_true,jS,Sum.elim_inl]
    refine hR (b.1,b.2++[(i:Int)]) ⟨by simp only;omega,by simp;omega,?_,?_⟩
    ·rw [hr,mk,if_neg (by simp;omega),h1]
    ·rw [hr,mk2,if_pos (by simp;omega),h2]
   ·have e3:decide ((i:Int)<((X0 f:Nat):Int))=false:=by simp;omega
    simp only [Bool.not_true,cond_false,e3,jS,Sum.elim_inl]
    refine hR (b.1++[(i:Int)-(X0 f:Int)],b.2) ⟨by simp;omega,by simp only;omega,?_,?_⟩
    ·rw [hr,mk,if_pos (by simp;omega),h1]
    ·rw [hr,mk2,if_neg (by simp;omega),h2]
theorem X6B:∀ (l s:List Nat),l.Pairwise (· < ·)→s.Pairwise (· < ·)→(∀ t∈s,t∈l)→l.filter (fun t=>s.contains t)=s
 | [],s,_,_,h=>by
  cases s with
  | nil=>rfl
  | cons b s=>exact absurd (h b (by simp)) (by simp)
 | a::l,[],_,_,_=>by simp
 | a::l,b::s,hl,hs,h=>by
  have hl2:=List.pairwise_cons.1 hl
  have hs2:=List.pairwise_cons.1 hs
  by_cases e:b=a
  ·subst e
   rw [List.filter_cons_of_pos (by simp)]
   congr 1
   have:l.filter (fun t=>(b::s).contains t)=l.filter fun t=>s.contains t:=by
    apply List.filter_congr
    intro t ht
    have:=hl2.1 t ht
    have hne:t≠b:=by omega
    simp [hne]
   rw [this]
   refine X6B l s hl2.2 hs2.2 fun t ht => ?_
   rcases List.mem_cons.1 (h t (by simp [ht])) with e|e
   ·have:=hs2.1 t ht;omega
   ·exact e
  ·have hbl:b∈l:=by
    rcases List.mem_cons.1 (h b (by simp)) with e'|e'
    ·exact absurd e' e
    ·exact e'
   have hab:=hl2.1 b hbl
   have hna:∀ t∈b::s,t∈l:=fun t ht=>by
    rcases List.mem_cons.1 (h t ht) with e'|e'
    ·subst e'
     rcases List.mem_cons.1 ht with e''|e''
     ·exact absurd e''.symm e
     ·have:=hs2.1 t e'';omega
    ·exact e'
   rw [List.filter_cons_of_neg]
   ·exact X6B l (b::s) hl2.2 hs hna
   ·intro hc
    have:a∈b::s:=by simpa using hc
    have:=hl2.1 a (hna a this)
    omega
theorem X96 (n:Nat) (s:List Nat) (hp:s.Pairwise (· < ·)) (hs:∀ t∈s,t<n):(List.range n).filter (fun t=>s.contains t)=s :=
 X6B _ _ List.pairwise_lt_range hp fun t ht=>List.mem_range.2 (hs t ht)
theorem X7W (f:ZI) (l:List Zm):X6d f l=some (if (Wk f l).2=0 then (X4v f (X4a f l),X4t f (X4a f l),0) else ([],[],(Wk f l).2)):=by
 rw [X6M];unfold X2N
 rcases X9a f l with ⟨_,he,h0⟩|⟨kit,hg,h8,hk,he⟩
 ·rw [he]
  simp [h0,X12 h0]
 ·rw [he]
  simp only [jS,Sum.elim_inr]
  by_cases h0:(Wk f l).2=0
  ·have hs:=X7c h0
   obtain ⟨A,hA,ht⟩:=X8V hg hs.each hs.len hk []
   have ws:=X7R hg hs.each
   obtain ⟨a,m',ha,hm',hr⟩:=X7n hs hk hA (f.Hz0.length+1) 0 0 [] (by have:=hg.inst;omega) (X8H f) ws.first
   have hlt:∀ t∈X4a f l,t<X0 f+f.Hz0.length:=fun t ht=>X94 (ws.sub.subset ht)
   have h12:a<2 ^ 12:=X89 ha fun t ht=>by have:=hlt t ht;have:=hg.marks;have:=hg.inst;unfold X0 at *;omega
   simp only [h0,bne_self_eq_false,cond_false,if_true,ht,jS]
   rw [show ((0:Int),(0:Int),false,(A:Int),([]:List (Zh×Int)),f,l,kit)=((0:Int),((0:Nat):Int),false,(A:Int),[],f,l,kit) from rfl,hr]
   simp only [jS]
   rw [X8F hg ha h12,X96 _ _ (X8C.sublist ws.sub) hlt]
   rfl
  ·simp [h0,X12 h0]
end Nore
open Go Go.Ab
namespace Nore
theorem X5h {β σ ω:Type} (st:σ→Option (σ⊕ω)) (n:Nat) (emb:Nat→β→σ) (P:Nat→β→Prop) (Q:ω→Prop)
  (hd:∀ b,P n b→∃ w,st (emb n b)=some (.inr w)∧Q w)
  (hn:∀ i b,i<n→P i b→(∃ w,st (emb i b)=some (.inr w)∧Q w)∨∃ b',st (emb i b)=some (.inl (emb (i+1) b'))∧P (i+1) b') :
  ∀ i b,i≤n→P i b→∃ w,Z93 st (emb i b)=some w∧Q w:=by
 intro i b hi hP
 induction hj:n-i generalizing i b with
 | zero =>
  have:i=n:=by omega
  subst this
  obtain ⟨w,h1,h2⟩:=hd b hP
  exact ⟨w,by rw [Zhk,h1];rfl,h2⟩
 | succ j ih =>
  rcases hn i b (by omega) hP with ⟨w,h1,h2⟩|⟨b',h1,h2⟩
  ·exact ⟨w,by rw [Zhk,h1];rfl,h2⟩
  ·obtain ⟨w,h3,h4⟩:=ih (i+1) b' (by omega) h2 (by omega)
   exact ⟨w,by rw [Zhk,h1];exact h3,h4⟩
theorem X92 {α β:Type} (st:Int×List β→Option ((Int×List β)⊕List β)) (l:List α) (g:α→List β) (c:Nat) (hc:∀ x∈l,(g x).length≤c)
  (hd:∀ b,st ((l.length:Int),b)=some (.inr b))
  (hn:∀ i b,(h:i<l.length)→b.length≤i*c→st ((i:Int),b)=some (.inl (((i+1:Nat):Int),b++g l[i]))):Z93 st (0,[])=some (l.flatMap g):=by
 obtain ⟨w,h1,h2⟩:=X5h st l.length (fun i (b:List β)=>((i:Int),b)) (fun i b=>b.length≤i*c∧b++(l.drop i).flatMap g=l.flatMap g) (fun w=>w=l.flatMap g)
  (fun b hb=>⟨b,hd b,by have:=hb.2;simpa using this⟩)
  (fun i b hi hb => .inr ⟨_,hn i b hi hb.1,by
   have h1:=hb.1
   have:=hc _ (List.getElem_mem hi)
   rw [List.length_append,Nat.succ_mul];omega,by
   rw [←hb.2,List.drop_eq_getElem_cons hi];simp only [List.flatMap_cons,List.append_assoc]⟩) 0 [] (by omega) ⟨by simp,by simp⟩
 exact h1.trans (by rw [h2])
theorem X9U (o:Int) (ho:0≤o∧o≤255) (i:Nat) (hi:i≤8):(Int.tmod (Int.fdiv o (2 ^ min (Int.toNat (i:Int)) (IntKind.bits .u8))) 2==1)=o.toNat.testBit i:=by
 have hb:IntKind.bits .u8=8:=rfl
 have hp:((2:Int) ^ i)=((2 ^ i:Nat):Int):=by simp
 have hd:Int.fdiv o (2 ^ min i 8)=((o.toNat / 2 ^ i:Nat):Int):=by
  rw [show min i 8=i by omega,hp]
  conv=>lhs;rw [show o=((o.toNat:Nat):Int) by omega]
  rw [Int.ofNat_fdiv]
 rw [hb,kS,hd]
 have hm:Int.tmod ((o.toNat / 2 ^ i:Nat):Int) 2=((o.toNat / 2 ^ i % 2:Nat):Int):=rfl
 rw [hm,Nat.testBit_eq_decide_div_mod_eq,Bool.eq_iff_iff]
 simp only [beq_iff_eq,decide_eq_true_eq]
 omega
theorem X9N {n:Int} (h:(Lit.int .u8 n).wf=true):0≤n∧n≤255:=by
 simp [Lit.wf,IntKind.has,IntKind.min,IntKind.max,IntKind.signed,IntKind.bits] at h
 omega
def X9r (f:ZI) (y:Nat→Int):List Nat:=((List.range (X0 f)).filter fun t=>(y 0).toNat.testBit t)++((List.range f.Hz0.length).filter fun t=>(y 1).toNat.testBit t).map fun t=>X0 f+t
theorem X3U {α β:Type} (q:α→Bool) (g:α→β):∀ (l:List α),(l.flatMap fun a=>if q a then [g a] else [])=(l.filter q).map g
 | []=>rfl
 | a::l=>by
  rw [List.flatMap_cons,X3U q g l,List.filter_cons]
  cases h:q a<;>simp
end Nore
open Go Go.Ab
namespace Nore
theorem X8G {f:ZI} (hA:f.Hz7.length≤6) (p:Zu):∃ k:Int,X4j f p=some k∧((k<0∧X6A f p=none)∨(0≤k∧k.toNat<f.Hz7.length∧X6A f p=some (f.Hz7.getD k.toNat ⟨⟨0,0⟩,⟨0,0⟩,⟨0,0⟩,0⟩))):=by
 rw [X5G];unfold X1T
 obtain ⟨w,h1,h2⟩:=X5h (W5 p f) f.Hz7.length (fun i (_:Unit)=>(i:Int)) (fun i _=>X6A f p=(f.Hz7.drop i).find? fun a=>X48 a p)
  (fun w=>(w = .inr ()∧X6A f p=none)∨∃ k:Nat,k<f.Hz7.length∧w = .inl (k:Int)∧X6A f p=some (f.Hz7.getD k ⟨⟨0,0⟩,⟨0,0⟩,⟨0,0⟩,0⟩))
  (fun _ hb=>⟨.inr (),by simp [W5,Wg],.inl ⟨rfl,by simpa using hb⟩⟩)
  (fun i _ hi hb=>by
   have hw:=wS i (by omega)
   have e1:decide ((i:Int)<↑f.Hz7.length)=true:=by simp [hi]
   have e2:=z0S i
   obtain ⟨a,ha⟩:∃ a,f.Hz7[i]=a:=⟨_,rfl⟩
   have hgd:f.Hz7.getD i ⟨⟨0,0⟩,⟨0,0⟩,⟨0,0⟩,0⟩=a:=(X1 _ _ _ hi).trans ha
   rw [List.drop_eq_getElem_cons hi,ha,List.find?_cons] at hb
   have hin:X48 a p=(inN p.X a.X.Lo a.X.Hi&&inN p.Y a.Y.Lo a.Y.Hi):=by
    unfold X48 inN
    rw [Bool.eq_iff_iff]
    simp<;>omega
   simp only [W5,Wg,kS,hgd,hw,e1,e2,Bool.and_self,cond_true,XQ,jS]
   cases c1:inN p.X a.X.Lo a.X.Hi
   ·right
    rw [hin,c1] at hb
    exact ⟨(),rfl,by simpa using hb⟩
   ·simp only [cond_true]
    cases c2:inN p.Y a.Y.Lo a.Y.Hi
    ·right
     rw [hin,c1,c2] at hb
     exact ⟨(),rfl,by simpa using hb⟩
    ·left
     rw [hin,c1,c2] at hb
     exact ⟨_,rfl,.inr ⟨i,hi,rfl,by rw [hgd];simpa using hb⟩⟩) 0 () (by omega) rfl
 have h1':X2L p f 0=some w:=h1
 rw [h1']
 simp only [jS]
 rcases h2 with ⟨h3,h4⟩|⟨k,h3,h4,h5⟩
 ·subst h3
  exact ⟨-1,rfl,.inl ⟨by omega,h4⟩⟩
 ·subst h4
  exact ⟨(k:Int),rfl,.inr ⟨by omega,by simpa using h3,by simpa using h5⟩⟩
end Nore
open Go Go.Ab
namespace Nore
theorem X9n (f:ZI) (s:List Nat):(X4v f s).length+(X4t f s).length=s.length:=by
 unfold X4v X4t
 rw [List.length_map,List.length_map]
 induction s with
 | nil=>rfl
 | cons t s ih =>
  by_cases c:t<X0 f
  ·rw [List.filter_cons_of_pos (by simpa using c),List.filter_cons_of_neg (by simp;omega)]
   simp only [List.length_cons];omega
  ·rw [List.filter_cons_of_neg (by simpa using c),List.filter_cons_of_pos (by simp;omega)]
   simp only [List.length_cons];omega
theorem X9K (s:List Nat) (k:Nat):(s.map fun t:Nat=>(t:Int)).contains (k:Int)=s.contains k:=by
 rw [Bool.eq_iff_iff,List.contains_iff_mem,List.contains_iff_mem,List.mem_map]
 constructor
 ·rintro ⟨t,h1,h2⟩
  have:t=k:=by omega
  exact this ▸ h1
 ·intro h;exact ⟨k,h,rfl⟩
theorem X9H {f:ZI} (hg:W6 f) (y:Nat→Int):(X9r f y).length≤12:=by
 have h1:=List.length_filter_le (fun t=>(y 0).toNat.testBit t) (List.range (X0 f))
 have h2:=List.length_filter_le (fun t=>(y 1).toNat.testBit t) (List.range f.Hz0.length)
 rw [List.length_range] at h1 h2
 have:=hg.marks
 have:=hg.inst
 unfold X9r
 rw [List.length_append,List.length_map]
 unfold X0 at *;omega
end Nore
open Go Go.Ab
namespace Nore
theorem X9C {n:Int} (h:(Lit.int .u16 n).wf=true):0≤n∧n≤65535:=by
 simp [Lit.wf,IntKind.has,IntKind.min,IntKind.max,IntKind.signed,IntKind.bits] at h
 omega
def X8B (l:List Int) (n:Nat):Int:=if l.length=0 then 0 else l.getD (n % l.length) 0
theorem X9B (l:List Int) (h:∀ v∈l,0≤v∧v≤65535) (n:Nat):X5s l (n:Int)=some (X8B l n)∧0≤X8B l n∧X8B l n≤65535:=by
 rw [X6u];unfold X2u X8B
 by_cases h0:l.length=0
 ·simp [h0]
 ·have e0:((l.length:Int)==0)=false:=X3S (by omega)
  have hm:Int.tmod (n:Int) (l.length:Int)=((n % l.length:Nat):Int):=rfl
  have hlt:n % l.length<l.length:=Nat.mod_lt _ (by omega)
  have e1:decide ((0:Int)≤((n % l.length:Nat):Int))=true:=by simp;omega
  have e2:decide (((n % l.length:Nat):Int)<(l.length:Int))=true:=by simp;omega
  have hv:=h _ (List.getElem_mem hlt)
  simp only [e0,cond_false,hm,e1,e2,Bool.and_self,cond_true,kS,X1 _ _ _ hlt,h0,if_false]
  exact ⟨by rw [w64]<;>omega,hv⟩
theorem X44 (n k:Int) (hn:0≤n) (hk:0<k):0≤Int.tmod n k∧Int.tmod n k<k:=⟨Int.tmod_nonneg k hn,Int.tmod_lt_of_pos n hk⟩
end Nore
open Go Go.Ab Go.Proofs.YtehofdemanfenaaGreat
namespace Nore
def atP (f:ZI) (x:Z4):Zu:=⟨f.Step*(Int.tmod (x.Place 0) (2*f.Half+1)-f.Half),f.Step*(Int.tmod (x.Place 1) (2*f.Half+1)-f.Half)⟩
theorem X9p {f:ZI} (hg:W6 f) (x:Z4) (hx:∀ j,j<2→0≤x.Place j∧x.Place j≤255):X6R f x=some (atP f x)∧atP f x∈X5V f:=by
 have hh:=hg.half
 have hst:=hg.step
 have h0:=hx 0 (by omega)
 have h1:=hx 1 (by omega)
 have t0:=X44 (x.Place 0) (2*f.Half+1) h0.1 (by omega)
 have t1:=X44 (x.Place 1) (2*f.Half+1) h1.1 (by omega)
 have b0:=X4w (a:=f.Step) (b:=Int.tmod (x.Place 0) (2*f.Half+1)-f.Half) 500 8 (by omega) (by omega) (by omega) (by omega)
 have b1:=X4w (a:=f.Step) (b:=Int.tmod (x.Place 1) (2*f.Half+1)-f.Half) 500 8 (by omega) (by omega) (by omega) (by omega)
 constructor
 ·rw [X7e];unfold X3v atP
  have w1:IntKind.wrap .i64 (IntKind.wrap .i64 (2*f.Half)+1)=2*f.Half+1:=by rw [w64 (x:=2*f.Half),w64]<;>omega
  rw [w1,X3S (by omega),show Int.toNat 0=0 from rfl,show Int.toNat 1=1 from rfl,w64 (x:=x.Place 0) (by omega) (by omega),w64 (x:=x.Place 1) (by omega) (by omega)]
  simp only [cond_false]
  rw [w64 (x:=Int.tmod (x.Place 0) (2*f.Half+1)-f.Half) (by omega) (by omega),w64 (x:=Int.tmod (x.Place 1) (2*f.Half+1)-f.Half) (by omega) (by omega),w64 (by omega) (by omega),w64 (by omega) (by omega)]
 ·rw [X7G hh.1]
  refine ⟨Int.tmod (x.Place 0) (2*f.Half+1)-f.Half,Int.tmod (x.Place 1) (2*f.Half+1)-f.Half,by omega,by omega,by omega,by omega,?_⟩
  unfold atP;rw [Int.mul_comm f.Step,Int.mul_comm f.Step]
end Nore
open Go Go.Ab Go.Proofs.YtehofdemanfenaaGreat
namespace Nore
def X5M (s:ZE) (n:Int):Int:=s.Lo+Int.tmod n (s.Hi-s.Lo+1)
theorem X83 {s:ZE} (h : -1000000≤s.Lo∧s.Lo≤s.Hi∧s.Hi≤1000000) {n:Int} (hn:0≤n):X3X s n=some (X5M s n)∧s.Lo≤X5M s n∧X5M s n≤s.Hi:=by
 have t:=X44 n (s.Hi-s.Lo+1) hn (by omega)
 rw [X5W];unfold X28 X5M
 rw [w64 (x:=s.Hi-s.Lo) (by omega) (by omega),w64 (x:=s.Hi-s.Lo+1) (by omega) (by omega),X3S (by omega),w64 (x:=s.Lo+Int.tmod n (s.Hi-s.Lo+1)) (by omega) (by omega)]
 exact ⟨rfl,by omega,by omega⟩
def X5c (f:ZI) (x:Z4) (k:Nat):Int:=X5M (X2F f k) (X8B x.Offs k)
theorem X90 {f:ZI} (hg:W6 f) (x:Z4) (hx:∀ v∈x.Offs,0≤v∧v≤65535) (k:Nat) (hk:k<f.Hz0.length):X6e f x (k:Int)=some (X5c f x k)∧inS (X5c f x k) (X2F f k):=by
 rw [X6S];unfold X2R X5c
 have i1:decide ((0:Int)≤(k:Int))=true:=by simp
 have i2:decide ((k:Int)<(f.Hz0.length:Int))=true:=by simp [hk]
 have hgd:f.Hz0.getD k ⟨ByteArray.empty,false,⟨0,0⟩⟩=f.Hz0[k]:=X1 _ _ _ hk
 obtain ⟨t1,t2,t3⟩:=X9B x.Offs hx k
 have ho:=hg.off _ (List.getElem_mem hk)
 have hfb:0≤X3T f.Hz0[k]∧X3T f.Hz0[k]≤20:=by unfold X3T;split<;>omega
 have hof:X2F f k=f.Hz0[k].Off:=by unfold X2F;rw [dif_pos hk]
 obtain ⟨a1,a2,a3⟩:=X83 (s:=f.Hz0[k].Off) (by omega) t2
 simp only [i1,i2,Bool.and_self,cond_true,t1,jS,kS,hgd,a1,hof]
 exact ⟨trivial,a2,a3⟩
theorem X7K {f:ZI} (hg:W6 f) (mark:Int) (h0:0≤mark) (h1:mark<f.Hz9.Hz8.length) (p:Zu):X5u f.Hz9 f.Day mark p=some (X50 f mark p):=by
 have hM:=hg.marks
 have hday:=hg.day
 have hb:=X7v hg h0 h1
 have hj:mark.toNat<f.Hz9.Hz8.length:=by omega
 have hmk:=(hg.mark _ (List.getElem_mem hj)).2
 have hmp:(Z8J f mark).Hz3.length≤4:=by unfold Z8J;rw [X1 _ _ _ hj];exact hmk
 have i1:decide (0≤mark)=true:=by simp;omega
 have i2:decide (mark<(f.Hz9.Hz8.length:Int))=true:=by simp;omega
 have hgm:f.Hz9.Hz8.getD mark.toNat ⟨ByteArray.empty,⟨0,0⟩,[]⟩=Z8J f mark:=rfl
 rw [X6w];unfold X2w
 rw [X4X];unfold X1g
 rw [X64];unfold X2a
 rw [X62]
 have hck:=hg.chart
 simp only [jS,hck,beq_self_eq_true,cond_true]
 rw [We,We]
 have d1:inN f.Day 0 40000=true:=by unfold inN;simp;omega
 have w1:IntKind.wrap .i64 ((f.Hz9.Hz8.length:Int)-1)=(f.Hz9.Hz8.length:Int)-1:=by rw [w64]<;>omega
 have d2:inN mark 0 ((f.Hz9.Hz8.length:Int)-1)=true:=by unfold inN;simp;omega
 rw [w1,d1,d2]
 simp only [jS,Bool.not_true,cond_false,beq_self_eq_true,cond_true,i1,i2,Bool.and_self,hgm]
 rw [X4V _ _ (by omega)]
 unfold X50 X3F
 simp only [jS]
 by_cases hp:X4y (Z8J f mark) f.Day=0
 ·simp [hp]
 ·simp only [X3S hp,cond_false,jS,beq_self_eq_true,cond_true,X12 hp,Bool.true_eq_false,if_false,i1,i2,Bool.and_self,hgm]
  rw [X49 p 30000 (by omega)]
  simp only [jS]
  cases hf:X3f 30000 p
  ·rw [X6J] at hf
   unfold Bd at hb hf
   simp only [Bool.not_false,Bool.not_true,cond_false,Bool.false_eq_true,if_false,Bool.and_true]
   by_cases he:(Z8J f mark).At=p
   ·rw [he];simp
   ·have:((Z8J f mark).At.X==p.X&&(Z8J f mark).At.Y==p.Y)=false:=by
     cases hc:((Z8J f mark).At.X==p.X&&(Z8J f mark).At.Y==p.Y)
     ·rfl
     ·exfalso;simp at hc;exact he (Zu.ext hc.1 hc.2)
    rw [this,if_neg he]
    simp only [cond_false,bne_self_eq_false]
    rw [w64 (x:=(Z8J f mark).At.X-p.X) (by omega) (by omega),w64 (x:=(Z8J f mark).At.Y-p.Y) (by omega) (by omega)]
    have h00:¬ ((Z8J f mark).At.X-p.X=0∧(Z8J f mark).At.Y-p.Y=0):=fun q=>he (Zu.ext (by omega) (by omega))
    rw [X74 (by simp only;omega) h00]
    rfl
  ·simp
structure X77 (f:ZI) (x:Z4) (l:List Zm):Prop where
 len:l.length≤8
 each:∀ s∈l,Xa f s=0
 true_:∀ s∈l,(X2g f (atP f x) s).2=true∧inS (X5c f x s.Hz1.toNat) (X2g f (atP f x) s).1
theorem X76 {f:ZI} {x:Z4} {b:List Zm} (hb:X77 f x b) {s:Zm} (hc:(Wk f (b++[s])).2=0) (hs:Xa f s=0→(X2g f (atP f x) s).2=true∧inS (X5c f x s.Hz1.toNat) (X2g f (atP f x) s).1):X77 f x (b++[s]):=by
 have hg:=X7c hc
 refine ⟨hg.len,hg.each,fun y hy => ?_⟩
 rcases List.mem_append.1 hy with h|h
 ·exact hb.true_ y h
 ·rw [List.mem_singleton] at h
  subst h
  exact hs (hg.each _ (by simp))
theorem X9M {f:ZI} (hg:W6 f) {x:Z4} (hx:∀ v∈x.Offs,0≤v∧v≤65535) {l:List Zm} (h:X77 f x l):(atN f l (atP f x) 0 0).2=true∧∀ i,i<f.Hz0.length→Num f l (atP f x) 0 0 i (X5c f x i):=by
 have key:∀ i,i<f.Hz0.length→Num f l (atP f x) 0 0 i (X5c f x i):=fun i hi =>
  ⟨(X90 hg x hx i hi).2,fun s hs _ he=>by have:=h.true_ s hs;rw [he] at this;exact this⟩
 refine ⟨?_,key⟩
 rw [X9Q hg]
 intro i
 by_cases c:i<f.Hz0.length
 ·exact ⟨_,key i c⟩
 ·refine ⟨0,?_,fun s hs _ he => ?_⟩
  ·unfold inS X2F
   rw [dif_neg c];simp
  ·exfalso
   have:=(X59 (h.each s hs)).2
   omega
end Nore
open Go Go.Ab Go.Proofs.YtehofdemanfenaaGreat
namespace Nore
theorem X9z {f:ZI} (hg:W6 f) (x:Z4) (hp:∀ j,j<2→0≤x.Place j∧x.Place j≤255) (ho:∀ v∈x.Offs,0≤v∧v≤65535) (ht:∀ v∈x.Taken,0≤v∧v≤65535) (htl:x.Taken.length≤1000000000000000000):∃ l,X2S (x,f)=some l∧X77 f x l:=by
 have hI:=hg.inst
 have hM:=hg.marks
 obtain ⟨a1,a2⟩:=X9p hg x hp
 rw [X5a];unfold X1B
 rw [a1]
 simp only [jS]
 have hbd:=X9I hg a2
 have hbd3:Bd 30000 (atP f x):=by unfold Bd at *;omega
 obtain ⟨w,h1,h2⟩:=X5h (Xf (atP f x) x f) (x.Taken.length / 3+1) (fun i (b:List Zm)=>(((3*i:Nat):Int),b)) (fun _ b=>X77 f x b) (fun w=>X77 f x w)
  (fun b hb=>by
   have e:decide (IntKind.wrap .i64 (((3*(x.Taken.length / 3+1):Nat):Int)+2)<(x.Taken.length:Int))=false:=by
    rw [w64 (by omega) (by omega)];simp;omega
   exact ⟨b,by simp only [Xf,Xg,e,cond_false],hb⟩)
  (fun i b hi hb=>by
   have hw2:IntKind.wrap .i64 (((3*i:Nat):Int)+2)=((3*i+2:Nat):Int):=by rw [w64]<;>omega
   have hw1:IntKind.wrap .i64 (((3*i:Nat):Int)+1)=((3*i+1:Nat):Int):=by rw [w64]<;>omega
   have hw3:IntKind.wrap .i64 (((3*i:Nat):Int)+3)=((3*(i+1):Nat):Int):=by rw [w64]<;>omega
   by_cases c1:3*i+2<x.Taken.length
   rotate_left
   ·left
    have e:decide (((3*i+2:Nat):Int)<(x.Taken.length:Int))=false:=by simp;omega
    exact ⟨b,by simp only [Xf,Xg,hw2,e,cond_false],hb⟩
   ·by_cases c2:b.length<8
    rotate_left
    ·left
     have e:decide (((3*i+2:Nat):Int)<(x.Taken.length:Int))=true:=by simp;omega
     have e2:decide ((b.length:Int)<8)=false:=by simp;omega
     exact ⟨b,by simp only [Xf,Xg,hw2,e,e2,cond_false,cond_true],hb⟩
    ·right
     have e:decide (((3*i+2:Nat):Int)<(x.Taken.length:Int))=true:=by simp;omega
     have e2:decide ((b.length:Int)<8)=true:=by simp;omega
     have e3:decide ((0:Int)≤((3*i:Nat):Int))=true:=by simp;omega
     have e4:decide (((3*i:Nat):Int)<(x.Taken.length:Int))=true:=by simp;omega
     have e5:decide ((0:Int)≤((3*i+1:Nat):Int))=true:=by simp;omega
     have e6:decide (((3*i+1:Nat):Int)<(x.Taken.length:Int))=true:=by simp;omega
     have e7:decide ((0:Int)≤((3*i+2:Nat):Int))=true:=by simp;omega
     have ei:((f.Hz0.length:Int)==0)=false:=X3S (by omega)
     have u0:=ht _ (List.getElem_mem (show 3*i<x.Taken.length by omega))
     have u1:=ht _ (List.getElem_mem (show 3*i+1<x.Taken.length by omega))
     have u2:=ht _ (List.getElem_mem c1)
     have g0:x.Taken.getD (3*i) 0=x.Taken[3*i]:=X1 _ _ _ (by omega)
     have g1:x.Taken.getD (3*i+1) 0=x.Taken[3*i+1]:=X1 _ _ _ (by omega)
     have g2:x.Taken.getD (3*i+2) 0=x.Taken[3*i+2]:=X1 _ _ _ c1
     generalize x.Taken[3*i]=t0 at *
     generalize x.Taken[3*i+1]=t1 at *
     generalize x.Taken[3*i+2]=t2 at *
     have ww0:IntKind.wrap .i64 t0=t0:=by rw [w64]<;>omega
     have ww1:IntKind.wrap .i64 t1=t1:=by rw [w64]<;>omega
     have ww2:IntKind.wrap .i64 t2=t2:=by rw [w64]<;>omega
     have k0:=X44 t0 (f.Hz0.length:Int) u0.1 (by omega)
     obtain ⟨k,hk⟩:∃ k:Nat,Int.tmod t0 (f.Hz0.length:Int)=(k:Int):=⟨(Int.tmod t0 (f.Hz0.length:Int)).toNat,by omega⟩
     rw [hk] at k0
     have hkl:k<f.Hz0.length:=by omega
     obtain ⟨o1,o2⟩:=X90 hg x ho k hkl
     have i1:decide ((0:Int)≤(k:Int))=true:=by simp
     have i2:decide ((k:Int)<(f.Hz0.length:Int))=true:=by simp [hkl]
     have hgi:f.Hz0.getD k ⟨ByteArray.empty,false,⟨0,0⟩⟩=Xp f (k:Int):=rfl
     have hfo:=hg.off _ (List.getElem_mem hkl)
     have hfb:0≤X3T f.Hz0[k]∧X3T f.Hz0[k]≤20:=by unfold X3T;split<;>omega
     have hof:X2F f k=f.Hz0[k].Off:=by unfold X2F;rw [dif_pos hkl]
     have hio:Xp f (k:Int)=f.Hz0[k]:=X1 _ _ _ hkl
     have o2':=o2
     unfold inS at o2'
     rw [hof] at o2'
     have ble1:Nat.ble ((0+b.length)*(32+1)) 200000000000000=true:=by apply Nat.ble_eq_true_of_le;omega
     have ble2:∀ s:Zm,Nat.ble (([]++b).length+[s].length |> fun z=>z*(32+1)) 200000000000000=true:=fun s=>by
      apply Nat.ble_eq_true_of_le;simp;omega
     have ble2':∀ s:Zm,Nat.ble ((([]++b).length+[s].length)*(32+1)) 200000000000000=true:=ble2
     have ble3:∀ s:Zm,Nat.ble ((b.length+[s].length)*(32+1)) 200000000000000=true:=fun s=>by
      apply Nat.ble_eq_true_of_le;simp;omega
     simp only [Xf,Xg,hw1,hw2,hw3,e,e2,e3,e4,e5,e6,e7,ei,Bool.and_self,cond_true,cond_false,kS,g0,g1,g2,ww0,ww1,ww2,hk,o1,jS,i1,i2,hgi]
     cases hL:(Xp f (k:Int)).Lead
     ·simp only [cond_false]
      by_cases hm0:f.Hz9.Hz8.length=0
      ·have em:((f.Hz9.Hz8.length:Int)==0)=true:=by simp;exact List.eq_nil_of_length_eq_zero hm0
       rw [em]
       exact ⟨b,rfl,hb⟩
      ·have em:((f.Hz9.Hz8.length:Int)==0)=false:=X3S (by omega)
       have m0:=X44 t1 (f.Hz9.Hz8.length:Int) u1.1 (by omega)
       generalize hmk:Int.tmod t1 (f.Hz9.Hz8.length:Int)=mk at *
       simp only [em,cond_false]
       rw [X7K hg mk m0.1 m0.2]
       simp only [jS]
       by_cases hse:(X50 f mk (atP f x)).2=0
       ·have hsn:X3K f mk (atP f x)=(X50 f mk (atP f x)).1:=by unfold X3K;rw [if_neg (by simp [hse])]
        have hsb:=X93 hg m0.1 m0.2 (atP f x)
        have hs0:0≤X3K f mk (atP f x):=by
         unfold X50 at hse hsn
         by_cases q1:X3F f mk=false
         ·rw [if_pos q1] at hse;simp at hse
         ·rw [if_neg q1] at hse hsn
          by_cases q2:X3f 30000 (atP f x)=true
          ·rw [if_pos q2] at hse;simp at hse
          ·rw [if_neg q2] at hse hsn
           by_cases q3:(Z8J f mk).At=atP f x
           ·rw [if_pos q3] at hse;simp at hse
           ·rw [if_neg q3] at hsn
            rw [hsn]
            have hb':=X7v hg m0.1 m0.2
            unfold Bd at hb' hbd
            have:=X8w (v:=XI (Z8J f mk).At (atP f x)) (by unfold XI;simp only;omega) (fun q=>q3 (by unfold XI at q;simp only at q;exact Zu.ext (by omega) (by omega)))
            exact this.1
        have eb:((X50 f mk (atP f x)).2 != 0)=false:=by rw [hse];rfl
        rw [←hsn]
        have hf4:X3T f.Hz0[k]=4:=by unfold X3T;rw [←hio,hL];rfl
        rw [hf4] at hfo
        generalize hss:X3K f mk (atP f x)=s at *
        have w1:IntKind.wrap .i64 (s+X5c f x k)=s+X5c f x k:=by rw [w64]<;>omega
        have w2:IntKind.wrap .i64 (s+X5c f x k+32)=s+X5c f x k+32:=by rw [w64]<;>omega
        have w3:Int.tmod (s+X5c f x k+32) 32=(s+X5c f x k+32) % 32:=Int.tmod_eq_emod_of_nonneg (by omega)
        simp only [eb,cond_false,w1,w2,w3,ble1,ble2',ble3,cond_true]
        rw [X4u]
        simp only [jS,List.nil_append]
        by_cases hck:(Wk f (b++[⟨(k:Int),mk,(s+X5c f x k+32) % 32,0⟩])).2=0
        ·simp only [hck,decide_true,cond_true]
         refine ⟨_,rfl,X76 hb hck fun _ => ?_⟩
         unfold X2g
         rw [hL]
         simp only [Bool.false_eq_true,if_false,hss]
         refine ⟨by simp;omega,?_⟩
         unfold inS X9G
         simp only [kS]
         split<;>omega
        ·simp only [hck,decide_false,cond_false]
         exact ⟨b,rfl,hb⟩
       ·have eb:((X50 f mk (atP f x)).2 != 0)=true:=X12 hse
        rw [eb]
        exact ⟨b,rfl,hb⟩
     ·simp only [cond_true]
      have hf20:X3T f.Hz0[k]=20:=by unfold X3T;rw [←hio,hL];rfl
      rw [hf20] at hfo
      obtain ⟨ak,ak1,ak2⟩:=X8G (f:=f) hg.areas (atP f x)
      rw [ak1]
      simp only [jS]
      rcases ak2 with ⟨ak2,ak3⟩|⟨ak2,ak3,ak4⟩
      ·have ea:decide (ak≥0)=false:=by simp;omega
       have d0:=X44 t1 1001 u1.1 (by omega)
       have w1:IntKind.wrap .i64 (Int.tmod t1 1001+X5c f x k)=Int.tmod t1 1001+X5c f x k:=by rw [w64]<;>omega
       simp only [ea,cond_false,w1,ble1,ble2',ble3,cond_true]
       rw [X4u]
       simp only [jS,List.nil_append]
       by_cases hck:(Wk f (b++[⟨(k:Int),0,Int.tmod t1 1001+X5c f x k,0⟩])).2=0
       ·simp only [hck,decide_true,cond_true]
        refine ⟨_,rfl,X76 hb hck fun _ => ?_⟩
        unfold X2g
        rw [hL,ak3]
        simp only [if_true]
        refine ⟨trivial,?_⟩
        unfold inS
        simp only [kS]
        omega
       ·simp only [hck,decide_false,cond_false]
        exact ⟨b,rfl,hb⟩
      ·have ea:decide (ak≥0)=true:=by simp;omega
       have ea1:decide (0≤ak)=true:=by simp;omega
       have ea2:decide (ak<(f.Hz7.length:Int))=true:=by simp;omega
       have ha:=X8Z (hg.area _ (List.getElem_mem ak3))
       rw [X1 _ _ _ ak3] at ak4
       have hga:f.Hz7.getD ak.toNat ⟨⟨0,0⟩,⟨0,0⟩,⟨0,0⟩,0⟩=f.Hz7[ak.toNat]:=X1 _ _ _ ak3
       generalize f.Hz7[ak.toNat]=a at *
       obtain ⟨am1,am2,am3⟩:=X83 (s:=a.Hza) (n:=t1) (by omega) u1.1
       have d2:=X44 t2 2 u2.1 (by omega)
       have mb:=X4w (a:=Int.tmod t2 2) (b:=a.Hz5) 2 4 (by omega) (by omega) (by omega) (by omega)
       have w1:IntKind.wrap .i64 (X5M a.Hza t1+X5c f x k)=X5M a.Hza t1+X5c f x k:=by rw [w64]<;>omega
       have w2:IntKind.wrap .i64 (Int.tmod t2 2*a.Hz5)=Int.tmod t2 2*a.Hz5:=by rw [w64]<;>omega
       simp only [ea,ea1,ea2,hga,am1,Bool.and_self,cond_true,jS,w1,w2,ble1,ble2',ble3]
       rw [X4u]
       simp only [jS,List.nil_append]
       by_cases hck:(Wk f (b++[⟨(k:Int),0,X5M a.Hza t1+X5c f x k,Int.tmod t2 2*a.Hz5⟩])).2=0
       ·simp only [hck,decide_true,cond_true]
        refine ⟨_,rfl,X76 hb hck fun _ => ?_⟩
        unfold X2g
        rw [hL,ak4]
        simp only [if_true]
        have hgr:Int.tmod t2 2=0∨Int.tmod t2 2=1:=by omega
        refine ⟨?_,?_⟩
        ·rcases hgr with h|h<;>simp [h]
        ·unfold inS
         simp only [kS]
         omega
       ·simp only [hck,decide_false,cond_false]
        exact ⟨b,rfl,hb⟩) 0 [] (by omega) ⟨by simp,by simp,by simp⟩
 have h1':X2q (atP f x) x f (0,[])=some w:=h1
 rw [h1']
 exact ⟨w,rfl,h2⟩
end Nore
open Go Go.Ab Go.Proofs.YtehofdemanfenaaGreat
namespace Nore
theorem X7r (f:ZI):X4Q f=some (decide ((X1H f).2.2=0)):=by
 rw [X5Y];unfold X29
 rw [X5I]
 simp only [jS]
 by_cases h:(X1H f).2.2=0<;>simp [h,X3S]
end Nore
open Go Go.Ab
namespace Nore
theorem X9y {f:ZI} (hg:W6 f) (y:Nat→Int) (hy:∀ j,j<2→0≤y j∧y j≤255):X5r f y=some ((X9r f y).map fun t:Nat=>(t:Int)):=by
 rw [X6s];unfold X2t
 have hM:=hg.marks
 have hI:=hg.inst
 have l0:X3z y f (0,[])=some ((List.range (X0 f)).flatMap fun t=>if (y 0).toNat.testBit t then [(t:Int)] else []):=by
  refine X92 (WZ y f) (List.range (X0 f)) _ 1 (fun x _=>by split<;>simp) ?_ ?_
  ·intro b
   simp [WZ,X1c,X0]
  ·intro i b hi hb
   rw [List.length_range] at hi
   have e1:decide ((i:Int)<↑f.Hz9.Hz8.length)=true:=by unfold X0 at hi;simp [hi]
   have e0:decide ((i:Int)<0)=false:=by simp
   have hw:IntKind.wrap .i64 ((i:Int)+1)=((i+1:Nat):Int):=by unfold X0 at hi;rw [w64]<;>omega
   have hbit:=X9U (y 0) (hy 0 (by omega)) i (by unfold X0 at hi;omega)
   have ble:Nat.ble ((b.length+[(i:Int)].length)*(8+1)) 200000000000000=true:=by
    apply Nat.ble_eq_true_of_le;simp only [List.length_cons,List.length_nil];unfold X0 at hi;omega
   simp only [WZ,X1c,e1,e0,cond_true,cond_false,hw,show Int.toNat 0=0 from rfl,hbit,ble,List.getElem_range]
   cases (y 0).toNat.testBit i<;>simp
 have l1:∀ acc:List Int,acc.length≤8→X3A y f (0,acc)=some (acc++(List.range f.Hz0.length).flatMap fun t=>if (y 1).toNat.testBit t then [((X0 f+t:Nat):Int)] else []):=fun acc hacc=>by
  obtain ⟨w,h1,h2⟩:=X5h (X10 y f) f.Hz0.length (fun i (b:List Int)=>((i:Int),b)) (fun i b=>b.length≤8+i∧b++((List.range f.Hz0.length).drop i).flatMap (fun t=>if (y 1).toNat.testBit t then [((X0 f+t:Nat):Int)] else [])=acc++(List.range f.Hz0.length).flatMap fun t=>if (y 1).toNat.testBit t then [((X0 f+t:Nat):Int)] else [])
   (fun w=>w=acc++(List.range f.Hz0.length).flatMap fun t=>if (y 1).toNat.testBit t then [((X0 f+t:Nat):Int)] else [])
   (fun b hb=>⟨b,by simp [X10,X1d],by
    have:=hb.2
    rw [List.drop_of_length_le (by simp)] at this
    simpa using this⟩)
   (fun i b hi hb=>by
    right
    have e1:decide ((i:Int)<↑f.Hz0.length)=true:=by simp [hi]
    have e0:decide ((i:Int)<0)=false:=by simp
    have hw:=wS i (by omega)
    have hw2:IntKind.wrap .i64 ((f.Hz9.Hz8.length:Int)+(i:Int))=((X0 f+i:Nat):Int):=by unfold X0;rw [w64]<;>omega
    have hbit:=X9U (y 1) (hy 1 (by omega)) i (by omega)
    have ble:Nat.ble ((b.length+[((X0 f+i:Nat):Int)].length)*(8+1)) 200000000000000=true:=by
     apply Nat.ble_eq_true_of_le;simp only [List.length_cons,List.length_nil];omega
    have hdr:(List.range f.Hz0.length).drop i=i::(List.range f.Hz0.length).drop (i+1):=by
     rw [List.drop_eq_getElem_cons (by simpa using hi)];simp
    have h3:=hb.2
    rw [hdr,List.flatMap_cons] at h3
    simp only [X10,X1d,e1,e0,cond_true,cond_false,hw,hw2,show Int.toNat 1=1 from rfl,hbit,ble]
    cases hb1:(y 1).toNat.testBit i
    ·rw [hb1] at h3
     exact ⟨b,rfl,by omega,by simpa using h3⟩
    ·rw [hb1] at h3
     exact ⟨b++[((X0 f+i:Nat):Int)],rfl,by simp;omega,by simpa using h3⟩) 0 acc (by omega) ⟨by omega,by simp⟩
  exact h1.trans (by rw [h2])
 rw [l0]
 simp only [jS]
 rw [l1 _ (by
  rw [X3U (fun t=>(y 0).toNat.testBit t) (fun t:Nat=>(t:Int))]
  have:=List.length_filter_le (fun t=>(y 0).toNat.testBit t) (List.range (X0 f))
  rw [List.length_range] at this
  rw [List.length_map]
  unfold X0 at *;omega)]
 simp only [jS]
 rw [X3U (fun t=>(y 0).toNat.testBit t) (fun t:Nat=>(t:Int)),X3U (fun t=>(y 1).toNat.testBit t) (fun t=>((X0 f+t:Nat):Int))]
 unfold X9r
 simp [List.map_map,Function.comp_def]
def X6Q (f:ZI) (ts:List Int) (x:Zm):Bool := !(ts.any fun t=>t==(f.Hz9.Hz8.length:Int)+x.Hz1||(!(Xp f x.Hz1).Lead&&t==x.Mark))
theorem X9w {f:ZI} (hg:W6 f) {l:List Zm} (hl:∀ x∈l,Xa f x=0) (hll:l.length≤8) (ts:List Int) (ht:ts.length≤1000):X3Q f l ts=some (l.filter (X6Q f ts)):=by
 have hM:=hg.marks
 have hI:=hg.inst
 rw [X6q];unfold X2s
 have inner:∀ i,(hi:i<l.length)→X3y l (i:Int) ts f (false,0)=some (!X6Q f ts l[i]):=fun i hi=>by
  have hx:=hl _ (List.getElem_mem hi)
  obtain ⟨x,hxd⟩:∃ x,l[i]=x:=⟨_,rfl⟩
  rw [hxd] at hx ⊢
  have hgd:l.getD i ⟨0,0,0,0⟩=x:=(X1 _ _ _ hi).trans hxd
  obtain ⟨n1,n2⟩:=X59 hx
  have hio:Xp f x.Hz1=f.Hz0[x.Hz1.toNat]:=X1 _ _ _ n2
  obtain ⟨w,h1,h2⟩:=X5h (WY l (i:Int) ts f) ts.length (fun k (c:Bool)=>(c,(k:Int))) (fun k c=>(c||(ts.drop k).any fun t=>t==(f.Hz9.Hz8.length:Int)+x.Hz1||(!(Xp f x.Hz1).Lead&&t==x.Mark)) = !X6Q f ts x) (fun w=>w = !X6Q f ts x)
   (fun c hc=>⟨c,by simp [WY,X1b],by simpa using hc⟩)
   (fun k c hk hc=>by
    right
    have e1:decide ((k:Int)<↑ts.length)=true:=by simp [hk]
    have e2:=z0S k
    have e3:decide ((i:Int)<↑l.length)=true:=by simp [hi]
    have e4:=z0S i
    have i1:decide (0≤x.Hz1)=true:=by simp;omega
    have i2:decide (x.Hz1<(↑f.Hz0.length:Int))=true:=by simp;omega
    have hw:=wS k (by omega)
    have hw2:IntKind.wrap .i64 ((f.Hz9.Hz8.length:Int)+x.Hz1)=(f.Hz9.Hz8.length:Int)+x.Hz1:=by rw [w64]<;>omega
    rw [List.drop_eq_getElem_cons hk,List.any_cons] at hc
    have hgi:f.Hz0.getD x.Hz1.toNat ⟨ByteArray.empty,false,⟨0,0⟩⟩=Xp f x.Hz1:=rfl
    simp only [WY,X1b,kS,X1 _ _ _ hk,hgd,hw,hw2,e1,e2,e3,e4,i1,i2,hgi,Bool.and_self,cond_true]
    cases c
    ·simp only [cond_false]
     cases c1:(ts[k]==(f.Hz9.Hz8.length:Int)+x.Hz1)
     ·simp only [cond_false]
      rw [c1] at hc
      cases hL:(Xp f x.Hz1).Lead
      ·rw [hL] at hc
       exact ⟨_,rfl,by simpa [hL] using hc⟩
      ·rw [hL] at hc
       exact ⟨_,rfl,by simpa [hL] using hc⟩
     ·rw [c1] at hc
      exact ⟨_,rfl,by simpa using hc⟩
    ·exact ⟨_,rfl,by simpa using hc⟩) 0 false (by omega) (by simp [X6Q])
  exact h1.trans (by rw [h2])
 have outer:X3x l ts f (0,[])=some (l.flatMap fun x=>if X6Q f ts x then [x] else []):=by
  refine X92 (WX l ts f) l _ 1 (fun x _=>by split<;>simp) ?_ ?_
  ·intro b
   simp [WX,X1a]
  ·intro i b hi hb
   have e1:decide ((i:Int)<↑l.length)=true:=by simp [hi]
   have e2:=z0S i
   have hw:=wS i (by omega)
   have ble:Nat.ble ((b.length+[l[i]].length)*(32+1)) 200000000000000=true:=by
    apply Nat.ble_eq_true_of_le;simp only [List.length_cons,List.length_nil];omega
   simp only [WX,X1a,inner i hi,jS,kS,X1 _ _ _ hi,hw,e1,e2,ble,Bool.and_self,cond_true]
   cases X6Q f ts l[i]<;>simp
 rw [outer,X3U (X6Q f ts) (fun x=>x)]
 simp
theorem X9x {f:ZI} (hg:W6 f) {l:List Zm} (hl:∀ x∈l,Xa f x=0) (hll:l.length≤8) (ts:List Int) (ht:ts.length≤1000) {s:List Nat} (hs:∀ k:Nat,ts.contains (k:Int)=s.contains k):X3Q f l ts=some (WO f l s):=by
 rw [X9w hg hl hll ts ht]
 congr 1
 unfold WO
 apply List.filter_congr
 intro x hx
 have hx:=hl x hx
 obtain ⟨n1,n2⟩:=X59 hx
 unfold X6Q X7E
 have h1:(f.Hz9.Hz8.length:Int)+x.Hz1=((X0 f+x.Hz1.toNat:Nat):Int):=by unfold X0;omega
 have hany:∀ v:Int,(ts.any fun t=>t==v)=ts.contains v:=fun v=>by
  rw [Bool.eq_iff_iff,List.any_eq_true,List.contains_iff_mem]
  constructor
  ·rintro ⟨t,h2,h3⟩;rw [beq_iff_eq] at h3;exact h3 ▸ h2
  ·intro h;exact ⟨v,h,by simp⟩
 rw [h1]
 cases hL:(Xp f x.Hz1).Lead
 ·obtain ⟨m1,m2⟩:=X6U hx hL
  rw [←m1]
  simp only [Bool.not_false,Bool.true_and,Bool.false_or,kS]
  rw [←hs,←hs]
  have:(ts.any fun t=>t==((X0 f+x.Hz1.toNat:Nat):Int)||t==((x.Mark.toNat:Nat):Int))=((ts.any fun t=>t==((X0 f+x.Hz1.toNat:Nat):Int))||ts.any fun t=>t==((x.Mark.toNat:Nat):Int)):=by
   clear hs ht hany
   induction ts with
   | nil=>rfl
   | cons t ts ih =>
    rw [List.any_cons,List.any_cons,List.any_cons,ih]
    ac_rfl
  rw [this,hany,hany,Bool.not_or]
 ·simp only [Bool.not_true,Bool.false_and,Bool.or_false,Bool.true_or,Bool.and_true]
  rw [hany,hs]
end Nore
open Go Go.Ab Go.Proofs.YtehofdemanfenaaGreat
namespace Nore
theorem X7D {α:Type} (p:α→Bool):∀ (b:List α) (i:Nat) (h:i<b.length) (y:α),p b[i]=false→p y=false→(b.set i y).filter p=b.filter p
 | [],i,h,y,_,_=>by simp at h
 | a::b,0,h,y,h1,h2=>by
  simp only [List.getElem_cons_zero] at h1
  simp [List.set_cons_zero,h1,h2]
 | a::b,i+1,h,y,h1,h2=>by
  simp only [List.getElem_cons_succ] at h1
  simp only [List.set_cons_succ,List.filter_cons]
  rw [X7D p b i (by simpa using h) y h1 h2]
theorem X9A {f:ZI} {x:Z4} {l:List Zm} (h:X77 f x l) (s:List Nat):X77 f x (WO f l s) :=
 ⟨Nat.le_trans (List.length_filter_le _ _) h.len,fun y hy=>h.each y (X8y y hy),fun y hy=>h.true_ y (X8y y hy)⟩
theorem X88 {f:ZI} {s:Zm} (h:Xa f s=0) {v:Int} (h1:(Xp f s.Hz1).Lead=true→0≤v∧v≤1000) (h2:(Xp f s.Hz1).Lead=false→0≤v∧v≤31):Xa f ⟨s.Hz1,s.Mark,v,s.Hz5⟩=0:=by
 obtain ⟨⟨n1,n2⟩,n3,n4⟩:=X3E h
 unfold Xa at h ⊢
 simp only at h ⊢
 have ho:X4 0 ((f.Hz0.length:Int)-1) [s.Hz1]=false:=by simp;omega
 simp only [ho,Bool.false_eq_true,if_false] at h ⊢
 cases hL:(Xp f s.Hz1).Lead
 ·have hv:=h2 hL
  rw [hL] at h
  have o1:X4 0 31 [v]=false:=by simp;omega
  simp only [Bool.false_eq_true,if_false,o1] at h ⊢
  split at h
  ·cases h
  ·rename_i q1
   rw [if_neg q1]
   split at h
   ·cases h
   ·rename_i q2
    rw [if_neg q2]
    split at h
    ·cases h
    ·exact h
 ·have hv:=h1 hL
  obtain ⟨m1,m2,m3,m4,m5⟩:=n3 hL
  have o1:X4 0 1000 [v]=false:=by simp;omega
  have o2:X4 0 4 [s.Hz5]=false:=by simp;omega
  simp only [if_true,o1,o2,Bool.or_self,Bool.false_eq_true,if_false]
  rw [if_neg (by simp [m5])]
theorem X7S (f:ZI) (x:Z4) (y:Nat→Int) (hx:Z4.Ok limW x) (hy':∀ j,j<3→(Lit.int .u8 (y j)).wf=true):X3w f x y=some true:=by
 have hp:∀ j,j<2→0≤x.Place j∧x.Place j≤255:=fun j hj=>X9N (hx.1 j hj)
 have ho:∀ v∈x.Offs,0≤v∧v≤65535:=fun v hv=>X9C (hx.2.1.2 v hv)
 have ht:∀ v∈x.Taken,0≤v∧v≤65535:=fun v hv=>X9C (hx.2.2.1.2 v hv)
 have htl:x.Taken.length≤1000000000000000000:=Nat.le_trans hx.2.2.1.1 (by decide)
 have hy:∀ j,j<3→0≤y j∧y j≤255:=fun j hj=>X9N (hy' j hj)
 rw [X4O];unfold X19
 rw [X7r]
 simp only [jS]
 by_cases hf:(X1H f).2.2=0
 ·have hg:=X6P hf
  have hI:=hg.inst
  simp only [hf,decide_true,Bool.not_true,cond_false]
  obtain ⟨l,hl,hts⟩:=X9z hg x hp ho ht htl
  rw [hl]
  simp only [jS]
  obtain ⟨z,hz⟩:∃ z:Nat→Int,z=fun j=>bif Nat.beq j 1 then y (Int.toNat 1) else bif Nat.beq j 0 then y (Int.toNat 0) else 0:=⟨_,rfl⟩
  have hzb:∀ j,j<2→0≤z j∧z j≤255:=fun j hj=>by
   subst hz
   have:j=0∨j=1:=by omega
   rcases this with rfl|rfl
   ·exact hy 0 (by omega)
   ·exact hy 1 (by omega)
  rw [←hz,X9y hg z hzb]
  simp only [jS]
  have hfl:=X9H hg z
  generalize hs:X9r f z=s at *
  have hmh:=X9K s
  have hml:(s.map fun t:Nat=>(t:Int)).length≤1000:=by rw [List.length_map];omega
  generalize hts':(s.map fun t:Nat=>(t:Int))=ts at *
  obtain ⟨w,h1,h2⟩:=X5h (XG ts f y) l.length (fun i (b:List Zm)=>((i:Int),b)) (fun _ b=>b.length=l.length∧(∀ q∈b,Xa f q=0)∧WO f b s=WO f l s) (fun b=>b.length=l.length∧(∀ q∈b,Xa f q=0)∧WO f b s=WO f l s)
   (fun b hb=>⟨b,by simp [XG,XO,hb.1],hb⟩)
   (fun i b hi hb=>by
    right
    obtain ⟨hb1,hb2,hb3⟩:=hb
    have hlen:=hts.len
    have hib:i<b.length:=by omega
    have hw:=wS i (by omega)
    have e1:decide ((i:Int)<↑b.length)=true:=by simp;omega
    have e2:=z0S i
    have e3:decide ((0:Int)≤((i+1:Nat):Int))=true:=by simp;omega
    have e4:decide (((i+1:Nat):Int)≤↑b.length)=true:=by simp;omega
    have e5:decide ((i:Int)≤((i+1:Nat):Int))=true:=by simp;omega
    have e6:Nat.blt i b.length=true:=by rw [Tr.blt_dec];simp;omega
    have hgd:b.getD i ⟨0,0,0,0⟩=b[i]:=X1 _ _ _ hib
    have htk:List.take (i+1-i) (List.drop i b)=[b[i]]:=by
     rw [List.drop_eq_getElem_cons hib,show i+1-i=1 by omega];rfl
    have hx1:=hb2 _ (List.getElem_mem hib)
    have hrest:X3Q f [b[i]] ts=some (WO f [b[i]] s):=X9x hg (by intro q hq;rw [List.mem_singleton] at hq;exact hq ▸ hx1) (by simp) ts hml (fun k=>hmh k)
    simp only [XG,XO,hw,e1,e2,e3,e4,e5,e6,kS,hgd,htk,hrest,Bool.and_self,cond_true,jS]
    cases hk:X7E f s b[i]
    ·have hr:WO f [b[i]] s=[]:=by unfold WO;simp [hk]
     rw [hr]
     obtain ⟨q,hq⟩:∃ q,b[i]=q:=⟨_,rfl⟩
     have hset:∀ v:Int,Xa f ⟨q.Hz1,q.Mark,v,q.Hz5⟩=0→((b.set i ⟨q.Hz1,q.Mark,v,q.Hz5⟩).length=l.length∧(∀ r∈b.set i ⟨q.Hz1,q.Mark,v,q.Hz5⟩,Xa f r=0)∧WO f (b.set i ⟨q.Hz1,q.Mark,v,q.Hz5⟩) s=WO f l s):=fun v hv=>by
      refine ⟨by simpa using hb1,fun r hr => ?_,?_⟩
      ·rcases List.mem_or_eq_of_mem_set hr with h|h
       ·exact hb2 r h
       ·rw [h];exact hv
      ·rw [←hb3]
       unfold WO
       apply X7D _ _ _ hib _ hk
       rw [hq] at hk
       exact hk
     rw [hq] at hx1 ⊢
     obtain ⟨⟨n1,n2⟩,n3,n4⟩:=X3E hx1
     have i1:decide (0≤q.Hz1)=true:=by simp;omega
     have i2:decide (q.Hz1<(f.Hz0.length:Int))=true:=by simp;omega
     have hgi:f.Hz0.getD q.Hz1.toNat ⟨ByteArray.empty,false,⟨0,0⟩⟩=Xp f q.Hz1:=rfl
     have hy2:=hy 2 (by omega)
     have wy:IntKind.wrap .i64 (y 2)=y 2:=by rw [w64]<;>omega
     simp only [List.length_nil,show ((((0:Nat):Int)==1)=false) from rfl,cond_false,i1,i2,hgi,Bool.and_self,cond_true,show Int.toNat 2=2 from rfl,wy]
     cases hL:(Xp f q.Hz1).Lead
     ·obtain ⟨m1,m2,m3⟩:=n4 hL
      have ws:IntKind.wrap .i64 (q.Hz6+y 2)=q.Hz6+y 2:=by rw [w64]<;>omega
      have tm:=X44 (q.Hz6+y 2) 32 (by omega) (by omega)
      simp only [cond_false,ws]
      exact ⟨_,rfl,hset _ (X88 hx1 (fun h=>by rw [hL] at h;cases h) (fun _=>by omega))⟩
     ·obtain ⟨m1,m2,m3⟩:=n3 hL
      have ws:IntKind.wrap .i64 (q.Hz6+y 2)=q.Hz6+y 2:=by rw [w64]<;>omega
      simp only [cond_true,ws]
      refine ⟨_,rfl,hset _ (X88 hx1 (fun _ => ?_) (fun h=>by rw [hL] at h;cases h))⟩
      cases hd:decide (q.Hz6+y 2<1000)
      ·simp
      ·have:=of_decide_eq_true hd
       simp only [cond_true];omega
    ·have hr:WO f [b[i]] s=[b[i]]:=by unfold WO;simp [hk]
     rw [hr]
     exact ⟨b,rfl,hb1,hb2,hb3⟩) 0 l (by omega) ⟨rfl,hts.each,rfl⟩
  have h1':X2f ts f y (0,l)=some w:=h1
  obtain ⟨k1,k2,k3⟩:=h2
  rw [h1']
  simp only [jS]
  rw [X7W]
  have hc:(Wk f w).2=0:=X8I hf (by have:=hts.len;omega) k2
  simp only [hc,if_true,jS,beq_self_eq_true,cond_true]
  have hok:okW f w s=true:=by
   unfold okW
   rw [k3]
   obtain ⟨t1,_⟩:=X9M hg ho (X9A hts s)
   obtain ⟨a1,a2⟩:=X9p hg x hp
   have hm:atP f x∈X4T f (WO f l s):=X8O.2 ⟨a2,t1⟩
   cases h:X4T f (WO f l s) with
   | nil=>rw [h] at hm;cases hm
   | cons a b=>rfl
  have hle:=X8E hg k2 s hok
  have hln:=X9n f (X4a f w)
  have hw:IntKind.wrap .i64 (((X4v f (X4a f w)).length:Int)+((X4t f (X4a f w)).length:Int))=((X4a f w).length:Int):=by rw [w64]<;>omega
  have htl:ts.length=s.length:=by rw [←hts',List.length_map]
  rw [hw,htl]
  have:decide (((X4a f w).length:Int)≤(s.length:Int))=true:=by simp;omega
  rw [this];rfl
 ·simp only [hf,decide_false,Bool.not_false,cond_true]
end Nore
