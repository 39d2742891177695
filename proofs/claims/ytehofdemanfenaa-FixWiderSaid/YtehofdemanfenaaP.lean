/- The plain functions of the program and of the document answer alike. -/
import Derived.Test.YtehofdemanfenaaD
import Derived.Test.YtehofdemanfenaaY
set_option linter.unusedSectionVars false
set_option linter.unusedVariables false
set_option linter.unusedSimpArgs false
open Go Go.Ab
namespace Nore

theorem w64 {x:Int} (h1 : -9223372036854775808≤x) (h2:x≤9223372036854775807):IntKind.wrap .i64 x=x:=by
 simp only [IntKind.wrap,IntKind.signed,IntKind.bits]
 simp
 omega

theorem X3l {σ ω γ:Type} (st:σ→Option (σ⊕ω)) (k:ω→Option γ) (s:σ):Option.bind (Z8S st s) k=Option.bind (st s) (Sum.elim (fun s'=>Option.bind (Z8S st s') k) k):=by
 rw [ZgX]
 cases st s with
 | none=>rfl
 | some r=>cases r<;>rfl

theorem X4 {β σ ω γ:Type} (st:σ→Option (σ⊕ω)) (k:ω→Option γ) (n:Nat) (emb:Nat→β→σ) (P:Nat→β→Prop) (nice:Nat→β→Option γ)
  (hd:∀ b,P n b→∀ R:σ→Option γ,Option.bind (st (emb n b)) (Sum.elim R k)=nice n b)
  (hn:∀ i b,i<n→P i b→∀ R:σ→Option γ,(∀ b',P (i+1) b'→R (emb (i+1) b')=nice (i+1) b')→Option.bind (st (emb i b)) (Sum.elim R k)=nice i b) :
  ∀ i b,i≤n→P i b→Option.bind (Z8S st (emb i b)) k=nice i b:=by
 intro i b hi hP
 induction hj:n-i generalizing i b with
 | zero =>
  have:i=n:=by omega
  subst this
  rw [X3l];exact hd b hP _
 | succ j ih =>
  rw [X3l]
  exact hn i b (by omega) hP _ fun b' hb'=>ih (i+1) b' (by omega) hb' (by omega)

theorem X1X {γ:Type} (o:Option γ):Option.bind o (fun x=>some x)=o:=by cases o<;>rfl

theorem X5H {β σ ω:Type} (st:σ→Option (σ⊕ω)) (n:Nat) (emb:Nat→β→σ) (P:Nat→β→Prop) (nice:Nat→β→Option ω)
  (hd:∀ b,P n b→∀ R:σ→Option ω,Option.bind (st (emb n b)) (Sum.elim R some)=nice n b)
  (hn:∀ i b,i<n→P i b→∀ R:σ→Option ω,(∀ b',P (i+1) b'→R (emb (i+1) b')=nice (i+1) b')→Option.bind (st (emb i b)) (Sum.elim R some)=nice i b)
  (i:Nat) (b:β) (hi:i≤n) (hP:P i b):Z8S st (emb i b)=nice i b:=by
 rw [←X1X (Z8S st (emb i b))]
 exact X4 st some n emb P nice hd hn i b hi hP

theorem X58 {a b:Int} (h:¬ a=b):(a==b)=false:=beq_eq_false_iff_ne.2 h
theorem X1j {a b:Int} (h:¬ a=b):(a != b)=true:=bne_iff_ne.2 h

theorem X0 {α:Type} (l:List α) (i:Nat) (d:α) (h:i<l.length):l.getD i d=l[i]:=by simp [List.getD,h]

def X3 (lo hi:Int) (l:List Int):Bool:=l.any fun n=>decide (n<lo)||decide (n>hi)
@[simp] theorem X5x (lo hi:Int):X3 lo hi []=false:=rfl
@[simp] theorem X3C (lo hi n:Int) (l:List Int):X3 lo hi (n::l)=(decide (n<lo)||decide (n>hi)||X3 lo hi l):=rfl
def inN (n lo hi:Int):Bool:=decide (lo≤n)&&decide (n≤hi)

theorem WB (lo up:Int) (l:List Int) (hl:l.length<1000000):X13 lo up l=some (X3 lo up l):=by
 have key:=X4 (X14 (↑l.length) l up lo) (fun o3=>Sum.elim (fun y4:Int=>some (decide (y4≥0))) (fun _=>some (decide ((-1:Int)≥0))) o3) l.length (fun i (_:Unit)=>(i:Int)) (fun _ _=>True) (fun i _=>some (X3 lo up (l.drop i)))
  (by
   intro b _ R
   simp [X14,X19])
  (by
   intro i b hi _ R hR
   have hR':=hR () trivial
   simp only [X14,X19]
   rw [List.drop_eq_getElem_cons hi]
   simp only [Int.toNat_natCast,X0 _ _ _ hi,X3C]
   have hw:IntKind.wrap .i64 ((i:Int)+1)=((i+1:Nat):Int):=by rw [w64]<;>omega
   rw [hw]
   have h1:decide ((i:Int)<↑l.length)=true:=by simp [hi]
   have h2:decide ((0:Int)≤↑i)=true:=by simp
   simp only [h1,h2,Bool.and_self,cond_true]
   by_cases h3:l[i]<lo
   ·simp [h3]
   ·by_cases h4:l[i]>up
    ·simp [h3,h4]
    ·simp [h3,h4];exact hR')
 exact (key 0 () (by omega) trivial).trans (by simp)

theorem X1f (n lo hi:Int):X1w n lo hi=some (inN n lo hi):=by
 unfold X1w inN
 by_cases h:lo≤n<;>simp [h]
end Nore
open Go Go.Ab
namespace Nore

def X4V:Int→List UInt8→Option Int
 | last,[]=>some last
 | last,c::l=>if 97≤(c.toNat:Int)∧(c.toNat:Int)≤122 then X4V c.toNat l else if (c.toNat:Int)≠45∨last=45 then none else X4V c.toNat l
def X41:Option Int→Bool
 | none=>false
 | some last=>last != 45
def X4W (s:ByteArray):Bool:=decide (s.size≤14)&&X41 (X4V 45 s.toList)

theorem X7q (s:ByteArray) (i:Nat) (h:(s.get! i).toNat<128):Utf8.decode s i=((s.get! i).toNat,1):=by
 unfold Utf8.decode;simp only [Nat.add_zero];rw [if_pos h]
theorem X7p (s:ByteArray) (i:Nat) (h:¬ (s.get! i).toNat<128):128≤(Utf8.decode s i).1:=by
 unfold Utf8.decode
 simp only [Nat.add_zero,Utf8.runeError]
 rw [if_neg h]
 repeat' split
 all_goals simp_all
 all_goals omega

theorem X1y (s:ByteArray):s.toList.length=s.size:=by rw [ByteArray.toList_eq];rfl
theorem X78 (s:ByteArray) (i:Nat) (h:i<s.toList.length):s.get! i=s.toList[i]:=by
 have hs:i<s.size:=by rw [←X1y];exact h
 simp only [ByteArray.toList_eq]
 show s.data[i]! = _
 have h2:i<s.data.size:=hs
 rw [getElem!_pos s.data i h2]
 rfl

theorem X49 (s:ByteArray):X2s s=some (X4W s):=by
 have key:=X4 (WH s s) (fun o0=>Sum.elim (fun y1:Bool×Nat=>some y1.fst) (fun y2:Int×Nat=>bif decide ((↑(ByteArray.size s):Int)≤14) then some (y2.fst != 45) else some false) o0) s.toList.length (fun i (b:Int)=>(b,i)) (fun _ _=>True) (fun i b=>some (decide (s.size≤14)&&X41 (X4V b (s.toList.drop i))))
  (by
   intro b _ R
   have hh:(decide ((↑s.size:Int)≤14))=decide (s.size≤14):=by rw [decide_eq_decide];omega
   have hd:s.toList.drop s.size=[]:=List.drop_eq_nil_of_le (by rw [X1y];exact Nat.le_refl _)
   simp only [hd,X4V,X41,WH,WJ,X1y,hh,Nat.lt_irrefl,decide_false,cond_false,Option.bind_some,Sum.elim_inr]
   cases decide (s.size≤14)<;>simp)
  (by
   intro i b hi _ R hR
   have hs:i<s.size:=by rw [←X1y];exact hi
   have hg:=X78 s i hi
   simp only [WH,WJ]
   rw [List.drop_eq_getElem_cons hi]
   simp only [X4V]
   by_cases h:(s.get! i).toNat<128
   ·rw [X7q s i h]
    have hR':=hR ((s.get! i).toNat:Int) trivial
    rw [hg] at *
    generalize s.toList[i]=c at *
    simp only [hs,decide_true,cond_true]
    by_cases h1:97≤(c.toNat:Int)
    ·have q1:decide ((c.toNat:Int)≥97)=true:=decide_eq_true h1
     by_cases h2:(c.toNat:Int)≤122
     ·have q2:decide ((c.toNat:Int)≤122)=true:=decide_eq_true h2
      simp only [decide_true,decide_false,q1,q2,cond_true,Option.bind_some,Sum.elim_inl,h1,h2,and_self,if_true]
      exact hR'
     ·have q2:decide ((c.toNat:Int)≤122)=false:=decide_eq_false h2
      have h3:¬ ((c.toNat:Int)=45):=by omega
      have q3:((c.toNat:Int) != 45)=true:=bne_iff_ne.2 h3
      simp only [decide_true,decide_false,q1,q2,q3,cond_true,cond_false,Option.bind_some,Sum.elim_inl,Sum.elim_inr,h2,and_false,if_false,ne_eq,h3,not_false_iff,true_or,if_true,X41,Bool.and_false]
    ·have q1:decide ((c.toNat:Int)≥97)=false:=decide_eq_false h1
     by_cases h3:(c.toNat:Int)=45
     ·have q3:((c.toNat:Int) != 45)=false:=by rw [h3];rfl
      by_cases h4:b=45
      ·have q4:(b==45)=true:=by rw [h4];rfl
       rw [q1,q3,q4,if_neg (fun hc=>h1 hc.1),if_pos (Or.inr h4)]
       simp [X41]
      ·have q4:(b==45)=false:=beq_eq_false_iff_ne.2 h4
       simp only [decide_true,decide_false,q1,q3,q4,cond_true,cond_false,Option.bind_some,Sum.elim_inl,Sum.elim_inr,h1,false_and,if_false,h4,ne_eq,h3,not_true,or_self,if_true]
       rw [h3] at hR'
       exact hR'
     ·have q3:((c.toNat:Int) != 45)=true:=bne_iff_ne.2 h3
      simp only [decide_true,decide_false,q1,q3,cond_true,cond_false,Option.bind_some,Sum.elim_inl,Sum.elim_inr,h1,false_and,if_false,ne_eq,h3,not_false_iff,true_or,if_true,X41,Bool.and_false]
   ·have h':=X7p s i h
    rw [hg] at h
    generalize s.toList[i]=c at *
    simp only [hs,decide_true,cond_true]
    generalize (Utf8.decode s i)=d at *
    have e1:((d.1:Nat):Int)≥97:=by omega
    have e2:¬ ((d.1:Nat):Int)≤122:=by omega
    have e3:¬ ((d.1:Nat):Int)=45:=by omega
    have e4:¬ ((c.toNat:Int)≤122):=by omega
    have e5:¬ ((c.toNat:Int)=45):=by omega
    have q1:decide (((d.1:Nat):Int)≥97)=true:=decide_eq_true e1
    have q2:decide (((d.1:Nat):Int)≤122)=false:=decide_eq_false e2
    have q3:(((d.1:Nat):Int) != 45)=true:=bne_iff_ne.2 e3
    simp only [decide_true,decide_false,q1,q2,q3,cond_true,cond_false,Option.bind_some,Sum.elim_inl,Sum.elim_inr,e4,and_false,if_false,ne_eq,e5,not_false_iff,true_or,if_true,X41,Bool.and_false])
 exact (key 0 45 (by omega) trivial).trans (by simp [X4W])

theorem X6v (s:ByteArray):X3Q s=some (X4W s):=by
 unfold X3Q
 rw [X1f]
 simp only [Option.bind_some]
 by_cases hsz:1≤s.size∧s.size≤14
 ·have e1:inN (↑s.size) 1 14=true:=by simp [inN];omega
  rw [e1]
  simp only [Bool.not_true,cond_false]
  have hl:=X1y s
  have key:=X4 (WI s) (fun o0=>Sum.elim (fun y76:Bool=>some y76) (fun _:Unit=>some true) o0) s.toList.length (fun i (_:Int)=>(i:Int)) (fun i b=>b=if i=0 then 45 else ((s.toList.getD (i-1) 0).toNat:Int)) (fun i b=>some (if i<s.toList.length then X41 (X4V b (s.toList.drop i)) else true))
   (by
    intro b _ R
    simp [WI,WQ,X1y])
   (by
    intro i b hi hP R hR
    have hs:i<s.size:=by rw [←X1y];exact hi
    simp only [WI,WQ]
    rw [List.drop_eq_getElem_cons hi]
    have hR':=hR ((s.toList[i]).toNat:Int) (by simp [List.getD,hi])
    have hw:IntKind.wrap .i64 ((i:Int)+1)=((i+1:Nat):Int):=by rw [w64]<;>omega
    have hw1:IntKind.wrap .i64 ((i:Int)-1)=((i:Int)-1):=by rw [w64]<;>omega
    have hw2:IntKind.wrap .i64 ((s.size:Int)-1)=((s.size:Int)-1):=by rw [w64]<;>omega
    simp only [X4V,Int.toNat_natCast,X0 _ _ _ hi,hw,hw1,hw2]
    have d1:decide ((i:Int)<↑s.size)=true:=by simp [hs]
    have d2:decide ((0:Int)≤↑i)=true:=by simp
    simp only [d1,d2,Bool.and_self,cond_true,hi,if_true]
    generalize hc:s.toList[i]=c at *
    by_cases h1:97≤(c.toNat:Int)∧(c.toNat:Int)≤122
    ·have q1:decide ((c.toNat:Int)≥97)=true:=decide_eq_true h1.1
     have q2:decide ((c.toNat:Int)≤122)=true:=decide_eq_true h1.2
     simp only [decide_true,decide_false,q1,q2,cond_true,Option.bind_some,Sum.elim_inl,h1,and_self,if_true]
     have hne:¬ ((c.toNat:Int)=45):=by omega
     rw [hR']
     by_cases hi2:i+1<s.toList.length
     ·simp [hi2]
     ·have:s.toList.drop (i+1)=[]:=List.drop_eq_nil_of_le (by omega)
      simp [hi2,this,X4V,X41,hne]
    ·have g:(bif decide ((c.toNat:Int)≥97) then bif decide ((c.toNat:Int)≤122) then true else false else false)=false:=by
      by_cases a1:(c.toNat:Int)≥97
      ·by_cases a2:(c.toNat:Int)≤122
       ·exact absurd ⟨a1,a2⟩ h1
       ·simp [a1,a2]
      ·simp [a1]
     have g2:∀ (Z:Type) (x y:Z),(bif decide ((c.toNat:Int)≥97) then bif decide ((c.toNat:Int)≤122) then x else y else y)=y:=by
      intro Z x y
      by_cases a1:(c.toNat:Int)≥97
      ·by_cases a2:(c.toNat:Int)≤122
       ·exact absurd ⟨a1,a2⟩ h1
       ·simp [a1,a2]
      ·simp [a1]
     rw [g2,if_neg h1]
     by_cases h2:(c.toNat:Int)=45
     ·simp only [h2,bne_self_eq_false,cond_false]
      by_cases h3:i=0
      ·subst h3
       simp [hP,X41]
      ·by_cases h4:i+1=s.size
       ·have:s.toList.drop (i+1)=[]:=List.drop_eq_nil_of_le (by omega)
        have e5:(i:Int)=(s.size:Int)-1:=by omega
        have e6:((s.size:Int)-1==0)=false:=by simp;omega
        simp only [e5,e6,this,X4V]
        by_cases h5:b=45<;>simp [h5,X41]
       ·have e5:((i:Int)==(s.size:Int)-1)=false:=by simp;omega
        have e6:((i:Int)==0)=false:=by simp;omega
        have e7:(0:Int)≤(i:Int)-1:=by omega
        have e8:(i:Int)-1<(s.size:Int):=by omega
        have e9:((i:Int)-1).toNat=i-1:=by omega
        simp only [e5,e6,e7,e8,e9,cond_false,decide_true,Bool.and_self,cond_true]
        simp only [h3,if_false] at hP
        rw [←hP]
        by_cases h5:b=45
        ·simp [h5,X41]
        ·have q5:(b==45)=false:=beq_eq_false_iff_ne.2 h5
         rw [h2] at hR'
         rw [q5]
         simp only [cond_false,Option.bind_some,Sum.elim_inl,ne_eq,not_true,false_or,h5,if_false]
         rw [hR']
         simp [show i+1<s.toList.length by omega]
     ·have:((c.toNat:Int) != 45)=true:=by simp [h2]
      simp [this,h2,X41])
  have:=key 0 45 (by omega) (by simp)
  refine this.trans ?_
  simp [X4W,show 0<s.toList.length by omega,hsz.2]
 ·have e1:inN (↑s.size) 1 14=false:=by
   simp [inN];omega
  rw [e1]
  simp only [Bool.not_false,cond_true,X4W]
  by_cases h:s.size≤14
  ·have h0:s.toList=[]:=by
    apply List.eq_nil_of_length_eq_zero;rw [X1y];omega
   simp [h0,X4V,X41]
  ·simp [h]

end Nore
open Go Go.Ab
namespace Nore

def X38 (m:Int) (p:Zu):Bool:=X3 (-m) m [p.X,p.Y]
def X42:Int→List Zk→Int
 | _,[]=>0
 | last,p::l=>if X3 0 40000 [p.Day]||X3 0 4 [p.Colour] then 7 else if p.Day≤last then 2 else X42 p.Day l
def X2X (l:List Zk):Int:=if X3 1 4 [(l.length:Int)] then 3 else X42 (-1) l
def X6E (b:ZB) (m w:Int):Int:=if X3 (-m) m [b.X.Lo,b.X.Hi,b.Y.Lo,b.Y.Hi] then 7 else if X3 0 w [b.X.Hi-b.X.Lo,b.Y.Hi-b.Y.Lo] then 2 else 0

theorem WX (n lo hi:Int):inN n lo hi = !X3 lo hi [n]:=by
 simp only [inN,X3C,X5x,Bool.or_false,Bool.not_or]
 congr 1<;>rw [←decide_not,decide_eq_decide]<;>omega

theorem X4q (m:Int) (hm:0≤m∧m≤1000000) (l:List Zu) (hl:l.length<1000000):X3B m l=some (l.any (X38 m)):=by
 have hm1:IntKind.wrap .i64 (0-m) = -m:=by rw [w64]<;>omega
 have key:=X4 (X12 (↑l.length) l m) (fun o7=>Sum.elim (fun y8:Int×Zu×(List Int)=>some (decide (y8.fst≥0))) (fun _=>some (decide ((-1:Int)≥0))) o7) l.length (fun i (_:Unit)=>(i:Int)) (fun _ _=>True) (fun i _=>some ((l.drop i).any (X38 m)))
  (by
   intro b _ R
   simp [X12,X18])
  (by
   intro i b hi _ R hR
   have hR':=hR () trivial
   simp only [X12,X18]
   rw [List.drop_eq_getElem_cons hi]
   have hw:IntKind.wrap .i64 ((i:Int)+1)=((i+1:Nat):Int):=by rw [w64]<;>omega
   simp only [Int.toNat_natCast,X0 _ _ _ hi,List.any_cons,hm1,hw]
   rw [WB _ _ _ (by simp)]
   have h1:decide ((i:Int)<↑l.length)=true:=by simp [hi]
   have h2:decide ((0:Int)≤↑i)=true:=by simp
   simp only [h1,h2,Bool.and_self,cond_true,Option.bind_some]
   change Option.bind (bif X38 m l[i] then _ else _) _=_
   cases h3:X38 m l[i]
   ·simp;exact hR'
   ·simp)
 exact (key 0 () (by omega) trivial).trans (by simp)

theorem X4G (p:Zu) (m:Int) (hm:0≤m∧m≤1000000):X2d p m=some (!X38 m p):=by
 have hm1:IntKind.wrap .i64 (0-m) = -m:=by rw [w64]<;>omega
 unfold X2d
 rw [X1f,X1f,hm1,WX,WX]
 simp only [Option.bind_some,X38,X3C,X5x,Bool.or_false]
 cases (decide (p.X < -m)||decide (p.X>m))<;>simp

theorem X5W (l:List Zk):X2F l=some (X2X l):=by
 unfold X2F X2X
 rw [WB _ _ _ (by simp)]
 simp only [Option.bind_some]
 cases hb:X3 1 4 [(l.length:Int)]
 ·simp only [cond_false,Bool.false_eq_true,if_false]
  have hl:1≤l.length∧l.length≤4:=by simp at hb;omega
  exact X4 (XQ (↑l.length) l [↑l.length]) _ l.length (fun i (b:Int)=>(b,(i:Int))) (fun _ _=>True) (fun i b=>some (X42 b (l.drop i)))
   (by
    intro b _ R
    simp [XQ,XZ,X42])
   (by
    intro i b hi _ R hR
    have hR':=hR (l[i].Day) trivial
    simp only [XQ,XZ]
    rw [List.drop_eq_getElem_cons hi]
    have hw:IntKind.wrap .i64 ((i:Int)+1)=((i+1:Nat):Int):=by rw [w64]<;>omega
    simp only [Int.toNat_natCast,X0 _ _ _ hi,X42,hw]
    rw [WB _ _ _ (by simp),WB _ _ _ (by simp)]
    have h1:decide ((i:Int)<↑l.length)=true:=by simp [hi]
    have h2:decide ((0:Int)≤↑i)=true:=by simp
    simp only [h1,h2,Bool.and_self,cond_true,Option.bind_some]
    cases h3:X3 0 40000 [l[i].Day]
    ·cases h4:X3 0 4 [l[i].Colour]
     ·by_cases h5:l[i].Day≤b
      ·simp [h5]
      ·simp [h5];exact hR'
     ·simp
    ·simp) 0 (-1) (by omega) trivial
 ·simp

theorem X5Y (l:List Zk):X2e l=some (X2X l):=by
 unfold X2e X2X
 rw [X1f,WX]
 simp only [Option.bind_some]
 cases hb:X3 1 4 [(l.length:Int)]
 ·simp only [Bool.not_false,Bool.not_true,cond_false,Bool.false_eq_true,if_false]
  have hl:1≤l.length∧l.length≤4:=by simp at hb;omega
  exact X4 (XU l) _ l.length (fun i (_:Int)=>(i:Int)) (fun i b=>b=if i=0 then -1 else (l.getD (i-1) ⟨0,0⟩).Day) (fun i b=>some (X42 b (l.drop i)))
   (by
    intro b _ R
    simp [XU,W3,X42])
   (by
    intro i b hi hP R hR
    have hR':=hR (l[i].Day) (by simp [List.getD,hi])
    simp only [XU,W3]
    rw [List.drop_eq_getElem_cons hi]
    have hw:IntKind.wrap .i64 ((i:Int)+1)=((i+1:Nat):Int):=by rw [w64]<;>omega
    have hw1:IntKind.wrap .i64 ((i:Int)-1)=((i:Int)-1):=by rw [w64]<;>omega
    simp only [Int.toNat_natCast,X0 _ _ _ hi,X42,hw,hw1]
    rw [X1f,X1f,WX,WX]
    have h1:decide ((i:Int)<↑l.length)=true:=by simp [hi]
    have h2:decide ((0:Int)≤↑i)=true:=by simp
    simp only [h1,h2,Bool.and_self,cond_true,Option.bind_some]
    cases h3:X3 0 40000 [l[i].Day]
    ·cases h4:X3 0 4 [l[i].Colour]
     ·by_cases h0:i=0
      ·subst h0
       simp at hP h3
       have h5:¬ l[0].Day≤b:=by omega
       simp [h5];simpa using hR'
      ·have e7:(0:Int)≤(i:Int)-1:=by omega
       have e8:(i:Int)-1<(l.length:Int):=by omega
       have e9:((i:Int)-1).toNat=i-1:=by omega
       have e10:(i:Int)>0:=by omega
       simp only [e7,e8,e9,e10,decide_true,Bool.and_self,cond_true]
       simp only [h0,if_false] at hP
       rw [←hP]
       by_cases h5:l[i].Day≤b
       ·simp [h5]
       ·simp [h5];exact hR'
     ·simp
    ·simp) 0 (-1) (by omega) (by simp)
 ·simp

theorem X6F (b:ZB) (m:Int) (hm:0≤m∧m≤1000000):X4d b m=some (X6E b m 40):=by
 have hm1:IntKind.wrap .i64 (0-m) = -m:=by rw [w64]<;>omega
 unfold X4d X6E
 rw [WB _ _ _ (by simp),hm1]
 simp only [Option.bind_some]
 cases hb:X3 (-m) m [b.X.Lo,b.X.Hi,b.Y.Lo,b.Y.Hi]
 ·simp at hb
  have h1:IntKind.wrap .i64 (b.X.Hi-b.X.Lo)=b.X.Hi-b.X.Lo:=by rw [w64]<;>omega
  have h2:IntKind.wrap .i64 (b.Y.Hi-b.Y.Lo)=b.Y.Hi-b.Y.Lo:=by rw [w64]<;>omega
  rw [h1,h2,WB _ _ _ (by simp)]
  simp only [Option.bind_some,cond_false,Bool.false_eq_true,if_false]
  cases X3 0 40 [b.X.Hi-b.X.Lo,b.Y.Hi-b.Y.Lo]<;>simp
 ·simp

def X2f (lo hi:Int):Int→List ZE→Int
 | e,[]=>e
 | e,s::l=>if X3 lo hi [s.Lo,s.Hi] then 7 else X2f lo hi (if s.Lo>s.Hi then 2 else e) l

theorem X2r (l:List ZE) (lo hi:Int) (hl:l.length<1000000):X1G l lo hi=some (X2f lo hi 0 l):=by
 unfold X1G
 exact X4 (XT lo l hi) _ l.length (fun i (b:Int)=>(b,(i:Int))) (fun _ _=>True) (fun i b=>some (X2f lo hi b (l.drop i)))
   (by
    intro b _ R
    simp [XT,W2,X2f])
   (by
    intro i b hi' _ R hR
    simp only [XT,W2]
    rw [List.drop_eq_getElem_cons hi']
    have hw:IntKind.wrap .i64 ((i:Int)+1)=((i+1:Nat):Int):=by rw [w64]<;>omega
    simp only [Int.toNat_natCast,X0 _ _ _ hi',X2f,hw]
    rw [X1f,X1f,WX,WX]
    have h1:decide ((i:Int)<↑l.length)=true:=by simp [hi']
    have h2:decide ((0:Int)≤↑i)=true:=by simp
    simp only [h1,h2,Bool.and_self,cond_true,Option.bind_some]
    have hsplit:X3 lo hi [l[i].Lo,l[i].Hi]=(X3 lo hi [l[i].Lo]||X3 lo hi [l[i].Hi]):=by simp
    rw [hsplit]
    cases h3:X3 lo hi [l[i].Lo]
    ·cases h4:X3 lo hi [l[i].Hi]
     ·by_cases h5:l[i].Lo>l[i].Hi
      ·have:=hR 2 trivial
       simp only [h5];simp;simpa using this
      ·have:=hR b trivial
       simp only [h5];simp;simpa using this
     ·simp
    ·simp) 0 0 (by omega) trivial

theorem X7g (b:ZB) (m w:Int) (hw:0≤w):(let e:=X2f (-m) m 0 [b.X,b.Y];if e=0 then (if b.X.Hi-b.X.Lo>w then 2 else if b.Y.Hi-b.Y.Lo>w then 2 else 0) else e)=X6E b m w:=by
 simp only [X2f,X6E,X3C,X5x,Bool.or_false]
 generalize b.X.Lo=x,b.X.Hi=X,b.Y.Lo=y,b.Y.Hi=Y
 by_cases a1:x < -m∨x>m∨X < -m∨X>m
 ·have e1:(decide (x < -m)||decide (x>m)||(decide (X < -m)||decide (X>m)))=true:=by simp;omega
  have e2:(decide (x < -m)||decide (x>m)||(decide (X < -m)||decide (X>m)||(decide (y < -m)||decide (y>m)||(decide (Y < -m)||decide (Y>m)))))=true:=by simp;omega
  rw [e1,e2];simp
 ·have e1:(decide (x < -m)||decide (x>m)||(decide (X < -m)||decide (X>m)))=false:=by simp;omega
  rw [e1]
  by_cases a2:y < -m∨y>m∨Y < -m∨Y>m
  ·have e2:(decide (y < -m)||decide (y>m)||(decide (Y < -m)||decide (Y>m)))=true:=by simp;omega
   have e3:(decide (x < -m)||decide (x>m)||(decide (X < -m)||decide (X>m)||(decide (y < -m)||decide (y>m)||(decide (Y < -m)||decide (Y>m)))))=true:=by simp;omega
   rw [e3,e2];simp
  ·have e2:(decide (y < -m)||decide (y>m)||(decide (Y < -m)||decide (Y>m)))=false:=by simp;omega
   have e3:(decide (x < -m)||decide (x>m)||(decide (X < -m)||decide (X>m)||(decide (y < -m)||decide (y>m)||(decide (Y < -m)||decide (Y>m)))))=false:=by simp;omega
   rw [e3,e2]
   simp only [Bool.false_eq_true,if_false]
   by_cases b1:Y<y
   ·have e4:(decide (X-x<0)||decide (X-x>w)||(decide (Y-y<0)||decide (Y-y>w)))=true:=by simp;omega
    rw [e4]
    simp [b1]
   ·by_cases b2:X<x
    ·have e4:(decide (X-x<0)||decide (X-x>w)||(decide (Y-y<0)||decide (Y-y>w)))=true:=by simp;omega
     rw [e4]
     simp [b1,b2]
    ·simp only [gt_iff_lt,b1,b2,if_false]
     by_cases b3:X-x>w
     ·have e4:(decide (X-x<0)||decide (w<X-x)||(decide (Y-y<0)||decide (w<Y-y)))=true:=by simp;omega
      rw [e4];simp;omega
     ·by_cases b4:Y-y>w
      ·have e4:(decide (X-x<0)||decide (w<X-x)||(decide (Y-y<0)||decide (w<Y-y)))=true:=by simp;omega
       rw [e4];simp;omega
      ·have e4:(decide (X-x<0)||decide (w<X-x)||(decide (Y-y<0)||decide (w<Y-y)))=false:=by simp;omega
       rw [e4];simp;omega

theorem X7z (lo hi:Int) (b:ZB) (h:X2f lo hi 0 [b.X,b.Y]=0):lo≤b.X.Lo∧b.X.Hi≤hi∧b.X.Lo≤b.X.Hi∧lo≤b.Y.Lo∧b.Y.Hi≤hi∧b.Y.Lo≤b.Y.Hi:=by
 simp only [X2f,X3C,X5x,Bool.or_false] at h
 split at h
 ·simp at h
 ·split at h
  ·simp at h
  ·rename_i h1 h2
   simp at h1 h2
   split at h
   ·simp at h
   ·split at h
    ·simp at h
    ·omega

theorem X6L (b:ZB) (m:Int) (hm:0≤m∧m≤1000000):X4k b (-m) m=some (X6E b m 40):=by
 unfold X4k
 rw [X2r _ _ _ (by simp)]
 rw [←X7g b m 40 (by omega)]
 simp only [Option.bind_some]
 by_cases h:X2f (-m) m 0 [b.X,b.Y]=0
 ·have hb:=X7z _ _ _ h
  have h1:IntKind.wrap .i64 (b.X.Hi-b.X.Lo)=b.X.Hi-b.X.Lo:=by rw [w64]<;>omega
  have h2:IntKind.wrap .i64 (b.Y.Hi-b.Y.Lo)=b.Y.Hi-b.Y.Lo:=by rw [w64]<;>omega
  rw [h1,h2,h]
  by_cases h3:b.X.Hi-b.X.Lo>40
  ·simp [h3]
  ·by_cases h4:b.Y.Hi-b.Y.Lo>40<;>simp [h3,h4]
 ·have h':(X2f (-m) m 0 [b.X,b.Y]==0)=false:=beq_eq_false_iff_ne.2 h
  rw [h',if_neg h];rfl

end Nore
open Go Go.Ab
namespace Nore

theorem X5E {a b:Int} (A B:Int) (h1 : -A≤a) (h2:a≤A) (h3 : -B≤b) (h4:b≤B) : -(A*B)≤a*b∧a*b≤A*B:=by
 have p1:=Int.mul_nonneg (show 0≤A-a by omega) (show 0≤B+b by omega)
 have p2:=Int.mul_nonneg (show 0≤A+a by omega) (show 0≤B-b by omega)
 have p3:=Int.mul_nonneg (show 0≤A-a by omega) (show 0≤B-b by omega)
 have p4:=Int.mul_nonneg (show 0≤A+a by omega) (show 0≤B+b by omega)
 constructor<;>grind

def X2a (p:Nat→Bool):Nat→Nat→Bool
 | _,0=>true
 | i,k+1=>p i&&X2a p (i+1) k

theorem X5K (p:Nat→Bool) (k i:Nat):X2a p i k=true↔∀ j,i≤j→j<i+k→p j=true:=by
 induction k generalizing i with
 | zero=>simp [X2a];intro j h1 h2;omega
 | succ k ih =>
  simp only [X2a,Bool.and_eq_true,ih]
  constructor
  ·rintro ⟨h1,h2⟩ j h3 h4
   by_cases h:j=i
   ·subst h;exact h1
   ·exact h2 j (by omega) (by omega)
  ·intro h
   exact ⟨h i (by omega) (by omega),fun j h1 h2=>h j (by omega) (by omega)⟩

def XK (a b:Zu):Zu:=⟨a.X-b.X,a.Y-b.Y⟩
def X1v (a b:Zu):Int:=a.X*b.Y-a.Y*b.X
def P0:Zu:=⟨0,0⟩
def X6z (l:List Zu) (i:Nat):Bool :=
 X2a (fun m=>m==i||m==(i+1) % l.length||decide (0<X1v (XK (l.getD ((i+1) % l.length) P0) (l.getD i P0)) (XK (l.getD m P0) (l.getD i P0)))) 0 l.length
def X5G (l:List Zu):Bool:=X2a (X6z l) 0 l.length
def X5B (s:CtSand):Int :=
 if X3 3 8 [(s.Corners.length:Int)] then 3 else if s.Corners.any (X38 10000) then 7 else if X6E s.Moves 500 40=0 then (if X5G s.Corners then 0 else 9) else X6E s.Moves 500 40

def Bd (A:Int) (p:Zu):Prop := -A≤p.X∧p.X≤A ∧ -A≤p.Y∧p.Y≤A
theorem X62 (A:Int) (p:Zu):X38 A p=false↔Bd A p:=by
 simp [X38,Bd];omega
theorem X52 {A:Int} {l:List Zu} (h:l.any (X38 A)=false) (i:Nat) (hi:i<l.length):Bd A l[i]:=by
 rw [List.any_eq_false] at h
 rw [←X62]
 simpa using h l[i] (List.getElem_mem hi)

theorem X5U {a b:Int} (A:Int) (hA:A≤1000000) (h1 : -A≤a∧a≤A) (h2 : -A≤b∧b≤A):IntKind.wrap .i64 (a-b)=a-b:=by rw [w64]<;>omega
theorem X7F {a b c d:Int} (A:Int) (hA:A=2000000) (h1 : -A≤a∧a≤A) (h2 : -A≤b∧b≤A) (h3 : -A≤c∧c≤A) (h4 : -A≤d∧d≤A):IntKind.wrap .i64 (IntKind.wrap .i64 (a*b)-IntKind.wrap .i64 (c*d))=a*b-c*d:=by
 subst hA
 have p:=X5E _ _ h1.1 h1.2 h2.1 h2.2
 have q:=X5E _ _ h3.1 h3.2 h4.1 h4.2
 rw [w64 (x:=a*b),w64 (x:=c*d),w64]<;>omega

theorem X6y (l:List Zu) (hl:3≤l.length∧l.length≤8) (hf:l.any (X38 10000)=false) (i:Nat) (hi:i<l.length) :
  X1H (i:Int) l (((i+1) % l.length:Nat):Int) 0=some (if X6z l i then .inr () else .inl false):=by
 have hk:(i+1) % l.length<l.length:=Nat.mod_lt _ (by omega)
 unfold X6z
 generalize hkk:(i+1) % l.length=k at *
 have key:=X5H (Wg (i:Int) l (k:Int)) l.length (fun j (_:Unit)=>(j:Int)) (fun _ _=>True) (fun j _=>some (if X2a (fun m=>m==i||m==k||decide (0<X1v (XK (l.getD k P0) (l.getD i P0)) (XK (l.getD m P0) (l.getD i P0)))) j (l.length-j) then .inr () else .inl false))
  (by
   intro b _ R
   simp [Wg,Wx,X2a])
  (by
   intro m b hm _ R hR
   have hR':=hR () trivial
   rw [show l.length-m=(l.length-(m+1))+1 by omega]
   simp only [X2a]
   simp only [Wg,Wx]
   have hw:IntKind.wrap .i64 ((m:Int)+1)=((m+1:Nat):Int):=by rw [w64]<;>omega
   simp only [Int.toNat_natCast,X0 _ _ _ hm,X0 _ _ _ hi,X0 _ _ _ hk,hw]
   have b1:=X52 hf m hm
   have b2:=X52 hf i hi
   have b3:=X52 hf k hk
   unfold Bd at b1 b2 b3
   rw [X5U 10000 (by omega) ⟨b3.1,b3.2.1⟩ ⟨b2.1,b2.2.1⟩,X5U 10000 (by omega) b1.2.2 b2.2.2,X5U 10000 (by omega) b3.2.2 b2.2.2,X5U 10000 (by omega) ⟨b1.1,b1.2.1⟩ ⟨b2.1,b2.2.1⟩]
   rw [X7F 2000000 rfl (by omega) (by omega) (by omega) (by omega)]
   have d1:decide ((m:Int)<↑l.length)=true:=by simp [hm]
   have d2:decide ((0:Int)≤↑m)=true:=by simp
   have d3:decide ((i:Int)<↑l.length)=true:=by simp [hi]
   have d4:decide ((0:Int)≤↑i)=true:=by simp
   have d5:decide ((k:Int)<↑l.length)=true:=by simp [hk]
   have d6:decide ((0:Int)≤↑k)=true:=by simp
   simp only [d1,d2,d3,d4,d5,d6,Bool.and_self,cond_true]
   change Option.bind (bif ((m:Int) != ↑i) then bif ((m:Int) != ↑k) then bif decide (X1v (XK l[k] l[i]) (XK l[m] l[i])≤0) then _ else _ else _ else _) _=_
   by_cases e1:m=i
   ·have:((m:Int) != (i:Int))=false:=by simp [e1]
    rw [this];simp [e1];simpa [e1,hi,hk] using hR'
   ·have t1:((m:Int) != (i:Int))=true:=by simp;omega
    by_cases e2:m=k
    ·have:((m:Int) != (k:Int))=false:=by simp [e2]
     rw [t1,this];simp [e2];simpa [e2,hi,hk] using hR'
    ·have t2:((m:Int) != (k:Int))=true:=by simp;omega
     rw [t1,t2]
     by_cases e3:X1v (XK l[k] l[i]) (XK l[m] l[i])≤0
     ·have t3:¬ 0<X1v (XK l[k] l[i]) (XK l[m] l[i]):=by omega
      simp [e1,e2,e3,t3]
     ·have t3:0<X1v (XK l[k] l[i]) (XK l[m] l[i]):=by omega
      simp [e1,e2,e3,t3];simpa [hi,hk] using hR')
 have:=key 0 () (by omega) trivial
 simpa [X1H] using this

theorem X6g (l:List Zu) (hl:3≤l.length∧l.length≤8) (hf:l.any (X38 10000)=false):X3i l=some (X5G l):=by
 unfold X3i X5G
 have key:=X4 (Wf l) (fun o103=>Sum.elim (fun y104:Bool=>some y104) (fun _:Unit=>some true) o103) l.length (fun i (_:Unit)=>(i:Int)) (fun _ _=>True) (fun i _=>some (X2a (X6z l) i (l.length-i)))
  (by
   intro b _ R
   simp [Wf,Ww,X2a])
  (by
   intro i b hi _ R hR
   have hR':=hR () trivial
   rw [show l.length-i=(l.length-(i+1))+1 by omega]
   simp only [X2a]
   simp only [Wf,Ww]
   have hw:IntKind.wrap .i64 ((i:Int)+1)=((i+1:Nat):Int):=by rw [w64]<;>omega
   have hm:Int.tmod ((i+1:Nat):Int) (l.length:Int)=(((i+1) % l.length:Nat):Int):=rfl
   have d1:decide ((i:Int)<↑l.length)=true:=by simp [hi]
   have d2:((l.length:Int)==0)=false:=by simp;intro h;simp [h] at hl
   simp only [hw,hm,d1,d2,cond_true,cond_false]
   rw [X6y l hl hf i hi]
   simp only [Option.bind_some]
   cases h:X6z l i
   ·simp
   ·simp;simpa using hR')
 exact (key 0 () (by omega) trivial).trans (by simp)

theorem X6w (s:CtSand):X3S s=some (X5B s):=by
 unfold X3S X5B
 rw [X1f,WX]
 simp only [Option.bind_some]
 cases hb:X3 3 8 [(s.Corners.length:Int)]
 ·have hl:3≤s.Corners.length∧s.Corners.length≤8:=by simp at hb;omega
  simp only [Bool.not_false,Bool.not_true,cond_false,Bool.false_eq_true,if_false]
  have key:=X5H (XV s) s.Corners.length (fun i (_:Unit)=>(i:Int)) (fun _ _=>True) (fun i _=>some (if (s.Corners.drop i).any (X38 10000) then .inl 7 else .inr ()))
   (by
    intro b _ R
    simp [XV,WR])
   (by
    intro i b hi _ R hR
    have hR':=hR () trivial
    simp only [XV,WR]
    rw [List.drop_eq_getElem_cons hi]
    have hw:IntKind.wrap .i64 ((i:Int)+1)=((i+1:Nat):Int):=by rw [w64]<;>omega
    simp only [Int.toNat_natCast,X0 _ _ _ hi,List.any_cons,hw]
    rw [X4G _ _ (by omega)]
    have h1:decide ((i:Int)<↑s.Corners.length)=true:=by simp [hi]
    have h2:decide ((0:Int)≤↑i)=true:=by simp
    simp only [h1,h2,Bool.and_self,cond_true,Option.bind_some]
    by_cases h3:X38 10000 s.Corners[i]=true
    ·simp [h3]
    ·simp [h3];simpa using hR')
  have k0:=key 0 () (by omega) trivial
  simp only [List.drop_zero,Int.natCast_zero] at k0
  unfold X2Z
  have k0':Z8S (XV s) 0=some (if s.Corners.any (X38 10000) then .inl 7 else .inr ()):=k0
  rw [k0']
  simp only [Option.bind_some]
  cases hf:s.Corners.any (X38 10000)
  ·simp only [Bool.false_eq_true,if_false,Sum.elim_inr]
   rw [X6L _ _ (by omega),X6g _ hl hf]
   simp only [Option.bind_some]
   by_cases h:X6E s.Moves 500 40=0
   ·rw [h]
    cases X5G s.Corners<;>simp
   ·simp [h,X58 h]
  ·simp
 ·simp

end Nore
open Go Go.Ab
namespace Nore

theorem X7X {α:Type} (P:α→Bool) (l:List α):l.countP P=0↔∀ m,(h:m<l.length)→P l[m]=false:=by
 rw [List.countP_eq_zero]
 constructor
 ·intro h m hm;simpa using h l[m] (List.getElem_mem hm)
 ·intro h a ha
  obtain ⟨m,hm,rfl⟩:=List.getElem_of_mem ha
  simp [h m hm]

theorem X7R {α:Type} (P:α→Bool) (l:List α):∀ i,(hi:i<l.length)→P l[i]=true→(l.countP P=1↔∀ m,(h:m<l.length)→m≠i→P l[m]=false):=by
 induction l with
 | nil=>intro i hi;simp at hi
 | cons a t ih =>
  intro i hi hP
  cases i with
  | zero =>
   simp only [List.getElem_cons_zero] at hP
   rw [List.countP_cons_of_pos hP]
   rw [show (t.countP P+1=1)↔t.countP P=0 by omega,X7X]
   constructor
   ·intro h m hm hne
    cases m with
    | zero=>exact absurd rfl hne
    | succ m=>simpa using h m (by simpa using hm)
   ·intro h m hm
    exact h (m+1) (by simpa using hm) (by omega)
  | succ i =>
   simp only [List.getElem_cons_succ] at hP
   have hi':i<t.length:=by simpa using hi
   have hpos:0<t.countP P:=by
    rw [List.countP_pos_iff];exact ⟨t[i],List.getElem_mem hi',hP⟩
   have ih':=ih i hi' hP
   cases ha:P a
   ·rw [List.countP_cons_of_neg (by simp [ha]),ih']
    constructor
    ·intro h m hm hne
     cases m with
     | zero=>simpa using ha
     | succ m=>simpa using h m (by simpa using hm) (by omega)
    ·intro h m hm hne
     exact h (m+1) (by simpa using hm) (by omega)
   ·rw [List.countP_cons_of_pos ha]
    constructor
    ·intro h;omega
    ·intro h
     have:=h 0 (by simp) (by omega)
     simp [ha] at this

theorem X7S {α:Type} (P:α→Bool) (l:List α):∀ i k,(hi:i<l.length)→(hk:k<l.length)→i<k→P l[i]=true→P l[k]=true→(l.countP P=2↔∀ m,(h:m<l.length)→m≠i→m≠k→P l[m]=false):=by
 induction l with
 | nil=>intro i k hi;simp at hi
 | cons a t ih =>
  intro i k hi hk hik hP hQ
  cases k with
  | zero=>omega
  | succ k =>
   simp only [List.getElem_cons_succ] at hQ
   have hk':k<t.length:=by simpa using hk
   cases i with
   | zero =>
    simp only [List.getElem_cons_zero] at hP
    rw [List.countP_cons_of_pos hP]
    rw [show (t.countP P+1=2)↔t.countP P=1 by omega,X7R P t k hk' hQ]
    constructor
    ·intro h m hm hne hne2
     cases m with
     | zero=>exact absurd rfl hne
     | succ m=>simpa using h m (by simpa using hm) (by omega)
    ·intro h m hm hne
     exact h (m+1) (by simpa using hm) (by omega) (by omega)
   | succ i =>
    simp only [List.getElem_cons_succ] at hP
    have hi':i<t.length:=by simpa using hi
    have ih':=ih i k hi' hk' (by omega) hP hQ
    cases ha:P a
    ·rw [List.countP_cons_of_neg (by simp [ha]),ih']
     constructor
     ·intro h m hm hne hne2
      cases m with
      | zero=>simpa using ha
      | succ m=>simpa using h m (by simpa using hm) (by omega) (by omega)
     ·intro h m hm hne hne2
      exact h (m+1) (by simpa using hm) (by omega) (by omega)
    ·have hpos:2≤t.countP P:=by
      have h1:=X7R P t i hi' hP
      have:0<t.countP P:=by
       rw [List.countP_pos_iff];exact ⟨t[i],List.getElem_mem hi',hP⟩
      by_cases e:t.countP P=1
      ·have:=h1.1 e k hk' (by omega)
       simp [hQ] at this
      ·omega
     rw [List.countP_cons_of_pos ha]
     constructor
     ·intro h;omega
     ·intro h
      have:=h 0 (by simp) (by omega) (by omega)
      simp [ha] at this

def X3M (l:List Zu) (a b:Zu):Bool :=
 (l.countP fun p=>decide (X1v (XK b a) (XK p a)≤0))==2 && !((b.X-a.X==0)&&(b.Y-a.Y==0))
def X4c (l:List Zu):Zu→List Zu→Bool
 | _,[]=>true
 | last,p::r=>X3M l last p&&X4c l p r

theorem X7s (a b:Zu):X1v (XK b a) (XK b a)=0:=by simp [X1v,Int.mul_comm]
theorem X7t (a b:Zu):X1v (XK b a) (XK a a)=0:=by simp [X1v,XK]

theorem X6I (l:List Zu) (hl:3≤l.length) (i k:Nat) (hi:i<l.length) (hk:k<l.length) (hne:i≠k) :
  X3M l l[i] l[k]=X2a (fun m=>m==i||m==k||decide (0<X1v (XK (l.getD k P0) (l.getD i P0)) (XK (l.getD m P0) (l.getD i P0)))) 0 l.length:=by
 rw [Bool.eq_iff_iff,X5K]
 have hPi:decide (X1v (XK l[k] l[i]) (XK l[i] l[i])≤0)=true:=by rw [X7t];rfl
 have hPk:decide (X1v (XK l[k] l[i]) (XK l[k] l[i])≤0)=true:=by rw [X7s];rfl
 have hc:(l.countP fun p=>decide (X1v (XK l[k] l[i]) (XK p l[i])≤0))=2↔∀ m,(h:m<l.length)→m≠i→m≠k→decide (X1v (XK l[k] l[i]) (XK l[m] l[i])≤0)=false:=by
  by_cases hik:i<k
  ·exact X7S (fun p=>decide (X1v (XK l[k] l[i]) (XK p l[i])≤0)) l i k hi hk hik hPi hPk
  ·have:=X7S (fun p=>decide (X1v (XK l[k] l[i]) (XK p l[i])≤0)) l k i hk hi (by omega) hPk hPi
   rw [this]
   constructor
   ·intro h m hm h1 h2;exact h m hm h2 h1
   ·intro h m hm h1 h2;exact h m hm h2 h1
 simp only [X3M,Bool.and_eq_true,beq_iff_eq,hc]
 constructor
 ·rintro ⟨h,_⟩ m _ hm
  have hm':m<l.length:=by omega
  by_cases e1:m=i
  ·simp [e1]
  ·by_cases e2:m=k
   ·simp [e2]
   ·have:=h m hm' e1 e2
    simp only [X0 _ _ _ hm',X0 _ _ _ hi,X0 _ _ _ hk]
    simp at this
    simp [this]
 ·intro h
  have h':∀ m,(hm:m<l.length)→m≠i→m≠k→0<X1v (XK l[k] l[i]) (XK l[m] l[i]):=fun m hm e1 e2=>by
   have:=h m (by omega) (by omega)
   simp only [X0 _ _ _ hm,X0 _ _ _ hi,X0 _ _ _ hk] at this
   simpa [e1,e2] using this
  refine ⟨fun m hm e1 e2 => ?_,?_⟩
  ·have:=h' m hm e1 e2
   simp;omega
  ·have:∃ m,m<l.length∧m≠i∧m≠k:=by
    by_cases a0:0≠i∧0≠k
    ·exact ⟨0,by omega,a0⟩
    ·by_cases a1:1≠i∧1≠k
     ·exact ⟨1,by omega,a1⟩
     ·exact ⟨2,by omega,by omega,by omega⟩
   obtain ⟨m,hm,e1,e2⟩:=this
   have:=h' m hm e1 e2
   rw [Bool.not_eq_true',Bool.eq_false_iff]
   intro hz
   simp only [Bool.and_eq_true,beq_iff_eq] at hz
   simp [X1v,XK,hz.1,hz.2] at this

theorem X7f (l:List Zu):∀ k i,i+k=l.length→1≤i→(hi:i-1<l.length)→(X4c l l[i-1] (l.drop i)=true↔∀ j,(h1:i≤j)→(h2:j<l.length)→X3M l l[j-1] l[j]=true):=by
 intro k
 induction k with
 | zero =>
  intro i hk h1 hi
  rw [List.drop_eq_nil_of_le (by omega)]
  simp [X4c]
  intro j h1 h2;omega
 | succ k ih =>
  intro i hk h1 hi
  have hi2:i<l.length:=by omega
  rw [List.drop_eq_getElem_cons hi2]
  simp only [X4c,Bool.and_eq_true]
  have:=ih (i+1) (by omega) (by omega) (by omega)
  simp only [Nat.add_sub_cancel] at this
  rw [this]
  constructor
  ·rintro ⟨g,h⟩ j a b
   by_cases e:j=i
   ·subst e;exact g
   ·exact h j (by omega) b
  ·intro h
   exact ⟨h i (by omega) hi2,fun j a b=>h j (by omega) b⟩

theorem X71 (l:List Zu) (hl:3≤l.length):X4c l (l.getD (l.length-1) P0) l=X5G l:=by
 rw [Bool.eq_iff_iff]
 have e:X4c l (l.getD (l.length-1) P0) l=(X3M l l[l.length-1] l[0]&&X4c l l[1-1] (l.drop 1)):=by
  conv=>lhs;rw [show l=l[0]::l.drop 1 by rw [←List.drop_eq_getElem_cons (by omega)];rfl]
  rw [←show l=l[0]::l.drop 1 by rw [←List.drop_eq_getElem_cons (by omega)];rfl]
  rw [X0 _ _ _ (by omega)]
  conv=>lhs;arg 3;rw [show l=l[0]::l.drop 1 by rw [←List.drop_eq_getElem_cons (by omega)];rfl]
  rfl
 rw [e]
 simp only [Bool.and_eq_true]
 rw [X7f l (l.length-1) 1 (by omega) (by omega) (by omega)]
 unfold X5G
 rw [X5K]
 have hside:∀ i,(hi:i<l.length)→X6z l i=X3M l l[i] (l[(i+1) % l.length]'(Nat.mod_lt _ (by omega))):=fun i hi=>by
  have hk:(i+1) % l.length<l.length:=Nat.mod_lt _ (by omega)
  have hne:i≠(i+1) % l.length:=by
   by_cases h:i+1<l.length
   ·rw [Nat.mod_eq_of_lt h];omega
   ·have:i+1=l.length:=by omega
    rw [this,Nat.mod_self];omega
  rw [X6I l hl i _ hi hk hne]
  rfl
 constructor
 ·rintro ⟨h0,h⟩ i _ hi
  have hi':i<l.length:=by omega
  rw [hside i hi']
  by_cases hh:i+1<l.length
  ·have:=h (i+1) (by omega) hh
   simp only [Nat.mod_eq_of_lt hh]
   simpa using this
  ·have e1:i=l.length-1:=by omega
   subst e1
   simp only [show l.length-1+1=l.length by omega,Nat.mod_self]
   exact h0
 ·intro h
  constructor
  ·have:=h (l.length-1) (by omega) (by omega)
   rw [hside _ (by omega)] at this
   simpa only [show l.length-1+1=l.length by omega,Nat.mod_self] using this
  ·intro j h1 h2
   have:=h (j-1) (by omega) (by omega)
   rw [hside _ (by omega)] at this
   simpa only [show j-1+1=j by omega,Nat.mod_eq_of_lt h2] using this

theorem X5V (l:List Zu) (hl:l.length≤8) (hf:l.any (X38 10000)=false) (x4:Z8) (x5:Bool) (x6:Int) (x7:Bool) (x8:Z8) (x9:Bool) (x10:Int) (x11:Z8) (s:Z6) (a b:Zu) (ha:Bd 10000 a) (hb:Bd 10000 b) (hs:s=⟨a,XK b a⟩) :
  W6 (↑l.length) l x4 x5 x6 x7 x8 x9 x10 x11 s (0,0)=some ((l.countP fun p=>decide (X1v (XK b a) (XK p a)≤0):Nat):Int):=by
 subst hs
 unfold Bd at ha hb
 have key:=X5H (Xd (↑l.length) l x4 x5 x6 x7 x8 x9 x10 x11 ⟨a,XK b a⟩) l.length (fun i (c:Nat)=>((c:Int),(i:Int))) (fun i c=>c≤i) (fun i c=>some (((c+(l.drop i).countP fun p=>decide (X1v (XK b a) (XK p a)≤0):Nat)):Int))
  (by
   intro b _ R
   simp [Xd,Xk])
  (by
   intro i c hi hc R hR
   simp only [Xd,Xk]
   rw [List.drop_eq_getElem_cons hi]
   have hw:IntKind.wrap .i64 ((i:Int)+1)=((i+1:Nat):Int):=by rw [w64]<;>omega
   have hw2:IntKind.wrap .i64 ((c:Int)+1)=((c+1:Nat):Int):=by rw [w64]<;>omega
   have bp:=X52 hf i hi
   unfold Bd at bp
   simp only [Int.toNat_natCast,X0 _ _ _ hi,hw,hw2,XK]
   rw [X5U 10000 (by omega) bp.2.2 ha.2.2,X5U 10000 (by omega) ⟨bp.1,bp.2.1⟩ ⟨ha.1,ha.2.1⟩]
   rw [X7F 2000000 rfl (by omega) (by omega) (by omega) (by omega)]
   have h1:decide ((i:Int)<↑l.length)=true:=by simp [hi]
   have h2:decide ((0:Int)≤↑i)=true:=by simp
   simp only [h1,h2,Bool.and_self,cond_true]
   change Option.bind (bif decide (X1v (XK b a) (XK l[i] a)≤0) then _ else _) _=_
   change _=some (((c+List.countP (fun p=>decide (X1v (XK b a) (XK p a)≤0)) (l[i]::List.drop (i+1) l):Nat)):Int)
   by_cases h:X1v (XK b a) (XK l[i] a)≤0
   ·rw [List.countP_cons_of_pos (by simpa using h)]
    simp only [h,decide_true,cond_true,Option.bind_some,Sum.elim_inl]
    rw [hR (c+1) (by omega)]
    congr 1
    show ((_:Nat):Int)=((_:Nat):Int)
    congr 1
    show c+1+_=c+(_+1)
    simp only [XK]
    omega
   ·rw [List.countP_cons_of_neg (by simpa using h)]
    simp only [h,decide_false,cond_false,Option.bind_some,Sum.elim_inl]
    rw [hR c (by omega)])
 have:=key 0 0 (by omega) (by omega)
 simpa [W6] using this

theorem X56 (s:Z8):X1q s=some (X5B s.CtSand):=by
 obtain ⟨s⟩:=s
 unfold X1q X5B
 rw [WB _ _ _ (by simp)]
 simp only [Option.bind_some]
 cases hb:X3 3 8 [(s.Corners.length:Int)]
 ·have hl:3≤s.Corners.length∧s.Corners.length≤8:=by simp at hb;omega
  simp only [cond_false,Bool.false_eq_true,if_false]
  rw [X4q _ (by omega) _ (by omega)]
  simp only [Option.bind_some]
  cases hf:s.Corners.any (X38 10000)
  ·simp only [cond_false,Bool.false_eq_true,if_false]
   rw [X6F _ _ (by omega)]
   simp only [Option.bind_some]
   by_cases h:X6E s.Moves 500 40=0
   ·have hw:IntKind.wrap .i64 ((s.Corners.length:Int)-1)=(s.Corners.length:Int)-1:=by rw [w64]<;>omega
    have ht:((s.Corners.length:Int)-1).toNat=s.Corners.length-1:=by omega
    have h1:decide ((0:Int)≤(s.Corners.length:Int)-1)=true:=by simp;omega
    have h2:decide ((s.Corners.length:Int)-1<(s.Corners.length:Int))=true:=by simp;omega
    simp only [h,hw,ht,h1,h2,bne_self_eq_false,cond_false,Bool.and_self,cond_true,if_true]
    rw [←X71 _ hl.1]
    have hlast:Bd 10000 (s.Corners.getD (s.Corners.length-1) P0):=by
     rw [X0 _ _ _ (by omega)];exact X52 hf _ (by omega)
    refine (X4 (Xc (↑s.Corners.length) s.Corners ⟨s⟩ false 0 false ⟨s⟩ false 0 ⟨s⟩ [(↑s.Corners.length:Int)]) _ s.Corners.length (fun i (b:Zu)=>((i:Int),b)) (fun _ b=>Bd 10000 b) (fun i b=>some (if X4c s.Corners b (s.Corners.drop i) then 0 else 9)) ?_ ?_ 0 _ (by omega) hlast).trans (by simp)
    ·intro b _ R
     simp [Xc,Xj,X4c]
    ·intro i b hi hP R hR
     have bp:=X52 hf i hi
     have hR':=hR s.Corners[i] bp
     simp only [Xc,Xj]
     rw [List.drop_eq_getElem_cons hi]
     have hw:IntKind.wrap .i64 ((i:Int)+1)=((i+1:Nat):Int):=by rw [w64]<;>omega
     simp only [Int.toNat_natCast,X0 _ _ _ hi,hw,X4c]
     have bp':=bp
     have hP':=hP
     unfold Bd at bp' hP'
     rw [X5U 10000 (by omega) bp'.2.2 hP'.2.2,X5U 10000 (by omega) ⟨bp'.1,bp'.2.1⟩ ⟨hP'.1,hP'.2.1⟩]
     rw [X5V s.Corners hl.2 hf _ _ _ _ _ _ _ _ ⟨⟨b.X,b.Y⟩,⟨s.Corners[i].X-b.X,s.Corners[i].Y-b.Y⟩⟩ b s.Corners[i] hP bp rfl]
     have h1:decide ((i:Int)<↑s.Corners.length)=true:=by simp [hi]
     have h2:decide ((0:Int)≤↑i)=true:=by simp
     simp only [h1,h2,Bool.and_self,cond_true,Option.bind_some]
     have hg:X3M s.Corners b s.Corners[i]=((s.Corners.countP fun p=>decide (X1v (XK s.Corners[i] b) (XK p b)≤0))==2 && !((s.Corners[i].X-b.X==0)&&(s.Corners[i].Y-b.Y==0))):=rfl
     generalize (s.Corners.countP fun p=>decide (X1v (XK s.Corners[i] b) (XK p b)≤0))=c at hg ⊢
     by_cases h3:c=2
     ·subst h3
      cases h4:(s.Corners[i].X-b.X==0)
      ·simp only [h4,Bool.false_and,Bool.not_false,Bool.and_true,beq_self_eq_true] at hg
       simp [hg];simpa using hR'
      ·cases h5:(s.Corners[i].Y-b.Y==0)
       ·simp only [h4,h5,Bool.and_false,Bool.not_false,Bool.and_true,beq_self_eq_true] at hg
        simp [hg];simpa using hR'
       ·simp only [h4,h5,Bool.and_self,Bool.not_true,Bool.and_false] at hg
        simp [hg]
     ·have h3':(((c:Nat):Int) != 2)=true:=by simp;omega
      have h3'':(c==2)=false:=by simp [h3]
      rw [h3'',Bool.false_and] at hg
      simp [h3',hg]
   ·rw [X1j h,if_neg h];rfl
  ·simp
 ·simp

end Nore
open Go Go.Ab
namespace Nore

theorem Z7X (a b:ByteArray):(a==b)=(a.data==b.data):=by cases a;cases b;rfl
instance:LawfulBEq ByteArray where
 rfl:=by intro a;rw [Z7X];simp
 eq_of_beq:=by
  intro a b h
  rw [Z7X] at h
  have:=eq_of_beq h
  cases a;cases b
  simp only at this
  rw [this]
instance:DecidableEq ByteArray:=fun a b=>if h:(a==b)=true then isTrue (eq_of_beq h) else isFalse (fun e=>h (by rw [e];simp))

theorem X5o {v:Int} (s k:ByteArray):∀ m:List (ByteArray×Int),Z8z (fun a b=>a==b) s (Zgh (fun a b=>a==b) k v m)=if s=k then some v else Z8z (fun a b=>a==b) s m
 | []=>by
  by_cases h:s=k
  ·simp [Zgh,Z8z,h]
  ·have h':(s==k)=false:=beq_eq_false_iff_ne.2 h
   simp [Zgh,Z8z,h,h']
 | (k',v')::m=>by
  have ih:=X5o s k m (v:=v)
  simp only [Zgh]
  by_cases h1:k=k'
  ·subst h1
   simp only [beq_self_eq_true,cond_true,Z8z]
   by_cases h:s=k
   ·simp [h]
   ·have h':(s==k)=false:=beq_eq_false_iff_ne.2 h
    simp [h,h']
  ·have:(k==k')=false:=by simp [h1]
   simp only [this,cond_false,Z8z]
   by_cases h2:s=k'
   ·subst h2
    have h3:s≠k:=fun h=>h1 h.symm
    simp [h3]
   ·have:(s==k')=false:=by simp [h2]
    simp only [this,cond_false,ih]

def WD (s:ByteArray) (names:List ByteArray):Int:=if X4W s then (if s∈names then 5 else 0) else 6

theorem X5p {a b:ByteArray} (h:a.toList=b.toList):a=b:=by
 cases a;cases b
 simp only [ByteArray.toList_eq] at h
 congr 1
 exact Array.ext' h

theorem X3P (s:ByteArray) (names:List ByteArray) (hl:names.length<1000000):X26 s names=some (WD s names):=by
 unfold X26 WD
 rw [X6v]
 simp only [Option.bind_some]
 cases X4W s
 ·simp
 ·simp only [Bool.not_true,cond_false,if_true]
  unfold X45
  have key:=X4 (XG s names) (fun o78=>Option.bind (Sum.elim (fun y79:Int=>some y79) (fun _:Unit=>some (-1)) o78) fun r82=>bif decide (r82≥0) then some (5:Int) else some 0) names.length (fun i (_:Unit)=>(i:Int)) (fun _ _=>True) (fun i _=>some (if s∈names.drop i then 5 else 0))
   (by
    intro b _ R
    simp [XG,Wv])
   (by
    intro i b hi _ R hR
    have hR':=hR () trivial
    simp only [XG,Wv]
    rw [List.drop_eq_getElem_cons hi]
    have hw:IntKind.wrap .i64 ((i:Int)+1)=((i+1:Nat):Int):=by rw [w64]<;>omega
    simp only [Int.toNat_natCast,X0 _ _ _ hi,hw]
    have h1:decide ((i:Int)<↑names.length)=true:=by simp [hi]
    have h2:decide ((0:Int)≤↑i)=true:=by simp
    simp only [h1,h2,Bool.and_self,cond_true]
    by_cases h:names[i]=s
    ·simp [h]
    ·have h':(names[i].toList==s.toList)=false:=by
      simp only [beq_eq_false_iff_ne];intro hh;exact h (X5p hh)
     have h'':¬ s=names[i]:=fun hh=>h hh.symm
     simp only [h',cond_false,Option.bind_some,Sum.elim_inl,List.mem_cons,h'',false_or]
     exact hR')
  have:=key 0 () (by omega) trivial
  simp only [List.drop_zero] at this
  rw [←this]
  show Option.bind (Option.bind _ _) _=Option.bind _ _
  unfold X2v
  simp only [Int.natCast_zero]
  cases Z8S (XG s names) 0<;>rfl

def X35 (m:Zw) (names:List ByteArray):Int:=if WD m.Name names=0 then (if X38 30000 m.At then 7 else X2X m.Paints) else WD m.Name names
def X4H (s:CtSand) (names:List ByteArray):Int:=if WD s.Name names=0 then X5B s else WD s.Name names
def X4b:Nat→List ByteArray→List CtSand→Int×Int×Int
 | _,_,[]=>(0,0,0)
 | i,names,s::l=>if X4H s names=0 then X4b (i+1) (names++[s.Name]) l else (2,(i:Int),X4H s names)
def X4a (sands:List CtSand):Nat→List ByteArray→List Zw→Int×Int×Int
 | _,names,[]=>if 4<sands.length then (2,0,3) else X4b 0 names sands
 | i,names,m::l=>if X35 m names=0 then X4a sands (i+1) (names++[m.Name]) l else (1,(i:Int),X35 m names)
def X3o (c:Zl):Int×Int×Int:=if 8<c.Marks.length then (1,0,3) else X4a c.Sands 0 [] c.Marks

def Z2P (m:List (ByteArray×Int)) (names:List ByteArray):Prop:=∀ s,Option.getD (Z8z (fun a b=>a==b) s m) 0=if s∈names then 1 else 0

theorem X6U {m:List (ByteArray×Int)} {names:List ByteArray} (h:Z2P m names) (s:ByteArray) (hs:s∉names):Z2P (Zgh (fun a b=>a==b) s (IntKind.wrap .i64 (Option.getD (Z8z (fun a b=>a==b) s m) 0+1)) m) (names++[s]):=by
 intro t
 rw [X5o,h s,if_neg hs]
 by_cases e:t=s
 ·simp [e];rfl
 ·simp [e];simpa using h t

theorem X6a {m:List (ByteArray×Int)} {names:List ByteArray} (h:Z2P m names) (s:ByteArray):decide (Option.getD (Z8z (fun a b=>a==b) s (Zgh (fun a b=>a==b) s (IntKind.wrap .i64 (Option.getD (Z8z (fun a b=>a==b) s m) 0+1)) m)) 0>1)=decide (s∈names):=by
 rw [X5o,h s]
 simp only [if_true,Option.getD_some]
 by_cases e:s∈names
 ·simp only [e,if_true];rfl
 ·simp only [e,if_false];rfl

theorem X6R (c:Zl) (hl:c.Sands.length≤4) (m:List (ByteArray×Int)) (names:List ByteArray) (hm:Z2P m names) (k:_→Option (Int×Int×Int))
  (hk:k=fun o56=>Sum.elim (fun (y57:Int×Int×Int×(List (ByteArray×Int))×CtSand)=>some (y57.snd.snd.fst,y57.fst,y57.snd.fst)) (fun y58=>Sum.elim (fun (y59:Int×Int×Int×(List (ByteArray×Int))×CtSand)=>some (y59.snd.snd.fst,y59.fst,y59.snd.fst)) (fun y60=>Sum.elim (fun (y61:Int×Int×Int×(List (ByteArray×Int))×CtSand)=>some (y61.snd.snd.fst,y61.fst,y61.snd.fst)) (fun (_:List (ByteArray×Int))=>some (0,0,0)) y60) y58) o56) :
  Option.bind (X1A (↑c.Sands.length) c.Sands c (0,m)) k=some (X4b 0 names c.Sands):=by
 subst hk
 unfold X1A
 exact X4 (W5 (↑c.Sands.length) c.Sands c) _ c.Sands.length (fun i (b:List (ByteArray×Int)×List ByteArray)=>((i:Int),b.1)) (fun _ b=>Z2P b.1 b.2) (fun i b=>some (X4b i b.2 (c.Sands.drop i)))
  (by
   intro b _ R
   simp [W5,Wn,X4b])
  (by
   intro i b hi hP R hR
   simp only [W5,Wn]
   rw [List.drop_eq_getElem_cons hi]
   have hw:IntKind.wrap .i64 ((i:Int)+1)=((i+1:Nat):Int):=by rw [w64]<;>omega
   simp only [Int.toNat_natCast,X0 _ _ _ hi,hw,X4b]
   rw [X49,X56,X6a hP]
   have h1:decide ((i:Int)<↑c.Sands.length)=true:=by simp [hi]
   have h2:decide ((0:Int)≤↑i)=true:=by simp
   simp only [h1,h2,Bool.and_self,cond_true,Option.bind_some]
   by_cases hn:X4W c.Sands[i].Name=true
   ·by_cases he:c.Sands[i].Name∈b.2
    ·have hE:X4H c.Sands[i] b.2=5:=by simp [X4H,WD,hn,he]
     simp [hn,he,hE]
    ·have e0:(⟨c.Sands[i].Name,c.Sands[i].Corners,c.Sands[i].Moves⟩:CtSand)=c.Sands[i]:=rfl
     have hE:X4H c.Sands[i] b.2=X5B c.Sands[i]:=by simp [X4H,WD,hn,he]
     rw [e0]
     simp only [hn,he,Bool.not_true,decide_false,cond_false,hE]
     by_cases hs:X5B c.Sands[i]=0
     ·simp only [hs,bne_self_eq_false,cond_false,if_true,Option.bind_some,Sum.elim_inl]
      exact hR (_,b.2++[c.Sands[i].Name]) (X6U hP _ he)
     ·simp [hs,X1j hs]
   ·have hE:X4H c.Sands[i] b.2=6:=by simp [X4H,WD,hn]
    simp [hn,hE]) 0 (m,names) (by omega) hm

theorem X4K (c:Zl):X2z c=some (X3o c):=by
 unfold X2z X3o
 by_cases h8:8<c.Marks.length
 ·have:decide ((c.Marks.length:Int)>8)=true:=by simp;omega
  rw [this];simp [h8]
 ·have:decide ((c.Marks.length:Int)>8)=false:=by simp;omega
  rw [this]
  simp only [cond_false,h8,if_false]
  exact X4 (W4 (↑c.Marks.length) c.Marks c) _ c.Marks.length (fun i (b:List (ByteArray×Int)×List ByteArray)=>((i:Int),b.1)) (fun _ b=>Z2P b.1 b.2) (fun i b=>some (X4a c.Sands i b.2 (c.Marks.drop i)))
   (by
    intro b hP R
    simp only [W4,Wm]
    have h1:decide ((c.Marks.length:Int)<↑c.Marks.length)=false:=by simp
    simp only [h1,cond_false,Option.bind_some,Sum.elim_inr,List.drop_length,X4a]
    by_cases h4:4<c.Sands.length
    ·have:decide ((c.Sands.length:Int)>4)=true:=by simp;omega
     rw [this];simp [h4]
    ·have:decide ((c.Sands.length:Int)>4)=false:=by simp;omega
     rw [this]
     simp only [cond_false,h4,if_false]
     exact X6R c (by omega) _ _ hP _ rfl)
   (by
    intro i b hi hP R hR
    simp only [W4,Wm]
    rw [List.drop_eq_getElem_cons hi]
    have hw:IntKind.wrap .i64 ((i:Int)+1)=((i+1:Nat):Int):=by rw [w64]<;>omega
    simp only [Int.toNat_natCast,X0 _ _ _ hi,hw,X4a]
    rw [X49,X5W,X6a hP,X4q _ (by omega) _ (by simp)]
    have h1:decide ((i:Int)<↑c.Marks.length)=true:=by simp [hi]
    have h2:decide ((0:Int)≤↑i)=true:=by simp
    simp only [h1,h2,Bool.and_self,cond_true,Option.bind_some,List.any_cons,List.any_nil,Bool.or_false]
    by_cases hn:X4W c.Marks[i].Name=true
    ·by_cases he:c.Marks[i].Name∈b.2
     ·have hE:X35 c.Marks[i] b.2=5:=by simp [X35,WD,hn,he]
      simp [hn,he,hE]
     ·by_cases hfar:X38 30000 c.Marks[i].At=true
      ·have hE:X35 c.Marks[i] b.2=7:=by simp [X35,WD,hn,he,hfar]
       simp [hn,he,hfar,hE]
      ·have hE:X35 c.Marks[i] b.2=X2X c.Marks[i].Paints:=by simp [X35,WD,hn,he,hfar]
       simp only [hn,he,hfar,Bool.not_true,decide_false,cond_false,hE]
       by_cases hs:X2X c.Marks[i].Paints=0
       ·simp only [hs,bne_self_eq_false,cond_false,if_true,Option.bind_some,Sum.elim_inl]
        exact hR (_,b.2++[c.Marks[i].Name]) (X6U hP _ he)
       ·simp [hs,X1j hs]
    ·have hE:X35 c.Marks[i] b.2=6:=by simp [X35,WD,hn]
     simp [hn,hE]) 0 ([],[]) (by omega) (by intro s;simp [Z8z])

theorem X6Y (c:Zl) (hl:c.Sands.length≤4) (names:List ByteArray) (hm:names.length≤8) (k:_→Option (Int×Int×Int))
  (hk:k=fun o134=>Sum.elim (fun (y135:Int×Int×Int×(List ByteArray)×(List ByteArray))=>some (y135.snd.snd.fst,y135.fst,y135.snd.fst)) (fun y136=>Sum.elim (fun (y137:Int×Int×Int×(List ByteArray)×(List ByteArray))=>some (y137.snd.snd.fst,y137.fst,y137.snd.fst)) (fun (_:List ByteArray)=>some (0,0,0)) y136) o134) :
  Option.bind (X1F c (0,names)) k=some (X4b 0 names c.Sands):=by
 subst hk
 unfold X1F
 exact X4 (We c) _ c.Sands.length (fun i (b:List ByteArray)=>((i:Int),b)) (fun i b=>b.length≤8+i) (fun i b=>some (X4b i b (c.Sands.drop i)))
  (by
   intro b _ R
   simp [We,Wu,X4b])
  (by
   intro i b hi hP R hR
   simp only [We,Wu]
   rw [List.drop_eq_getElem_cons hi]
   have hw:IntKind.wrap .i64 ((i:Int)+1)=((i+1:Nat):Int):=by rw [w64]<;>omega
   simp only [Int.toNat_natCast,X0 _ _ _ hi,hw,X4b]
   rw [X3P _ _ (by omega),X6w]
   have h1:decide ((i:Int)<↑c.Sands.length)=true:=by simp [hi]
   have h2:decide ((0:Int)≤↑i)=true:=by simp
   have h3:Nat.ble ((b.length+[c.Sands[i].Name].length)*(16+1)) 200000000000000=true:=by
    rw [Nat.ble_eq];simp;omega
   simp only [h1,h2,h3,Bool.and_self,cond_true,Option.bind_some]
   by_cases hf:WD c.Sands[i].Name b=0
   ·have hE:X4H c.Sands[i] b=X5B c.Sands[i]:=by simp [X4H,hf]
    simp only [hf,hE,beq_self_eq_true,cond_true]
    by_cases hs:X5B c.Sands[i]=0
    ·simp only [hs,bne_self_eq_false,cond_false,if_true,Option.bind_some,Sum.elim_inl]
     exact hR (b++[c.Sands[i].Name]) (by simp;omega)
    ·simp [hs,X1j hs]
   ·have hE:X4H c.Sands[i] b=WD c.Sands[i].Name b:=by simp [X4H,hf]
    simp [hE,hf,X58 hf,X1j hf]) 0 names (by omega) (by omega)

theorem X6d (c:Zl):X3g c=some (X3o c):=by
 unfold X3g X3o
 by_cases h8:8<c.Marks.length
 ·have:decide ((c.Marks.length:Int)>8)=true:=by simp;omega
  rw [this];simp [h8]
 ·have:decide ((c.Marks.length:Int)>8)=false:=by simp;omega
  rw [this]
  simp only [cond_false,h8,if_false]
  exact X4 (Wd c) _ c.Marks.length (fun i (b:List ByteArray)=>((i:Int),b)) (fun i b=>b.length≤i) (fun i b=>some (X4a c.Sands i b (c.Marks.drop i)))
   (by
    intro b hP R
    simp only [Wd,Wt]
    have h1:decide ((c.Marks.length:Int)<↑c.Marks.length)=false:=by simp
    simp only [h1,cond_false,Option.bind_some,Sum.elim_inr,List.drop_length,X4a]
    by_cases h4:4<c.Sands.length
    ·have:decide ((c.Sands.length:Int)>4)=true:=by simp;omega
     rw [this];simp [h4]
    ·have:decide ((c.Sands.length:Int)>4)=false:=by simp;omega
     rw [this]
     simp only [cond_false,h4,if_false]
     exact X6Y c (by omega) _ (by omega) _ rfl)
   (by
    intro i b hi hP R hR
    simp only [Wd,Wt]
    rw [List.drop_eq_getElem_cons hi]
    have hw:IntKind.wrap .i64 ((i:Int)+1)=((i+1:Nat):Int):=by rw [w64]<;>omega
    simp only [Int.toNat_natCast,X0 _ _ _ hi,hw,X4a]
    rw [X3P _ _ (by omega),X5Y,X4G _ _ (by omega)]
    have h1:decide ((i:Int)<↑c.Marks.length)=true:=by simp [hi]
    have h2:decide ((0:Int)≤↑i)=true:=by simp
    have h3:Nat.ble ((b.length+[c.Marks[i].Name].length)*(16+1)) 200000000000000=true:=by
     rw [Nat.ble_eq];simp;omega
    simp only [h1,h2,h3,Bool.and_self,cond_true,Option.bind_some]
    by_cases hf:WD c.Marks[i].Name b=0
    ·by_cases hfar:X38 30000 c.Marks[i].At=true
     ·have hE:X35 c.Marks[i] b=7:=by simp [X35,hf,hfar]
      simp [hf,hfar,hE]
     ·have hE:X35 c.Marks[i] b=X2X c.Marks[i].Paints:=by simp [X35,hf,hfar]
      simp only [hf,hfar,hE,Bool.not_false,Bool.not_true,cond_false,beq_self_eq_true,cond_true]
      by_cases hs:X2X c.Marks[i].Paints=0
      ·simp only [hs,bne_self_eq_false,cond_false,if_true,Option.bind_some,Sum.elim_inl]
       exact hR (b++[c.Marks[i].Name]) (by simp;omega)
      ·simp [hs,X1j hs]
    ·have hE:X35 c.Marks[i] b=WD c.Marks[i].Name b:=by simp [X35,hf]
     simp [hE,hf,X58 hf,X1j hf]) 0 [] (by omega) (by simp)

end Nore
open Go Go.Ab
namespace Nore

theorem X1 (lo up:Int) (l:List Int) (hl:l.length<1000000):X2 lo up l=some (X3 lo up l):=by
 rw [X4S];unfold X1L
 have key:=X4 (Wc (↑l.length) l up lo) (fun o3=>Sum.elim (fun y4:Int=>some (decide (y4≥0))) (fun _=>some (decide ((-1:Int)≥0))) o3) l.length (fun i (_:Unit)=>(i:Int)) (fun _ _=>True) (fun i _=>some (X3 lo up (l.drop i)))
  (by
   intro b _ R
   simp [Wc,Ws])
  (by
   intro i b hi _ R hR
   have hR':=hR () trivial
   simp only [Wc,Ws]
   rw [List.drop_eq_getElem_cons hi]
   simp only [Int.toNat_natCast,X0 _ _ _ hi,X3C]
   have hw:IntKind.wrap .i64 ((i:Int)+1)=((i+1:Nat):Int):=by rw [w64]<;>omega
   rw [hw]
   have h1:decide ((i:Int)<↑l.length)=true:=by simp [hi]
   have h2:decide ((0:Int)≤↑i)=true:=by simp
   simp only [h1,h2,Bool.and_self,cond_true]
   by_cases h3:l[i]<lo
   ·simp [h3]
   ·by_cases h4:l[i]>up
    ·simp [h3,h4]
    ·simp [h3,h4];exact hR')
 exact (key 0 () (by omega) trivial).trans (by simp)

theorem XX (n lo hi:Int):X1x n lo hi=some (inN n lo hi):=by
 rw [X5S];unfold X30 inN
 by_cases h:lo≤n<;>simp [h]

def X2j (x:Z5):Int:=if x.Lead then 20 else 4
theorem X6x (x:Z5):X4n x=some (X2j x):=by
 rw [X5z];unfold X2q X2j
 cases x.Lead<;>rfl

def X4U (x:Z5) (names:List ByteArray):Int :=
 if WD x.Name names≠0 then WD x.Name names else if X3 (-X2j x) (X2j x) [x.Off.Lo,x.Off.Hi] then 7 else if x.Off.Lo>x.Off.Hi then 2 else 0

theorem X79 (x:Z5) (l:List Z5) (hl:l.length<1000000) (k:(Int×Z5)⊕Unit→Option Int) (r1 r2:Option Int) (h1:∀ (i:Nat) y,k (.inl ((i:Int),y))=r1) (h2:k (.inr ())=r2) :
  Option.bind (X1P (↑l.length) l x 0) k=if x.Name∈l.map (·.Name) then r1 else r2:=by
 have key:=X4 (Xt (↑l.length) l x) k l.length (fun i (_:Unit)=>(i:Int)) (fun _ _=>True) (fun i _=>if x.Name∈(l.drop i).map (·.Name) then r1 else r2)
  (by
   intro b _ R
   simp [Xt,XB,h2])
  (by
   intro i b hi _ R hR
   have hR':=hR () trivial
   simp only [Xt,XB]
   rw [List.drop_eq_getElem_cons hi]
   simp only [Int.toNat_natCast,X0 _ _ _ hi,List.map_cons,List.mem_cons]
   have hw:IntKind.wrap .i64 ((i:Int)+1)=((i+1:Nat):Int):=by rw [w64]<;>omega
   rw [hw]
   have e1:decide ((i:Int)<↑l.length)=true:=by simp [hi]
   have e2:decide ((0:Int)≤↑i)=true:=by simp
   simp only [e1,e2,Bool.and_self,cond_true]
   by_cases h3:l[i].Name.toList=x.Name.toList
   ·have h4:x.Name=l[i].Name:=X5p h3.symm
    simp [h3,h4,h1]
   ·have h4:¬ x.Name=l[i].Name:=fun e=>h3 (by rw [e])
    have h5:(l[i].Name.toList==x.Name.toList)=false:=beq_eq_false_iff_ne.2 h3
    simp only [h5,cond_false,h4,false_or]
    exact hR')
 exact (key 0 () (by omega) trivial).trans (by simp)

theorem X7a (x:Z5) (l:List Z5) (hl:l.length<1000000) (k:(Int×Z5)⊕Unit→Option Int) (r1 r2:Option Int) (h1:∀ (i:Nat) y,k (.inl ((i:Int),y))=r1) (h2:k (.inr ())=r2) :
  Option.bind (X1Q (↑l.length) l x 0) k=if x.Name∈l.map (·.Name) then r1 else r2:=by
 have key:=X4 (Xu (↑l.length) l x) k l.length (fun i (_:Unit)=>(i:Int)) (fun _ _=>True) (fun i _=>if x.Name∈(l.drop i).map (·.Name) then r1 else r2)
  (by
   intro b _ R
   simp [Xu,XC,h2])
  (by
   intro i b hi _ R hR
   have hR':=hR () trivial
   simp only [Xu,XC]
   rw [List.drop_eq_getElem_cons hi]
   simp only [Int.toNat_natCast,X0 _ _ _ hi,List.map_cons,List.mem_cons]
   have hw:IntKind.wrap .i64 ((i:Int)+1)=((i+1:Nat):Int):=by rw [w64]<;>omega
   rw [hw]
   have e1:decide ((i:Int)<↑l.length)=true:=by simp [hi]
   have e2:decide ((0:Int)≤↑i)=true:=by simp
   simp only [e1,e2,Bool.and_self,cond_true]
   by_cases h3:l[i].Name.toList=x.Name.toList
   ·have h4:x.Name=l[i].Name:=X5p h3.symm
    simp [h3,h4,h1]
   ·have h4:¬ x.Name=l[i].Name:=fun e=>h3 (by rw [e])
    have h5:(l[i].Name.toList==x.Name.toList)=false:=beq_eq_false_iff_ne.2 h3
    simp only [h5,cond_false,h4,false_or]
    exact hR')
 exact (key 0 () (by omega) trivial).trans (by simp)

theorem X5n (x:Z5) (l:List Z5) (hl:l.length<1000000):X2U x l=some (X4U x (l.map (·.Name))):=by
 rw [X3W];unfold WO X4U WD X2j
 have hw20:IntKind.wrap .i64 (0-20) = -20:=by rw [w64]<;>omega
 have hw4:IntKind.wrap .i64 (0-4) = -4:=by rw [w64]<;>omega
 rw [X49]
 simp only [Option.bind_some,hw20,hw4]
 cases hb:x.Lead
 ·simp only [cond_false,Bool.false_eq_true,if_false]
  cases hn:X4W x.Name
  ·simp
  ·simp only [Bool.not_true,cond_false,if_true]
   rw [X7a x l hl _ (some 5) (if X3 (-4) 4 [x.Off.Lo,x.Off.Hi] then some 7 else if x.Off.Lo>x.Off.Hi then some 2 else some 0) (fun i y=>by simp) (by
    simp only [Sum.elim_inr]
    rw [X1 _ _ _ (by simp)]
    simp only [Option.bind_some]
    cases X3 (-4) 4 [x.Off.Lo,x.Off.Hi]
    ·by_cases h:x.Off.Lo>x.Off.Hi<;>simp [h]
    ·simp)]
   by_cases hm:x.Name∈l.map (·.Name)
   ·simp [hm]
   ·simp only [hm,if_false,ne_eq,not_true]
    cases X3 (-4) 4 [x.Off.Lo,x.Off.Hi]
    ·by_cases h:x.Off.Lo>x.Off.Hi<;>simp [h]
    ·simp
 ·simp only [cond_true,if_true]
  cases hn:X4W x.Name
  ·simp
  ·simp only [Bool.not_true,cond_false,if_true]
   rw [X79 x l hl _ (some 5) (if X3 (-20) 20 [x.Off.Lo,x.Off.Hi] then some 7 else if x.Off.Lo>x.Off.Hi then some 2 else some 0) (fun i y=>by simp) (by
    simp only [Sum.elim_inr]
    rw [X1 _ _ _ (by simp)]
    simp only [Option.bind_some]
    cases X3 (-20) 20 [x.Off.Lo,x.Off.Hi]
    ·by_cases h:x.Off.Lo>x.Off.Hi<;>simp [h]
    ·simp)]
   by_cases hm:x.Name∈l.map (·.Name)
   ·simp [hm]
   ·simp only [hm,if_false,ne_eq,not_true]
    cases X3 (-20) 20 [x.Off.Lo,x.Off.Hi]
    ·by_cases h:x.Off.Lo>x.Off.Hi<;>simp [h]
    ·simp

def X31 (a:Zt):Int:=if X3 (-30000) 30000 [a.X.Lo,a.X.Hi,a.Y.Lo,a.Y.Hi]||X3 0 1000 [a.Depth.Lo,a.Depth.Hi]||X3 1 4 [a.Ground] then 7 else if a.X.Lo>a.X.Hi∨a.Y.Lo>a.Y.Hi∨a.Depth.Lo>a.Depth.Hi then 2 else 0

theorem X6H (a:Zt):X5s a=some (X31 a):=by
 rw [X5L];unfold X2H X31
 rw [X1 _ _ _ (by simp),X1 _ _ _ (by simp),X1 _ _ _ (by simp)]
 simp only [Option.bind_some]
 cases X3 (-30000) 30000 [a.X.Lo,a.X.Hi,a.Y.Lo,a.Y.Hi]
 ·cases X3 0 1000 [a.Depth.Lo,a.Depth.Hi]
  ·cases X3 1 4 [a.Ground]
   ·by_cases h1:a.X.Lo>a.X.Hi
    ·simp [h1]
    ·by_cases h2:a.Y.Lo>a.Y.Hi
     ·simp [h1,h2]
     ·by_cases h3:a.Depth.Lo>a.Depth.Hi<;>simp [h1,h2,h3]
   ·simp
  ·simp
 ·simp

theorem X5X (i:Int) (a:Zt):X3e i a=some (X31 a):=by
 rw [X4L];unfold X1J
 rw [X6H];rfl

theorem X7Y (lo hi a b c d:Int):X3 lo hi [a,b,c,d]=(X3 lo hi [a,b]||X3 lo hi [c,d]):=by simp [Bool.or_assoc]

theorem X6h (a:Zt):X4w a=some (X31 a):=by
 rw [X5k];unfold X27 X31 X2D
 rw [X2r _ _ _ (by simp),X2r _ _ _ (by simp),XX,WX,X7Y]
 simp only [Option.bind_some,X2f]
 cases X3 (-30000) 30000 [a.X.Lo,a.X.Hi]
 ·cases X3 (-30000) 30000 [a.Y.Lo,a.Y.Hi]
  ·cases X3 0 1000 [a.Depth.Lo,a.Depth.Hi]
   ·cases X3 1 4 [a.Ground]
    ·by_cases h1:a.X.Lo>a.X.Hi<;>by_cases h2:a.Y.Lo>a.Y.Hi<;>by_cases h3:a.Depth.Lo>a.Depth.Hi<;>simp [h1,h2,h3]
    ·by_cases h1:a.X.Lo>a.X.Hi<;>by_cases h2:a.Y.Lo>a.Y.Hi<;>by_cases h3:a.Depth.Lo>a.Depth.Hi<;>simp [h1,h2,h3]
   ·by_cases h1:a.X.Lo>a.X.Hi<;>by_cases h2:a.Y.Lo>a.Y.Hi<;>simp [h1,h2]
  ·simp
 ·simp

def WE:Nat→List ByteArray→List Z5→Int×Int×Int
 | _,_,[]=>(0,0,0)
 | i,names,x::l=>if X4U x names=0 then WE (i+1) (names++[x.Name]) l else (3,(i:Int),X4U x names)
def X1O:Nat→List Zt→Int×Int×Int
 | _,[]=>(0,0,0)
 | i,a::l=>if X31 a=0 then X1O (i+1) l else (4,(i:Int),X31 a)
def WU (f:ZJ):Int×Int×Int :=
 if (X3o f.Chart).2.2≠0 then (1,0,(X3o f.Chart).2.2) else
 if X3 0 40000 [f.Day]||X3 1 500 [f.Step]||X3 0 8 [f.Half] then (2,0,7) else
 if X3 1 4 [(f.Instruments.length:Int)] then (3,0,3) else
 if (WE 0 [] f.Instruments).2.2≠0 then WE 0 [] f.Instruments else
 if 6<f.Areas.length then (4,0,3) else X1O 0 f.Areas

theorem X6O (l:List Zt) (hl:l.length≤6) (k:(Int×Int×Zt)⊕Unit→Option (Int×Int×Int)) (h1:∀ (i e:Int) y,e≠0→k (.inl (e,i,y))=some (4,i,e)) (h2:k (.inr ())=some (0,0,0)) :
  Option.bind (X3a l (↑l.length) 0) k=some (X1O 0 l):=by
 have key:=X4 (X16 l (↑l.length)) k l.length (fun i (_:Unit)=>(i:Int)) (fun _ _=>True) (fun i _=>some (X1O i (l.drop i)))
  (by
   intro b _ R
   simp [X16,X1b,h2,X1O])
  (by
   intro i b hi _ R hR
   have hR':=hR () trivial
   simp only [X16,X1b]
   rw [List.drop_eq_getElem_cons hi]
   simp only [Int.toNat_natCast,X0 _ _ _ hi,X1O]
   have hw:IntKind.wrap .i64 ((i:Int)+1)=((i+1:Nat):Int):=by rw [w64]<;>omega
   rw [hw,X5X]
   have e1:decide ((i:Int)<↑l.length)=true:=by simp [hi]
   have e2:decide ((0:Int)≤↑i)=true:=by simp
   simp only [e1,e2,Bool.and_self,cond_true,Option.bind_some]
   by_cases h3:X31 l[i]=0
   ·simp only [h3,bne_self_eq_false,cond_false,Option.bind_some,Sum.elim_inl,if_true]
    exact hR'
   ·simp [h3,X1j h3,h1])
 exact (key 0 () (by omega) trivial).trans (by simp)
theorem X6P (l:List Zt) (hl:l.length≤6) (k:(Int×Int×Zt)⊕Unit→Option (Int×Int×Int)) (h1:∀ (i e:Int) y,e≠0→k (.inl (e,i,y))=some (4,i,e)) (h2:k (.inr ())=some (0,0,0)) :
  Option.bind (X2b l (↑l.length) 0) k=some (X1O 0 l):=X6O l hl k h1 h2

theorem X7b (f:ZJ) (hl:f.Instruments.length≤4) (k:(Int×Int×Z5×Z5)⊕Unit→Option (Int×Int×Int)) (r:Option (Int×Int×Int)) (h1:∀ (i e:Int) y y',e≠0→k (.inl (e,i,y,y'))=some (3,i,e)) (h2:k (.inr ())=r) :
  Option.bind (X39 f.Instruments (↑f.Instruments.length) f 0) k=if (WE 0 [] f.Instruments).2.2≠0 then some (WE 0 [] f.Instruments) else r:=by
 have key:=X4 (X15 f.Instruments (↑f.Instruments.length) f) k f.Instruments.length (fun i (_:Unit)=>(i:Int)) (fun _ _=>True) (fun i _=>if (WE i ((f.Instruments.take i).map (·.Name)) (f.Instruments.drop i)).2.2≠0 then some (WE i ((f.Instruments.take i).map (·.Name)) (f.Instruments.drop i)) else r)
  (by
   intro b _ R
   simp [X15,X1a,h2,WE])
  (by
   intro i b hi _ R hR
   have hR':=hR () trivial
   simp only [X15,X1a]
   rw [List.drop_eq_getElem_cons hi]
   rw [←List.take_concat_get hi] at hR'
   simp only [List.concat_eq_append,List.map_append,List.map_cons,List.map_nil] at hR'
   simp only [Int.toNat_natCast,X0 _ _ _ hi,WE,List.drop_zero]
   have hw:IntKind.wrap .i64 ((i:Int)+1)=((i+1:Nat):Int):=by rw [w64]<;>omega
   rw [hw,X5n _ _ (by simp;omega)]
   have e1:decide ((i:Int)<↑f.Instruments.length)=true:=by simp [hi]
   have e2:decide ((0:Int)≤↑i)=true:=by simp
   have e3:decide ((i:Int)≤↑f.Instruments.length)=true:=by simp;omega
   simp only [e1,e2,e3,Bool.and_self,cond_true,Option.bind_some]
   by_cases h3:X4U f.Instruments[i] ((f.Instruments.take i).map (·.Name))=0
   ·simp only [h3,bne_self_eq_false,cond_false,Option.bind_some,Sum.elim_inl,if_true]
    exact hR'
   ·simp only [X1j h3,cond_true,Option.bind_some,Sum.elim_inr,h1 _ _ _ _ h3,if_neg h3]
    rw [if_pos h3])
 exact (key 0 () (by omega) trivial).trans (by simp)

theorem X6t (f:ZJ):X53 f=some (WU f):=by
 rw [X5q];unfold X2m WU
 rw [X4K,X1 _ _ _ (by simp),X1 _ _ _ (by simp),X1 _ _ _ (by simp),X1 _ _ _ (by simp)]
 simp only [Option.bind_some]
 by_cases h1:(X3o f.Chart).2.2=0
 ·simp only [h1,bne_self_eq_false,cond_false,ne_eq,not_true,if_false]
  cases X3 0 40000 [f.Day]
  ·cases X3 1 500 [f.Step]
   ·cases X3 0 8 [f.Half]
    ·cases hi:X3 1 4 [(f.Instruments.length:Int)]
     ·have hl:f.Instruments.length≤4:=by simp at hi;omega
      simp only [cond_false,Bool.or_self,Bool.false_eq_true,if_false]
      have ha:(bif decide ((f.Areas.length:Int)>6) then some (4,0,3) else Option.bind (X2b f.Areas (↑f.Areas.length) 0) fun o257↦Sum.elim (fun y258↦bif y258.fst != 0 then some (4,y258.snd.fst,y258.fst) else some ((0:Int),(0:Int),(0:Int))) (fun y259↦some (0,0,0)) o257)=(some (if 6<f.Areas.length then (4,0,3) else X1O 0 f.Areas):Option (Int×Int×Int)):=by
       by_cases h6:6<f.Areas.length
       ·have:decide ((f.Areas.length:Int)>6)=true:=by simp;omega
        rw [this];simp [h6]
       ·have:decide ((f.Areas.length:Int)>6)=false:=by simp;omega
        rw [this]
        simp only [cond_false,h6,if_false]
        exact X6P _ (by omega) _ (fun i e y he=>by simp [X1j he]) rfl
      rw [X7b f hl _ _ (fun i e y y' he=>by simp [X1j he]) (by simp only [Sum.elim_inr];exact ha)]
      by_cases h3:(WE 0 [] f.Instruments).2.2=0<;>simp [h3]
     ·simp
    ·simp
   ·simp
  ·simp
 ·simp [h1,X1j h1]

theorem X6j (f:ZJ) (hl:f.Instruments.length≤4) (k:(Int×Int×Int×List ByteArray×List ByteArray×Z5)⊕((Int×Int×Int×List ByteArray×List ByteArray×Z5)⊕List ByteArray)→Option (Int×Int×Int)) (r:Option (Int×Int×Int))
  (h1:∀ (i e:Int) y y' z,k (.inl (i,e,3,y,y',z))=some (3,i,e)) (h1':∀ (i e:Int) y y' z,k (.inr (.inl (i,e,3,y,y',z)))=some (3,i,e)) (h2:∀ l,k (.inr (.inr l))=r) :
  Option.bind (X2w f (0,[])) k=if (WE 0 [] f.Instruments).2.2≠0 then some (WE 0 [] f.Instruments) else r:=by
 have key:=X4 (Wh f) k f.Instruments.length (fun i (b:List ByteArray)=>((i:Int),b)) (fun i b=>b=(f.Instruments.take i).map (·.Name)) (fun i b=>if (WE i b (f.Instruments.drop i)).2.2≠0 then some (WE i b (f.Instruments.drop i)) else r)
  (by
   intro b _ R
   simp [Wh,Wy,h2,WE])
  (by
   intro i b hi hb R hR
   have hR':=hR (b++[f.Instruments[i].Name]) (by rw [hb,←List.take_concat_get hi,List.concat_eq_append,List.map_append];rfl)
   have hbl:b.length≤4:=by rw [hb];simp;omega
   simp only [Wh,Wy]
   rw [List.drop_eq_getElem_cons hi]
   simp only [Int.toNat_natCast,X0 _ _ _ hi,WE]
   have hw:IntKind.wrap .i64 ((i:Int)+1)=((i+1:Nat):Int):=by rw [w64]<;>omega
   rw [hw,X3P _ _ (by omega),X6x]
   have e1:decide ((i:Int)<↑f.Instruments.length)=true:=by simp [hi]
   have e2:decide ((0:Int)≤↑i)=true:=by simp
   have e3:Nat.ble ((b.length+[f.Instruments[i].Name].length)*(16+1)) 200000000000000=true:=by
    apply Nat.ble_eq_true_of_le;simp;omega
   have hf:IntKind.wrap .i64 (0-X2j f.Instruments[i]) = -X2j f.Instruments[i]:=by unfold X2j;split<;>(rw [w64]<;>omega)
   simp only [e1,e2,e3,Bool.and_self,cond_true,Option.bind_some,hf,X2D]
   rw [X2r _ _ _ (by simp)]
   unfold X4U
   by_cases h3:WD f.Instruments[i].Name b=0
   ·simp only [h3,beq_self_eq_true,cond_true,ne_eq,not_true,if_false,Option.bind_some,X2f]
    cases ho:X3 (-X2j f.Instruments[i]) (X2j f.Instruments[i]) [f.Instruments[i].Off.Lo,f.Instruments[i].Off.Hi]
    ·by_cases h4:f.Instruments[i].Off.Lo>f.Instruments[i].Off.Hi
     ·simp [h4,h1]
     ·simp only [h4,Bool.false_eq_true,if_false,bne_self_eq_false,cond_false,Option.bind_some,Sum.elim_inl,if_true]
      exact hR'
    ·simp [h1]
   ·have h5:=X1j h3
    simp [h3,X58 h3,h5,h1'])
 exact (key 0 [] (by omega) (by simp)).trans (by simp)

theorem X6i (f:ZJ) (hl:f.Areas.length≤6) (k:(Int×Int×Int)⊕Unit→Option (Int×Int×Int)) (h1:∀ (i e:Int),k (.inl (i,e,4))=some (4,i,e)) (h2:k (.inr ())=some (0,0,0)) :
  Option.bind (X2x f 0) k=some (X1O 0 f.Areas):=by
 have key:=X4 (Wi f) k f.Areas.length (fun i (_:Unit)=>(i:Int)) (fun _ _=>True) (fun i _=>some (X1O i (f.Areas.drop i)))
  (by
   intro b _ R
   simp [Wi,Wz,h2,X1O])
  (by
   intro i b hi _ R hR
   have hR':=hR () trivial
   simp only [Wi,Wz]
   rw [List.drop_eq_getElem_cons hi]
   simp only [Int.toNat_natCast,X0 _ _ _ hi,X1O]
   have hw:IntKind.wrap .i64 ((i:Int)+1)=((i+1:Nat):Int):=by rw [w64]<;>omega
   rw [hw,X6h]
   have e1:decide ((i:Int)<↑f.Areas.length)=true:=by simp [hi]
   have e2:decide ((0:Int)≤↑i)=true:=by simp
   simp only [e1,e2,Bool.and_self,cond_true,Option.bind_some]
   by_cases h3:X31 f.Areas[i]=0
   ·simp only [h3,bne_self_eq_false,cond_false,Option.bind_some,Sum.elim_inl,if_true]
    exact hR'
   ·simp [h3,X1j h3,h1])
 exact (key 0 () (by omega) trivial).trans (by simp)

theorem X5Z (f:ZJ):X46 f=some (WU f):=by
 rw [X4X];unfold X1M WU
 rw [X6d,XX,XX,XX,XX,WX,WX,WX,WX]
 simp only [Option.bind_some,Bool.not_not]
 by_cases h1:(X3o f.Chart).2.2=0
 ·simp only [h1,bne_self_eq_false,cond_false,ne_eq,not_true,if_false]
  cases X3 0 40000 [f.Day]
  ·cases X3 1 500 [f.Step]
   ·cases X3 0 8 [f.Half]
    ·cases hi:X3 1 4 [(f.Instruments.length:Int)]
     ·have hl:f.Instruments.length≤4:=by simp at hi;omega
      simp only [cond_false,Bool.or_self,Bool.false_eq_true,if_false]
      rw [X6j f hl _ (some (if 6<f.Areas.length then (4,0,3) else X1O 0 f.Areas)) (fun i e y y' z=>rfl) (fun i e y y' z=>rfl) (fun l=>by
       simp only [Sum.elim_inr]
       by_cases h6:6<f.Areas.length
       ·have:decide ((f.Areas.length:Int)>6)=true:=by simp;omega
        rw [this];simp [h6]
       ·have:decide ((f.Areas.length:Int)>6)=false:=by simp;omega
        rw [this]
        simp only [cond_false,h6,if_false]
        exact X6i f (by omega) _ (fun i e=>rfl) rfl)]
      by_cases h3:(WE 0 [] f.Instruments).2.2=0<;>simp [h3]
     ·simp
    ·simp
   ·simp
  ·simp
 ·simp [h1,X1j h1]
end Nore
open Go Go.Ab
namespace Nore

def X3N (d:Int):Int→List Zk→Int
 | c,[]=>c
 | c,p::l=>X3N d (if p.Day≤d then p.Colour else c) l
def X4j (m:Zw) (d:Int):Int:=X3N d 0 m.Paints

theorem X5R (d:Int) (p:Zk):∀ (l:List Zk) (c:Int),X3N d c (l++[p])=if p.Day≤d then p.Colour else X3N d c l
 | [],c=>rfl
 | q::l,c=>by simp only [List.cons_append,X3N,X5R d p l]

theorem X5y (m:Zw) (d:Int) (hl:m.Paints.length<1000000):X3d m d=some (X4j m d):=by
 rw [X4l];unfold X1e X4j
 have key:=X4 (XJ d m) (fun o=>some o) m.Paints.length (fun i (b:Int)=>(b,(i:Int))) (fun _ _=>True) (fun i b=>some (X3N d b (m.Paints.drop i)))
  (by
   intro b _ R
   simp [XJ,XN,X3N])
  (by
   intro i b hi _ R hR
   simp only [XJ,XN]
   rw [List.drop_eq_getElem_cons hi]
   simp only [Int.toNat_natCast,X0 _ _ _ hi,X3N]
   have hw:IntKind.wrap .i64 ((i:Int)+1)=((i+1:Nat):Int):=by rw [w64]<;>omega
   rw [hw]
   have e1:decide ((i:Int)<↑m.Paints.length)=true:=by simp [hi]
   have e2:decide ((0:Int)≤↑i)=true:=by simp
   simp only [e1,e2,Bool.and_self,cond_true]
   by_cases h3:m.Paints[i].Day≤d
   ·simp only [h3,decide_true,cond_true,Option.bind_some,Sum.elim_inl,if_true]
    exact hR _ trivial
   ·simp only [h3,decide_false,cond_false,Option.bind_some,Sum.elim_inl,if_false]
    exact hR _ trivial)
 exact key 0 0 (by omega) trivial

theorem X6V (d:Int) (l:List Zk) (hl:l.length<1000000) (k:(Zk×Int×Int)⊕Unit→Option (Zw×Int×Int)) (mk:Zw) (h1:∀ p c e,k (.inl (p,c,e))=some (mk,c,e)) (h2:k (.inr ())=some (mk,0,0)) :
  Option.bind (X1k d l ((l.length:Int)-1)) k=some (mk,X3N d 0 l,0):=by
 have key:=X4 (XP d l) k l.length (fun i (_:Unit)=>(l.length:Int)-1-i) (fun _ _=>True) (fun i _=>some (mk,X3N d 0 (l.take (l.length-i)),0))
  (by
   intro b _ R
   have:decide ((l.length:Int)-1-l.length≥0)=false:=by simp;omega
   simp only [XP,XY,this,cond_false,Option.bind_some,Sum.elim_inr,h2]
   simp [X3N])
  (by
   intro i b hi _ R hR
   have hR':=hR () trivial
   have ht:((l.length:Int)-1-i).toNat=l.length-1-i:=by omega
   have hj:l.length-1-i<l.length:=by omega
   simp only [XP,XY,ht,X0 _ _ _ hj]
   have e1:decide ((l.length:Int)-1-i≥0)=true:=by simp;omega
   have e2:decide ((0:Int)≤(l.length:Int)-1-i)=true:=by simp;omega
   have e3:decide ((l.length:Int)-1-i<l.length)=true:=by simp;omega
   have hw:IntKind.wrap .i64 ((l.length:Int)-1-i-1)=(l.length:Int)-1-((i+1:Nat):Int):=by rw [w64]<;>omega
   simp only [e1,e2,e3,Bool.and_self,cond_true,hw]
   have hs:l.take (l.length-i)=l.take (l.length-(i+1))++[l[l.length-1-i]]:=by
    have:=List.take_concat_get hj
    rw [show l.length-i=l.length-1-i+1 by omega,←this,List.concat_eq_append,show l.length-(i+1)=l.length-1-i by omega]
   rw [hs,X5R]
   by_cases h3:l[l.length-1-i].Day≤d
   ·simp [h3,h1]
   ·simp only [h3,decide_false,cond_false,Option.bind_some,Sum.elim_inl,if_false]
    exact hR')
 have:=key 0 () (by omega) trivial
 unfold X1k
 simpa using this

theorem X7d (l:List Zk) (h:X2X l=0):l.length≤4:=by
 unfold X2X at h
 cases ho:X3 1 4 [(l.length:Int)]
 ·simp at ho;omega
 ·rw [ho] at h;simp at h

theorem X6W (sands:List CtSand):∀ (l:List Zw) (i:Nat) (names:List ByteArray),(X4a sands i names l).2.2=0→∀ m∈l,X38 30000 m.At=false∧m.Paints.length≤4
 | [],_,_,_,m,hm=>by cases hm
 | x::l,i,names,h,m,hm=>by
  simp only [X4a] at h
  by_cases h0:X35 x names=0
  ·simp only [h0,if_true] at h
   rcases List.mem_cons.1 hm with e|e
   ·subst e
    unfold X35 at h0
    by_cases h1:WD m.Name names=0
    ·simp only [h1,if_true] at h0
     cases hf:X38 30000 m.At
     ·rw [hf] at h0
      exact ⟨rfl,X7d _ (by simpa using h0)⟩
     ·rw [hf] at h0;simp at h0
    ·simp only [h1,if_false] at h0
   ·exact X6W sands l _ _ h m e
  ·simp only [h0,if_false] at h

structure X2g (f:ZJ):Prop where
 chart:(X3o f.Chart).2.2=0
 marks:f.Chart.Marks.length≤8
 mark:∀ m∈f.Chart.Marks,X38 30000 m.At=false∧m.Paints.length≤4
 day:0≤f.Day∧f.Day≤40000
 step:1≤f.Step∧f.Step≤500
 half:0≤f.Half∧f.Half≤8
 inst:1≤f.Instruments.length∧f.Instruments.length≤4
 off:∀ x∈f.Instruments,-X2j x≤x.Off.Lo∧x.Off.Lo≤x.Off.Hi∧x.Off.Hi≤X2j x
 areas:f.Areas.length≤6
 area:∀ a∈f.Areas,X31 a=0

theorem X69:∀ (l:List Z5) (i:Nat) (names:List ByteArray),(WE i names l).2.2=0→∀ x∈l,-X2j x≤x.Off.Lo∧x.Off.Lo≤x.Off.Hi∧x.Off.Hi≤X2j x
 | [],_,_,_,m,hm=>by cases hm
 | x::l,i,names,h,m,hm=>by
  simp only [WE] at h
  by_cases h0:X4U x names=0
  ·simp only [h0,if_true] at h
   rcases List.mem_cons.1 hm with e|e
   ·subst e
    unfold X4U at h0
    by_cases h1:WD m.Name names=0
    ·simp only [h1,ne_eq,not_true,if_false] at h0
     cases ho:X3 (-X2j m) (X2j m) [m.Off.Lo,m.Off.Hi]
     ·rw [ho] at h0
      simp at ho h0
      omega
     ·rw [ho] at h0;simp at h0
    ·simp only [ne_eq,h1,not_false_eq_true,if_true] at h0
   ·exact X69 l _ _ h m e
  ·simp only [h0,if_false] at h
theorem X6Q:∀ (l:List Zt) (i:Nat),(X1O i l).2.2=0→∀ x∈l,X31 x=0
 | [],_,_,m,hm=>by cases hm
 | x::l,i,h,m,hm=>by
  simp only [X1O] at h
  by_cases h0:X31 x=0
  ·simp only [h0,if_true] at h
   rcases List.mem_cons.1 hm with e|e
   ·subst e;exact h0
   ·exact X6Q l _ h m e
  ·simp only [h0,if_false] at h

theorem X5t {f:ZJ} (h:(WU f).2.2=0):X2g f:=by
 unfold WU at h
 by_cases h1:(X3o f.Chart).2.2=0
 ·simp only [h1,ne_eq,not_true,if_false] at h
  cases h2:(X3 0 40000 [f.Day]||X3 1 500 [f.Step]||X3 0 8 [f.Half])
  ·rw [h2] at h
   cases h3:X3 1 4 [(f.Instruments.length:Int)]
   ·rw [h3] at h
    simp only [Bool.false_eq_true,if_false] at h
    by_cases h4:(WE 0 [] f.Instruments).2.2=0
    ·simp only [h4,ne_eq,not_true,if_false] at h
     by_cases h5:6<f.Areas.length
     ·rw [if_pos h5] at h;simp at h
     ·rw [if_neg h5] at h
      simp at h2 h3
      have hm:¬ 8<f.Chart.Marks.length:=fun q=>by unfold X3o at h1;rw [if_pos q] at h1;simp at h1
      have h1':=h1
      unfold X3o at h1'
      rw [if_neg hm] at h1'
      exact ⟨h1,by omega,X6W _ _ _ _ h1',by omega,by omega,by omega,by omega,X69 _ _ _ h4,by omega,X6Q _ _ h⟩
    ·exfalso
     rw [if_pos h4] at h;exact h4 h
   ·rw [h3] at h;simp at h
  ·rw [h2] at h;simp at h
 ·rw [if_pos h1] at h;exact absurd h h1

theorem X4f {f:ZJ} (hg:X2g f) (mark:Int) (h0:0≤mark) (h1:mark<f.Chart.Marks.length) :
  X2E f.Chart f.Day mark=some (f.Chart.Marks.getD mark.toNat ⟨ByteArray.empty,⟨0,0⟩,[]⟩,X4j (f.Chart.Marks.getD mark.toNat ⟨ByteArray.empty,⟨0,0⟩,[]⟩) f.Day,0):=by
 rw [X4A];unfold X1p
 have hm:=hg.marks
 have hd:=hg.day
 have hj:mark.toNat<f.Chart.Marks.length:=by omega
 have hp:=(hg.mark _ (List.getElem_mem hj)).2
 have hw:IntKind.wrap .i64 ((f.Chart.Marks.length:Int)-1)=(f.Chart.Marks.length:Int)-1:=by rw [w64]<;>omega
 rw [X4K,WB _ _ _ (by simp),WB _ _ _ (by simp),hw]
 have o1:X3 0 40000 [f.Day]=false:=by simp;omega
 have o2:X3 0 ((f.Chart.Marks.length:Int)-1) [mark]=false:=by simp;omega
 have e1:decide (0≤mark)=true:=by simp [h0]
 have e2:decide (mark<(f.Chart.Marks.length:Int))=true:=by simp [h1]
 simp only [Option.bind_some,hg.chart,bne_self_eq_false,cond_false,o1,o2,e1,e2,Bool.and_self,cond_true,X0 _ _ _ hj]
 have hw2:IntKind.wrap .i64 ((f.Chart.Marks[mark.toNat].Paints.length:Int)-1)=(f.Chart.Marks[mark.toNat].Paints.length:Int)-1:=by rw [w64]<;>omega
 rw [hw2]
 exact X6V f.Day _ (by omega) _ _ (fun p c e=>rfl) rfl

def Z8y (f:ZJ) (mark:Int):Zw:=f.Chart.Marks.getD mark.toNat ⟨ByteArray.empty,⟨0,0⟩,[]⟩
def X3A (f:ZJ) (mark:Int):Bool:=X4j (Z8y f mark) f.Day != 0

theorem X7h {f:ZJ} (hg:X2g f) (mark:Int) (h0:0≤mark) (h1:mark<f.Chart.Marks.length) (l:List Zm) (kit:Nat→Nat) (m:List (Zh×Int)) :
  XH (mark,f,l,kit,m)=some (X3A f mark,f,l,kit,m):=by
 rw [X2M];unfold Xq
 rw [X4y];unfold X1o
 rw [X4f hg mark h0 h1]
 rfl

def Kit (f:ZJ) (kit:Nat→Nat):Prop:=∀ i,(h:i<f.Instruments.length)→kit i=if f.Instruments[i].Lead then 2 else 1
def X1g (f:ZJ) (i:Int):Z5:=f.Instruments.getD i.toNat ⟨ByteArray.empty,false,⟨0,0⟩⟩

def WF (f:ZJ) (x:Zm):Int :=
 if X3 0 ((f.Instruments.length:Int)-1) [x.Instrument] then 4 else
 if (X1g f x.Instrument).Lead then (if X3 0 1000 [x.Shown]||X3 0 4 [x.Ground] then 7 else if x.Mark≠0 then 2 else 0)
 else if X3 0 ((f.Chart.Marks.length:Int)-1) [x.Mark] then 4 else if X3A f x.Mark=false then 9 else if X3 0 31 [x.Shown] then 7 else if x.Ground≠0 then 7 else 0

theorem X7x {f:ZJ} (hg:X2g f) (x:Zm) (l:List Zm) {kit:Nat→Nat} (hk:Kit f kit) (m:List (Zh×Int)) :
  WL (x,f,l,kit,m)=some (WF f x,f,l,kit,m):=by
 rw [X33];unfold XA WF
 have hm:=hg.marks
 have hi:=hg.inst
 have hw:IntKind.wrap .i64 ((f.Chart.Marks.length:Int)-1)=(f.Chart.Marks.length:Int)-1:=by rw [w64]<;>omega
 have hw2:IntKind.wrap .i64 ((f.Instruments.length:Int)-1)=(f.Instruments.length:Int)-1:=by rw [w64]<;>omega
 simp only [hw,hw2]
 rw [X1 _ _ _ (by simp),X1 _ _ _ (by simp),X1 _ _ _ (by simp),X1 _ _ _ (by simp),X1 _ _ _ (by simp)]
 simp only [Option.bind_some]
 cases ho:X3 0 ((f.Instruments.length:Int)-1) [x.Instrument]
 ·simp at ho
  have hj:x.Instrument.toNat<f.Instruments.length:=by omega
  have e1:decide (0≤x.Instrument)=true:=by simp;omega
  have e2:decide (x.Instrument<((4:Nat):Int))=true:=by simp;omega
  have e3:Nat.blt x.Instrument.toNat 4=true:=by rw [Tr.blt_dec];simp;omega
  have hkk:=hk _ hj
  have hio:X1g f x.Instrument=f.Instruments[x.Instrument.toNat]:=X0 _ _ _ hj
  rw [hio]
  have e2':decide (x.Instrument<(4:Int))=true:=by simp;omega
  simp only [cond_false,Bool.false_eq_true,if_false,e1,e2,e2',e3,Bool.and_self,cond_true]
  cases hL:f.Instruments[x.Instrument.toNat].Lead
  ·rw [hL] at hkk
   simp only [Bool.false_eq_true,if_false] at hkk
   simp only [hkk,show Nat.beq 1 0=false from rfl,show Nat.beq 1 1=true from rfl,cond_false,cond_true,Bool.false_eq_true,if_false]
   cases hmk:X3 0 ((f.Chart.Marks.length:Int)-1) [x.Mark]
   ·simp at hmk
    simp only [cond_false,Bool.false_eq_true,if_false]
    rw [X7h hg x.Mark (by omega) (by omega)]
    simp only [Option.bind_some]
    cases X3A f x.Mark
    ·simp
    ·cases X3 0 31 [x.Shown]
     ·by_cases h5:x.Ground=0<;>simp [h5,X1j]
     ·simp
   ·simp
  ·rw [hL] at hkk
   simp only [if_true] at hkk
   simp only [hkk,show Nat.beq 2 0=false from rfl,show Nat.beq 2 1=false from rfl,show Nat.beq 2 (1+1)=true from rfl,cond_false,cond_true,if_true]
   cases X3 0 1000 [x.Shown]
   ·cases X3 0 4 [x.Ground]
    ·by_cases h5:x.Mark=0<;>simp [h5,X1j]
    ·simp
   ·simp
 ·simp

theorem X60 {f:ZJ} (hg:X2g f) (x:Zm):X47 f x=some (WF f x):=by
 rw [X4Z];unfold X1N WF
 have hm:=hg.marks
 have hi:=hg.inst
 have hw:IntKind.wrap .i64 ((f.Chart.Marks.length:Int)-1)=(f.Chart.Marks.length:Int)-1:=by rw [w64]<;>omega
 have hw2:IntKind.wrap .i64 ((f.Instruments.length:Int)-1)=(f.Instruments.length:Int)-1:=by rw [w64]<;>omega
 simp only [hw,hw2]
 rw [XX,XX,XX,XX,XX,WX,WX,WX,WX,WX]
 simp only [Option.bind_some,Bool.not_not]
 cases ho:X3 0 ((f.Instruments.length:Int)-1) [x.Instrument]
 ·simp at ho
  have hj:x.Instrument.toNat<f.Instruments.length:=by omega
  have e1:decide (0≤x.Instrument)=true:=by simp;omega
  have e2:decide (x.Instrument<(f.Instruments.length:Int))=true:=by simp;omega
  have hio:X1g f x.Instrument=f.Instruments[x.Instrument.toNat]:=X0 _ _ _ hj
  rw [hio]
  simp only [cond_false,Bool.false_eq_true,if_false,e1,e2,Bool.and_self,cond_true,X0 _ _ _ hj]
  cases hL:f.Instruments[x.Instrument.toNat].Lead
  ·simp only [cond_false,Bool.false_eq_true,if_false]
   cases hmk:X3 0 ((f.Chart.Marks.length:Int)-1) [x.Mark]
   ·simp at hmk
    have hj2:x.Mark.toNat<f.Chart.Marks.length:=by omega
    have e3:decide (0≤x.Mark)=true:=by simp;omega
    have e4:decide (x.Mark<(f.Chart.Marks.length:Int))=true:=by simp;omega
    have hp:=(hg.mark _ (List.getElem_mem hj2)).2
    simp only [cond_false,Bool.false_eq_true,if_false,e3,e4,Bool.and_self,cond_true,X0 _ _ _ hj2]
    rw [X5y _ _ (by omega)]
    unfold X3A Z8y
    rw [X0 _ _ _ hj2]
    simp only [Option.bind_some]
    by_cases h0:X4j f.Chart.Marks[x.Mark.toNat] f.Day=0
    ·simp [h0]
    ·simp only [X58 h0,X1j h0,cond_false,Bool.true_eq_false,if_false]
     cases X3 0 31 [x.Shown]
     ·by_cases h5:x.Ground=0<;>simp [h5,X1j]
     ·simp
   ·simp
  ·simp only [cond_true,if_true]
   cases X3 0 1000 [x.Shown]
   ·cases X3 0 4 [x.Ground]
    ·by_cases h5:x.Mark=0<;>simp [h5,X1j]
    ·simp
   ·simp
 ·simp

def XM (f:ZJ):Nat→List Zm→Int×Int
 | _,[]=>(0,0)
 | i,x::l=>if WF f x=0 then XM f (i+1) l else ((i:Int),WF f x)
def WV (f:ZJ) (l:List Zm):Int×Int:=if (WU f).2.2≠0 then (0,(WU f).2.2) else if 8<l.length then (0,3) else XM f 0 l

theorem X4I (f:ZJ) (l:List Zm):X1W f l=some (WV f l):=by
 rw [X3j];unfold XO WV
 rw [X5Z]
 simp only [Option.bind_some]
 by_cases h:(WU f).2.2=0
 ·have hg:=X5t h
  simp only [h,beq_self_eq_true,cond_true,bne_self_eq_false,cond_false,ne_eq,not_true,if_false]
  by_cases h8:8<l.length
  ·have:decide ((l.length:Int)>8)=true:=by simp;omega
   rw [this];simp [h8]
  ·have:decide ((l.length:Int)>8)=false:=by simp;omega
   rw [this]
   simp only [cond_false,h8,if_false]
   exact X4 (Xa l f) _ l.length (fun i (_:Unit)=>(i:Int)) (fun _ _=>True) (fun i _=>some (XM f i (l.drop i)))
    (by
     intro b _ R
     simp [Xa,Xf,XM])
    (by
     intro i b hi _ R hR
     have hR':=hR () trivial
     simp only [Xa,Xf]
     rw [List.drop_eq_getElem_cons hi]
     have hw:IntKind.wrap .i64 ((i:Int)+1)=((i+1:Nat):Int):=by rw [w64]<;>omega
     simp only [Int.toNat_natCast,X0 _ _ _ hi,hw,XM]
     rw [X60 hg]
     have h1:decide ((i:Int)<↑l.length)=true:=by simp [hi]
     have h2:decide ((0:Int)≤↑i)=true:=by simp
     simp only [h1,h2,Bool.and_self,cond_true,Option.bind_some]
     by_cases he:WF f l[i]=0
     ·simp only [he,bne_self_eq_false,cond_false,Option.bind_some,Sum.elim_inl,if_true]
      exact hR'
     ·simp [he,X1j he]) 0 () (by omega) trivial
 ·simp [h,X1j h,X58 h]

theorem X7D (f:ZJ) (hi:f.Instruments.length≤4):∃ kit,X2t f.Instruments (↑f.Instruments.length) (0,fun _=>0)=some kit∧Kit f kit:=by
 have key:∀ j i (b:Nat→Nat),f.Instruments.length-i=j→i≤f.Instruments.length→(∀ q,(h:q<f.Instruments.length)→q<i→b q=if f.Instruments[q].Lead then 2 else 1) →
   ∃ kit,Z8S (Wa f.Instruments (↑f.Instruments.length)) ((i:Int),b)=some kit∧Kit f kit:=fun j=>by
  induction j with
  | zero =>
   intro i b hj hil hb
   have:i=f.Instruments.length:=by omega
   subst this
   refine ⟨b,?_,fun q hq=>hb q hq hq⟩
   rw [←X1X (Z8S _ _),X3l]
   simp [Wa,Wq]
  | succ j ih =>
   intro i b hj hil hb
   have hlt:i<f.Instruments.length:=by omega
   have hw:IntKind.wrap .i64 ((i:Int)+1)=((i+1:Nat):Int):=by rw [w64]<;>omega
   have e1:decide ((i:Int)<↑f.Instruments.length)=true:=by simp [hlt]
   have e2:decide ((0:Int)≤↑i)=true:=by simp
   have e3:decide ((i:Int)<((4:Nat):Int))=true:=by simp;omega
   have e3':decide ((i:Int)<(4:Int))=true:=by simp;omega
   have e4:Nat.blt i 4=true:=by rw [Tr.blt_dec];simp;omega
   obtain ⟨kit,h1,h2⟩:=ih (i+1) (fun q=>if q=i then (if f.Instruments[i].Lead then 2 else 1) else b q) (by omega) (by omega) (fun q hq hq2=>by
    by_cases e:q=i
    ·subst e;simp
    ·simp only [e,if_false];exact hb q hq (by omega))
   refine ⟨kit,?_,h2⟩
   rw [←X1X (Z8S _ _),X3l]
   simp only [Wa,Wq,Int.toNat_natCast,X0 _ _ _ hlt,hw,e1,e2,e3,e3',e4,Bool.and_self,cond_true]
   have hfun:(fun j=>bif Nat.beq j i then 1+1 else bif Nat.beq j i then 1 else b j)=fun q=>if q=i then 2 else b q:=by
    funext q;rw [Tr.beq_dec];by_cases e:q=i<;>simp [e]
   have hfun2:(fun j=>bif Nat.beq j i then 1 else b j)=fun q=>if q=i then 1 else b q:=by
    funext q;rw [Tr.beq_dec];by_cases e:q=i<;>simp [e]
   rw [hfun,hfun2]
   cases hL:f.Instruments[i].Lead
   ·rw [hL] at h1
    simp only [Bool.false_eq_true,if_false] at h1
    simp only [cond_false,Option.bind_some,Sum.elim_inl]
    rw [X1X];exact h1
   ·rw [hL] at h1
    simp only [if_true] at h1
    simp only [cond_true,Option.bind_some,Sum.elim_inl]
    rw [X1X];exact h1
 exact key _ 0 _ rfl (by omega) (fun q _ h=>by omega)

theorem X7w {f:ZJ} (hg:X2g f) (l:List Zm) (h8:l.length≤8) {kit:Nat→Nat} (hk:Kit f kit) {γ:Type} (k:_→Option γ) :
  Option.bind (X2u l (↑l.length) (0,f,l,kit,[])) k=if (XM f 0 l).2=0 then k (.inr (f,l,kit,[])) else k (.inl ((XM f 0 l).2,(XM f 0 l).1,f,l,kit,l.getD (XM f 0 l).1.toNat ⟨0,0,0,0⟩,l.getD (XM f 0 l).1.toNat ⟨0,0,0,0⟩,[])):=by
 refine (X4 (Wb l (↑l.length)) k l.length (fun i (_:Unit)=>((i:Int),f,l,kit,[])) (fun _ _=>True) (fun i _=>if (XM f i (l.drop i)).2=0 then k (.inr (f,l,kit,[])) else k (.inl ((XM f i (l.drop i)).2,(XM f i (l.drop i)).1,f,l,kit,l.getD (XM f i (l.drop i)).1.toNat ⟨0,0,0,0⟩,l.getD (XM f i (l.drop i)).1.toNat ⟨0,0,0,0⟩,[])))
  (by
   intro b _ R
   simp [Wb,Wr,XM])
  (by
   intro i b hi _ R hR
   have hR':=hR () trivial
   simp only [Wb,Wr]
   rw [List.drop_eq_getElem_cons hi]
   have hw:IntKind.wrap .i64 ((i:Int)+1)=((i+1:Nat):Int):=by rw [w64]<;>omega
   simp only [Int.toNat_natCast,X0 _ _ _ hi,hw,XM]
   rw [X7x hg _ _ hk]
   have h1:decide ((i:Int)<↑l.length)=true:=by simp [hi]
   have h2:decide ((0:Int)≤↑i)=true:=by simp
   simp only [h1,h2,Bool.and_self,cond_true,Option.bind_some]
   by_cases he:WF f l[i]=0
   ·simp only [he,bne_self_eq_false,cond_false,Option.bind_some,Sum.elim_inl,if_true]
    exact hR'
   ·simp only [X1j he,cond_true,Option.bind_some,Sum.elim_inr,if_neg he]
    rw [show ((i:Int)).toNat=i from rfl,X0 _ _ _ hi]) 0 () (by omega) trivial).trans (by simp)

theorem X7r (f:ZJ) (l:List Zm):((WU f).2.2≠0∨8<l.length)∧X2c (l,f)=some (.inl (WV f l).2)∧(WV f l).2≠0 ∨
  ∃ kit,X2g f∧l.length≤8∧Kit f kit∧X2c (l,f)=some (.inr ((WV f l).2,f,l,kit,[])):=by
 rw [X4E];unfold X1u
 rw [X4Q];unfold X1K
 rw [X6t]
 unfold WV
 simp only [Option.bind_some]
 by_cases h:(WU f).2.2=0
 ·have hg:=X5t h
  simp only [h,bne_self_eq_false,cond_false,ne_eq,not_true,if_false]
  by_cases h8:8<l.length
  ·have:decide ((l.length:Int)>8)=true:=by simp;omega
   rw [this];simp [h8]
  ·have:decide ((l.length:Int)>8)=false:=by simp;omega
   rw [this]
   simp only [cond_false,h8,if_false]
   obtain ⟨kit,hk1,hk2⟩:=X7D f hg.inst.2
   refine .inr ⟨kit,hg,by omega,hk2,?_⟩
   rw [hk1,Option.bind_some]
   rw [X7w hg l (by omega) hk2]
   by_cases he:(XM f 0 l).2=0<;>simp [he]
 ·left
  simp [h,X1j h]
end Nore
open Go Go.Ab
namespace Nore

theorem X5I {β σ ω γ:Type} (st:σ→Option (σ⊕ω)) (k:ω→Option γ) (n:Nat) (emb:Nat→β→σ) (P:Nat→β→Prop) (Q:Nat→β→Option γ→Prop)
  (hd:∀ b,P n b→∀ R:σ→Option γ,Q n b (Option.bind (st (emb n b)) (Sum.elim R k)))
  (hn:∀ i b,i<n→P i b→∀ R:σ→Option γ,(∀ b',P (i+1) b'→Q (i+1) b' (R (emb (i+1) b')))→Q i b (Option.bind (st (emb i b)) (Sum.elim R k))) :
  ∀ i b,i≤n→P i b→Q i b (Option.bind (Z8S st (emb i b)) k):=by
 intro i b hi hP
 induction hj:n-i generalizing i b with
 | zero =>
  have:i=n:=by omega
  subst this
  rw [X3l];exact hd b hP _
 | succ j ih =>
  rw [X3l]
  exact hn i b (by omega) hP _ fun b' hb'=>ih (i+1) b' (by omega) hb' (by omega)

instance decPoint:DecidableEq Zu:=fun a b=>decidable_of_iff (a.X=b.X∧a.Y=b.Y) ⟨fun h=>Zu.ext h.1 h.2,fun h=>by subst h;exact ⟨rfl,rfl⟩⟩

def X43 (v:Zu):Int×Zu :=
 if 0≤v.X∧0<v.Y then (0,v) else if 0<v.X∧v.Y≤0 then (8,⟨-v.Y,v.X⟩) else if v.X≤0∧v.Y<0 then (16,⟨-v.X,-v.Y⟩) else (24,⟨v.Y,-v.X⟩)
def Xb:List Zu:=[⟨0,1000⟩,⟨195,981⟩,⟨383,924⟩,⟨556,831⟩,⟨707,707⟩,⟨831,556⟩,⟨924,383⟩,⟨981,195⟩]
def X6G (v:Zu) (l:List Zu):Nat:=l.countP fun q=>decide (q.X*v.Y-q.Y*v.X≤0)
def X5F (v:Zu):Int:=(X43 v).1+(X6G (X43 v).2 Xb:Nat)-1

theorem X7n {v:Zu} (hb : -60000≤v.X∧v.X≤60000 ∧ -60000≤v.Y∧v.Y≤60000) (h0:¬ (v.X=0∧v.Y=0)):0≤(X43 v).1∧(X43 v).1≤24∧0≤(X43 v).2.X∧(X43 v).2.X≤60000∧0<(X43 v).2.Y∧(X43 v).2.Y≤60000:=by
 unfold X43
 split
 ·simp only;omega
 ·split
  ·simp only;omega
  ·split<;>simp only<;>omega

theorem X6M {γ:Type} (v:Zu) (hb : -60000≤v.X∧v.X≤60000 ∧ -60000≤v.Y∧v.Y≤60000) (h0:¬ (v.X=0∧v.Y=0)) (k:Int×Zu→Option γ) :
  Option.bind (X1l (0,v)) k=k (X43 v):=by
 obtain ⟨x,y⟩:=v
 simp only at hb h0
 have stop:∀ (n:Int) (x y:Int),0≤x→0<y→Option.bind (Z8S X7 (n,⟨x,y⟩)) k=k (n,⟨x,y⟩):=fun n x y hx hy=>by
  rw [X3l]
  have e1:decide (x<0)=false:=by simp;omega
  have e2:decide (y≤0)=false:=by simp;omega
  simp only [X7,Xm,e1,e2,cond_false,Option.bind_some,Sum.elim_inr]
 have go:∀ (n:Int) (x y:Int),0≤n→n≤24 → -60000≤x→x≤60000 → -60000≤y→y≤60000→(x<0∨y≤0)→Option.bind (Z8S X7 (n,⟨x,y⟩)) k=Option.bind (Z8S X7 (n+8,⟨-y,x⟩)) k:=fun n x y h1 h2 h3 h4 h5 h6 h7=>by
  rw [X3l]
  have w1:IntKind.wrap .i64 (n+8)=n+8:=by rw [w64]<;>omega
  have w2:IntKind.wrap .i64 (0-y) = -y:=by rw [w64]<;>omega
  by_cases e1:x<0
  ·simp only [X7,Xm,e1,decide_true,cond_true,Option.bind_some,Sum.elim_inl,w1,w2]
  ·have e2:y≤0:=by omega
   simp only [X7,Xm,e1,e2,decide_true,decide_false,cond_true,cond_false,Option.bind_some,Sum.elim_inl,w1,w2]
 unfold X1l X43
 simp only
 by_cases c1:0≤x∧0<y
 ·rw [if_pos c1];exact stop _ _ _ c1.1 c1.2
 ·rw [if_neg c1]
  by_cases c2:0<x∧y≤0
  ·rw [if_pos c2,go 0 x y (by omega) (by omega) (by omega) (by omega) (by omega) (by omega) (by omega)]
   exact stop _ _ _ (by omega) (by omega)
  ·rw [if_neg c2]
   by_cases c3:x≤0∧y<0
   ·rw [if_pos c3,go 0 x y (by omega) (by omega) (by omega) (by omega) (by omega) (by omega) (by omega),go _ _ _ (by omega) (by omega) (by omega) (by omega) (by omega) (by omega) (by omega)]
    exact stop _ _ _ (by omega) (by omega)
   ·rw [if_neg c3,go 0 x y (by omega) (by omega) (by omega) (by omega) (by omega) (by omega) (by omega),go _ _ _ (by omega) (by omega) (by omega) (by omega) (by omega) (by omega) (by omega),go _ _ _ (by omega) (by omega) (by omega) (by omega) (by omega) (by omega) (by omega)]
    rw [show (- - y:Int)=y by omega]
    exact stop _ _ _ (by omega) (by omega)

theorem X6N {γ:Type} (q:Nat→Zu) (hq:∀ i,(h:i<8)→q i=Xb[i]) (v:Zu) (hb:0≤v.X∧v.X≤60000∧0≤v.Y∧v.Y≤60000) (n:Int) (hn:0≤n∧n≤24) (k:Int→Option γ) :
  Option.bind (X2i q v (n,0)) k=k (n+(X6G v Xb:Nat)):=by
 refine (X4 (XR q v) k 8 (fun i (b:Int)=>(b,(i:Int))) (fun i b=>0≤b∧b≤24+i) (fun i b=>k (b+(X6G v (Xb.drop i):Nat))) ?_ ?_ 0 n (by omega) (by omega)).trans (by simp)
 ·intro b _ R
  simp [XR,W0,X6G,Xb]
 ·intro i b hi hP R hR
  simp only [XR,W0]
  rw [List.drop_eq_getElem_cons (show i<Xb.length from hi)]
  have hw:IntKind.wrap .i64 ((i:Int)+1)=((i+1:Nat):Int):=by rw [w64]<;>omega
  have hwb:IntKind.wrap .i64 (b+1)=b+1:=by rw [w64]<;>omega
  have e1:decide ((i:Int)<8)=true:=by simp;omega
  have e2:decide ((0:Int)≤↑i)=true:=by simp
  have e3:decide ((i:Int)<((8:Nat):Int))=true:=by simp;omega
  have hqb:0≤(Xb[i]'hi).X∧(Xb[i]'hi).X≤1000∧0≤(Xb[i]'hi).Y∧(Xb[i]'hi).Y≤1000:=by
   have:i=0∨i=1∨i=2∨i=3∨i=4∨i=5∨i=6∨i=7:=by omega
   rcases this with rfl|rfl|rfl|rfl|rfl|rfl|rfl|rfl<;>simp [Xb]
  have b1:=X5E (a:=(Xb[i]'hi).X) (b:=v.Y) 1000 60000 (by omega) (by omega) (by omega) (by omega)
  have b2:=X5E (a:=(Xb[i]'hi).Y) (b:=v.X) 1000 60000 (by omega) (by omega) (by omega) (by omega)
  simp only [Int.toNat_natCast,hq i hi,hw,hwb]
  rw [w64 (x:=(Xb[i]'hi).X*v.Y) (by omega) (by omega),w64 (x:=(Xb[i]'hi).Y*v.X) (by omega) (by omega),w64 (x:=(Xb[i]'hi).X*v.Y-_) (by omega) (by omega)]
  simp only [e1,e2,e3,Bool.and_self,cond_true]
  unfold X6G at hR ⊢
  generalize Xb[i]'hi=Q at *
  by_cases h:Q.X*v.Y-Q.Y*v.X≤0
  ·rw [List.countP_cons_of_pos (by simpa using h)]
   simp only [h,decide_true,cond_true,Option.bind_some,Sum.elim_inl]
   rw [hR (b+1) (by omega)]
   congr 1
   push_cast
   omega
  ·rw [List.countP_cons_of_neg (by simpa using h)]
   simp only [h,decide_false,cond_false,Option.bind_some,Sum.elim_inl]
   exact hR b (by omega)

theorem X5D (v:Zu) (hb : -60000≤v.X∧v.X≤60000 ∧ -60000≤v.Y∧v.Y≤60000) (h0:¬ (v.X=0∧v.Y=0)):X3z v=some (X5F v):=by
 rw [X4C];unfold X1r
 have hq:=X7n hb h0
 rw [X6M v hb h0,X6N _ (fun i hi=>by
   have:i=0∨i=1∨i=2∨i=3∨i=4∨i=5∨i=6∨i=7:=by omega
   rcases this with rfl|rfl|rfl|rfl|rfl|rfl|rfl|rfl<;>rfl) _ (by omega) _ (by omega)]
 have hc:X6G (X43 v).2 Xb≤8:=List.countP_le_length (l:=Xb)
 unfold X5F
 rw [w64 (by omega) (by omega)]

theorem X7I {v:Zu} (hb : -60000≤v.X∧v.X≤60000 ∧ -60000≤v.Y∧v.Y≤60000) (h0:¬ (v.X=0∧v.Y=0)):0≤X5F v∧X5F v≤31:=by
 have hq:=X7n hb h0
 have hc:X6G (X43 v).2 Xb≤8:=List.countP_le_length (l:=Xb)
 have h1:1≤X6G (X43 v).2 Xb:=by
  unfold X6G Xb
  rw [List.countP_cons_of_pos (by simp;omega)]
  omega
 unfold X5F
 omega

def X6k (f:ZJ) (mark:Int) (p:Zu):Int×Int :=
 if X3A f mark=false then (0,9) else if X38 30000 p then (0,7) else if (Z8y f mark).At=p then (0,8) else (X5F (XK (Z8y f mark).At p),0)
def X48 (f:ZJ) (mark:Int) (p:Zu):Int:=if (X6k f mark p).2≠0 then -1 else (X6k f mark p).1

theorem X7m {f:ZJ} (hg:X2g f) {mark:Int} (h0:0≤mark) (h1:mark<f.Chart.Marks.length):Bd 30000 (Z8y f mark).At:=by
 have hj:mark.toNat<f.Chart.Marks.length:=by omega
 have:=(hg.mark _ (List.getElem_mem hj)).1
 rw [X62] at this
 unfold Z8y
 rw [X0 _ _ _ hj];exact this

theorem X64 {f:ZJ} (hg:X2g f) (mark:Int) (h0:0≤mark) (h1:mark<f.Chart.Marks.length) (p:Zu):X4p f.Chart f.Day mark p=some (X6k f mark p):=by
 rw [X59];unfold X1Y X6k
 rw [X3U];unfold WK
 rw [X4f hg mark h0 h1]
 have hb:=X7m hg h0 h1
 unfold X3A Z8y at *
 generalize hM:f.Chart.Marks.getD mark.toNat ⟨ByteArray.empty,⟨0,0⟩,[]⟩=M at *
 simp only [Option.bind_some,beq_self_eq_true,cond_true]
 by_cases hp:X4j M f.Day=0
 ·simp [hp]
 ·simp only [X58 hp,cond_false,Option.bind_some,bne_self_eq_false,X1j hp,Bool.true_eq_false,if_false]
  rw [X4q _ (by omega) _ (by simp)]
  simp only [Option.bind_some,List.any_cons,List.any_nil,Bool.or_false]
  cases hf:X38 30000 p
  ·rw [X62] at hf
   unfold Bd at hb hf
   simp only [cond_false,Bool.false_eq_true,if_false,Bool.and_true]
   by_cases he:M.At=p
   ·subst he;simp
   ·have:(M.At.X==p.X&&M.At.Y==p.Y)=false:=by
     cases hc:(M.At.X==p.X&&M.At.Y==p.Y)
     ·rfl
     ·exfalso;simp at hc;exact he (Zu.ext hc.1 hc.2)
    rw [this,if_neg he]
    simp only [cond_false]
    rw [w64 (x:=M.At.X-p.X) (by omega) (by omega),w64 (x:=M.At.Y-p.Y) (by omega) (by omega)]
    have h00:¬ (M.At.X-p.X=0∧M.At.Y-p.Y=0):=fun q=>he (Zu.ext (by omega) (by omega))
    rw [X5D _ (by simp only;omega) h00]
    rfl
  ·simp

theorem X7N {f:ZJ} (hg:X2g f) {mark:Int} (h0:0≤mark) (h1:mark<f.Chart.Marks.length) (p:Zu) : -1≤X48 f mark p∧X48 f mark p≤31:=by
 have hb:=X7m hg h0 h1
 unfold X48 X6k
 by_cases h:X3A f mark=false
 ·simp [h]
 ·rw [if_neg h]
  by_cases h3:X38 30000 p=true
  ·simp [h3]
  ·rw [if_neg h3]
   by_cases h4:(Z8y f mark).At=p
   ·simp [h4]
   ·rw [if_neg h4]
    simp only [Bool.not_eq_true] at h3
    rw [X62] at h3
    unfold Bd at hb h3
    have:=X7I (v:=XK (Z8y f mark).At p) (by unfold XK;simp only;omega) (fun q=>h4 (by unfold XK at q;simp only at q;exact Zu.ext (by omega) (by omega)))
    simp only [ne_eq,not_true,if_false]
    omega

theorem X4x (a b:Zh):Zh.eqb a b=true↔a=b:=by
 obtain ⟨m,⟨x,y⟩⟩:=a
 obtain ⟨m',⟨x',y'⟩⟩:=b
 simp [Zh.eqb]
theorem X5Q {v:Int} (s k:Zh):∀ m:List (Zh×Int),Z8z Zh.eqb s (Zgh Zh.eqb k v m)=bif Zh.eqb s k then some v else Z8z Zh.eqb s m
 | []=>by
  simp only [Zgh,Z8z]
 | (a,b)::m=>by
  have ih:=X5Q (v:=v) s k m
  simp only [Zgh]
  have sym:∀ x y,Zh.eqb x y=Zh.eqb y x:=fun x y=>by
   cases h:Zh.eqb y x with
   | true=>rw [(X4x _ _).1 h,(X4x x x).2 rfl]
   | false=>cases h2:Zh.eqb x y with
    | false=>rfl
    | true=>rw [(X4x _ _).1 h2,(X4x y y).2 rfl] at h;cases h
  cases e:Zh.eqb a k with
  | true =>
   have:=(X4x _ _).1 e
   subst this
   simp only [e,cond_true,Z8z]
   cases Zh.eqb s a<;>rfl
  | false =>
   have e6:Zh.eqb k a=false:=by rw [sym];exact e
   simp only [e,e6,cond_false,Z8z,ih]
   cases h:Zh.eqb s k with
   | true =>
    have:=(X4x _ _).1 h
    subst this
    simp [e,e6]
   | false=>rfl

def X1z (f:ZJ) (m:List (Zh×Int)):Prop:=∀ (mark:Int) p n,0≤mark→mark<f.Chart.Marks.length→Z8z Zh.eqb ⟨mark,p⟩ m=some n→n=X48 f mark p
theorem X76 (f:ZJ):X1z f []:=fun _ _ _ _ _ h=>by cases h

theorem X7i {f:ZJ} (hg:X2g f) {mark:Int} (h0:0≤mark) (h1:mark<f.Chart.Marks.length) (p:Zu) (l:List Zm) (kit:Nat→Nat) {m:List (Zh×Int)} (hm:X1z f m) :
  ∃ m',X1z f m'∧XI (mark,p,f,l,kit,m)=some (X48 f mark p,f,l,kit,m'):=by
 rw [X2Q];unfold Xr
 cases hf:Z8z Zh.eqb ⟨mark,p⟩ m with
 | some n=>exact ⟨m,hm,by simp only [hf,Option.isSome_some,Bool.not_true,cond_false,Option.getD_some];rw [hm _ _ _ h0 h1 hf]⟩
 | none =>
  simp only [hf,Option.isSome_none,Bool.not_false,cond_true]
  rw [X64 hg mark h0 h1]
  have put:∀ v,v=X48 f mark p→X1z f (Zgh Zh.eqb ⟨mark,p⟩ v m):=fun v hv mk q n k0 k1 hq=>by
   rw [X5Q] at hq
   cases e:Zh.eqb ⟨mk,q⟩ ⟨mark,p⟩ with
   | true =>
    rw [e] at hq
    cases (X4x _ _).1 e;cases hq;exact hv
   | false =>
    rw [e] at hq
    exact hm _ _ _ k0 k1 hq
  simp only [Option.bind_some]
  by_cases he:(X6k f mark p).2=0
  ·have hs:X48 f mark p=(X6k f mark p).1:=by unfold X48;rw [if_neg (by simp [he])]
   refine ⟨_,put _ hs.symm,?_⟩
   simp only [he,bne_self_eq_false,cond_false,hs]
  ·have hs:X48 f mark p = -1:=by unfold X48;rw [if_pos he]
   refine ⟨_,put _ hs.symm,?_⟩
   simp only [X1j he,cond_true,hs]

def X7P (shown Z5R:Int):Int:=if (shown-Z5R+32) % 32>16 then (shown-Z5R+32) % 32-32 else (shown-Z5R+32) % 32
def X3r (a:Zt) (p:Zu):Bool := !X3 a.X.Lo a.X.Hi [p.X] && !X3 a.Y.Lo a.Y.Hi [p.Y]
def X6D (f:ZJ) (p:Zu):Option Zt:=f.Areas.find? fun a=>X3r a p
def X25 (f:ZJ) (p:Zu) (x:Zm):ZE×Bool :=
 if (X1g f x.Instrument).Lead then (match X6D f p with
  | none=>(⟨-20,20⟩,true)
  | some a=>(⟨x.Shown-a.Depth.Hi,x.Shown-a.Depth.Lo⟩,x.Ground==0||x.Ground==a.Ground))
 else (⟨X7P x.Shown (X48 f x.Mark p),X7P x.Shown (X48 f x.Mark p)⟩,decide (X48 f x.Mark p≥0))

theorem X5C {f:ZJ} {x:Zm} (h:WF f x=0):(0≤x.Instrument∧x.Instrument<f.Instruments.length)∧((X1g f x.Instrument).Lead=true→0≤x.Shown∧x.Shown≤1000∧0≤x.Ground∧x.Ground≤4∧x.Mark=0) ∧
  ((X1g f x.Instrument).Lead=false→0≤x.Mark∧x.Mark<f.Chart.Marks.length∧X3A f x.Mark=true∧0≤x.Shown∧x.Shown≤31∧x.Ground=0):=by
 unfold WF at h
 cases h1:X3 0 ((f.Instruments.length:Int)-1) [x.Instrument]
 ·rw [h1] at h
  simp only [Bool.false_eq_true,if_false] at h
  simp at h1
  refine ⟨by omega,fun hL => ?_,fun hL => ?_⟩
  ·rw [if_pos hL] at h
   cases h2:X3 0 1000 [x.Shown]
   ·cases h3:X3 0 4 [x.Ground]
    ·rw [h2,h3] at h
     simp at h h2 h3
     omega
    ·rw [h2,h3] at h;simp at h
   ·rw [h2] at h;simp at h
  ·rw [if_neg (by simp [hL])] at h
   cases h2:X3 0 ((f.Chart.Marks.length:Int)-1) [x.Mark]
   ·rw [h2] at h
    cases h3:X3A f x.Mark
    ·rw [h3] at h;simp at h
    ·cases h4:X3 0 31 [x.Shown]
     ·rw [h3,h4] at h
      simp at h h2 h4
      exact ⟨by omega,by omega,rfl,by omega,by omega,by omega⟩
     ·rw [h3,h4] at h;simp at h
   ·rw [h2] at h;simp at h
 ·rw [h1] at h;simp at h

theorem X6S {f:ZJ} (hg:X2g f) {x:Zm} (hx:WF f x=0) (hL:(X1g f x.Instrument).Lead=false) (p:Zu) (l:List Zm) (kit:Nat→Nat) {m:List (Zh×Int)} (hm:X1z f m) :
  ∃ m',X1z f m'∧Xg (p,x,f,l,kit,m)=some ((X25 f p x).1,(X25 f p x).2,f,l,kit,m'):=by
 obtain ⟨h1,_,h3⟩:=X5C hx
 have h3:=h3 hL
 obtain ⟨m',hm',ht⟩:=X7i hg h3.1 h3.2.1 p l kit hm
 refine ⟨m',hm',?_⟩
 rw [X2S];unfold Xs X25 X7P
 rw [ht,if_neg (by simp [hL])]
 have hs:=X7N hg h3.1 h3.2.1 p
 generalize X48 f x.Mark p=s at *
 simp only [Option.bind_some]
 rw [w64 (x:=x.Shown-s) (by omega) (by omega),w64 (x:=x.Shown-s+32) (by omega) (by omega)]
 have ht:(x.Shown-s+32).tmod 32=(x.Shown-s+32) % 32:=Int.tmod_eq_emod_of_nonneg (by omega)
 rw [ht]
 by_cases hc:(x.Shown-s+32) % 32>16
 ·have hw:IntKind.wrap .i64 ((x.Shown-s+32) % 32-32)=(x.Shown-s+32) % 32-32:=by rw [w64]<;>omega
  simp only [hc,decide_true,cond_true,if_true,hw]
 ·simp only [hc,decide_false,cond_false,if_false]

theorem X61 {a:Zt} (h:X31 a=0):0≤a.Depth.Lo∧a.Depth.Lo≤a.Depth.Hi∧a.Depth.Hi≤1000∧a.X.Lo≤a.X.Hi∧a.Y.Lo≤a.Y.Hi∧1≤a.Ground∧a.Ground≤4:=by
 unfold X31 at h
 cases h1:(X3 (-30000) 30000 [a.X.Lo,a.X.Hi,a.Y.Lo,a.Y.Hi]||X3 0 1000 [a.Depth.Lo,a.Depth.Hi]||X3 1 4 [a.Ground])
 ·rw [h1] at h
  simp at h h1
  omega
 ·rw [h1] at h;simp at h

theorem X7E {f:ZJ} (hg:X2g f) {x:Zm} (hx:WF f x=0) (hL:(X1g f x.Instrument).Lead=true) (p:Zu) (l:List Zm) (kit:Nat→Nat) (m:List (Zh×Int)) :
  XS (p,x,f,l,kit,m)=some ((X25 f p x).1,(X25 f p x).2,f,l,kit,m):=by
 obtain ⟨h1,h2,_⟩:=X5C hx
 have h2:=h2 hL
 rw [X3t];unfold W1 X25
 rw [if_pos hL]
 have ha:=hg.areas
 refine (X4 (Xe (↑f.Areas.length) f.Areas p) _ f.Areas.length (fun i (_:Unit)=>(i:Int)) (fun _ _=>True) (fun i _=>match (f.Areas.drop i).find? fun a=>X3r a p with
   | none=>some (⟨-20,20⟩,true,f,l,kit,m)
   | some a=>some (⟨x.Shown-a.Depth.Hi,x.Shown-a.Depth.Lo⟩,x.Ground==0||x.Ground==a.Ground,f,l,kit,m)) ?_ ?_ 0 () (by omega) trivial).trans ?_
 ·intro b _ R
  simp [Xe,Xl]
 ·intro i b hi _ R hR
  have hR':=hR () trivial
  have hab:=X61 (hg.area _ (List.getElem_mem hi))
  simp only [Xe,Xl]
  rw [List.drop_eq_getElem_cons hi,List.find?_cons]
  have hw:IntKind.wrap .i64 ((i:Int)+1)=((i+1:Nat):Int):=by rw [w64]<;>omega
  simp only [Int.toNat_natCast,X0 _ _ _ hi,hw]
  rw [X1 _ _ _ (by simp),X1 _ _ _ (by simp)]
  have e1:decide ((i:Int)<↑f.Areas.length)=true:=by simp [hi]
  have e2:decide ((0:Int)≤↑i)=true:=by simp
  have e3:decide ((i:Int)<0)=false:=by simp
  simp only [e1,e2,Bool.and_self,cond_true,Option.bind_some]
  have w1:IntKind.wrap .i64 (x.Shown-f.Areas[i].Depth.Hi)=x.Shown-f.Areas[i].Depth.Hi:=by rw [w64]<;>omega
  have w2:IntKind.wrap .i64 (x.Shown-f.Areas[i].Depth.Lo)=x.Shown-f.Areas[i].Depth.Lo:=by rw [w64]<;>omega
  cases o1:X3 f.Areas[i].X.Lo f.Areas[i].X.Hi [p.X]
  ·cases o2:X3 f.Areas[i].Y.Lo f.Areas[i].Y.Hi [p.Y]
   ·have:X3r f.Areas[i] p=true:=by unfold X3r;rw [o1,o2];rfl
    simp only [this,Bool.not_false,cond_true,Option.bind_some,Sum.elim_inr,Sum.elim_inl,e3,cond_false,e1,e2,Bool.and_self,Int.toNat_natCast,X0 _ _ _ hi,w1,w2]
    by_cases hG:x.Ground=0
    ·simp [hG]
    ·simp [X58 hG]
   ·have:X3r f.Areas[i] p=false:=by unfold X3r;rw [o1,o2];rfl
    simp only [this,Bool.not_false,Bool.not_true,cond_true,cond_false,Option.bind_some,Sum.elim_inl]
    exact hR'
  ·have:X3r f.Areas[i] p=false:=by unfold X3r;rw [o1];rfl
   simp only [this,Bool.not_true,cond_false,Option.bind_some,Sum.elim_inl]
   exact hR'
 ·simp only [List.drop_zero,X6D]
  cases f.Areas.find? fun a=>X3r a p<;>rfl
end Nore
open Go Go.Ab
namespace Nore

def X6s (x k:Int):Bool:=IntKind.wrap IntKind.i64 (↑(BitVec.toNat (BitVec.ofInt (IntKind.bits IntKind.i64) (Int.fdiv x (2 ^ min (Int.toNat k) (IntKind.bits IntKind.i64))) &&& BitVec.ofInt (IntKind.bits IntKind.i64) 1)):Int)==1
theorem X7o (k:Int):X6s 0 k=false:=by
 unfold X6s
 rw [show Int.fdiv 0 (2 ^ min (Int.toNat k) (IntKind.bits IntKind.i64))=0 from Int.zero_fdiv _]
 decide

def X36 (f:ZJ) (ib mb:Int) (x:Zm):Bool:=X6s ib x.Instrument||(!(X1g f x.Instrument).Lead&&X6s mb x.Mark)
def X4r (n a:ZE):ZE:=⟨if a.Lo>n.Lo then a.Lo else n.Lo,if a.Hi<n.Hi then a.Hi else n.Hi⟩
def atL (f:ZJ) (p:Zu) (ib mb:Int):(Nat→ZE)→List Zm→(Nat→ZE)×Bool
 | s,[]=>(s,true)
 | s,x::l=>if X36 f ib mb x then atL f p ib mb s l else
  if (X25 f p x).2=false∨(X4r (X25 f p x).1 (s x.Instrument.toNat)).Lo>(X4r (X25 f p x).1 (s x.Instrument.toNat)).Hi then (s,false) else
  atL f p ib mb (fun j=>if j=x.Instrument.toNat then X4r (X25 f p x).1 (s x.Instrument.toNat) else s j) l
def X3v (f:ZJ) (i:Nat):ZE:=if h:i<f.Instruments.length then f.Instruments[i].Off else ⟨0,0⟩
def atN (f:ZJ) (l:List Zm) (p:Zu) (ib mb:Int):(Nat→ZE)×Bool:=atL f p ib mb (X3v f) l

theorem X7B {γ:Type} (f:ZJ) (hi4:f.Instruments.length≤4) (x0 x2:Int) (l:List Zm) (kit:Nat→Nat) (m:List (Zh×Int)) (p:Zu) (k:(Nat→ZE)→Option γ) :
  Option.bind (X1C (↑f.Instruments.length) x0 x2 f.Instruments f l kit m p (0,fun _=>⟨0,0⟩)) k=k (X3v f):=by
 refine (X4 (Xh (↑f.Instruments.length) x0 x2 f.Instruments f l kit m p) k f.Instruments.length (fun i (b:Nat→ZE)=>((i:Int),b)) (fun i b=>∀ j,b j=if j<i then X3v f j else ⟨0,0⟩) (fun _ _=>k (X3v f)) ?_ ?_ 0 _ (by omega) (fun j=>by simp))
 ·intro b hb R
  have:b=X3v f:=by
   funext j
   rw [hb]
   by_cases h:j<f.Instruments.length
   ·simp [h]
   ·simp [h,X3v]
  simp [Xh,Xn,this]
 ·intro i b hi hb R hR
  have hw:IntKind.wrap .i64 ((i:Int)+1)=((i+1:Nat):Int):=by rw [w64]<;>omega
  have e1:decide ((i:Int)<↑f.Instruments.length)=true:=by simp [hi]
  have e2:decide ((0:Int)≤↑i)=true:=by simp
  have e3:decide ((i:Int)<((4:Nat):Int))=true:=by simp;omega
  have e3':decide ((i:Int)<(4:Int))=true:=by simp;omega
  have e4:Nat.blt i 4=true:=by rw [Tr.blt_dec];simp;omega
  simp only [Xh,Xn,Int.toNat_natCast,X0 _ _ _ hi,hw,e1,e2,e3,e3',e4,Bool.and_self,cond_true,Option.bind_some,Sum.elim_inl]
  refine hR _ fun j => ?_
  rw [Tr.beq_dec]
  by_cases e:j=i
  ·subst e;simp [X3v,hi]
  ·simp only [e,decide_false,cond_false,hb j]
   by_cases h:j<i
   ·simp [h,show j<i+1 by omega]
   ·simp [h,show ¬ j<i+1 by omega]

theorem X7O {f:ZJ} (hg:X2g f) {l:List Zm} (hl:∀ x∈l,WF f x=0) (hll:l.length≤8) {kit:Nat→Nat} (hk:Kit f kit) {m:List (Zh×Int)} (hm:X1z f m) (p:Zu) (ib mb:Int) :
  ∃ m',X1z f m'∧Wj (ib,p,mb,f,l,kit,m)=some ((atN f l p ib mb).1,(atN f l p ib mb).2,f,l,kit,m'):=by
 rw [X3I];unfold Wo atN
 rw [X7B f hg.inst.2]
 have main:=X5I (Xi ib l mb (↑l.length) p) (fun o=>Sum.elim (fun (y:Bool×(Nat→ZE)×ZJ×List Zm×(Nat→Nat)×ZE×List (Zh×Int)×Zm)=>some (y.snd.fst,y.fst,y.snd.snd.fst,y.snd.snd.snd.fst,y.snd.snd.snd.snd.fst,y.snd.snd.snd.snd.snd.snd.fst)) (fun y=>Sum.elim (fun (y:Bool×(Nat→ZE)×ZJ×List Zm×(Nat→Nat)×ZE×List (Zh×Int)×Zm)=>some (y.snd.fst,y.fst,y.snd.snd.fst,y.snd.snd.snd.fst,y.snd.snd.snd.snd.fst,y.snd.snd.snd.snd.snd.snd.fst)) (fun (y:(Nat→ZE)×ZJ×List Zm×(Nat→Nat)×List (Zh×Int))=>some (y.fst,true,y.snd.fst,y.snd.snd.fst,y.snd.snd.snd.fst,y.snd.snd.snd.snd)) y) o) l.length
  (fun i (b:(Nat→ZE)×List (Zh×Int))=>((i:Int),b.1,f,l,kit,b.2)) (fun _ b=>X1z f b.2) (fun i b r=>∃ m',X1z f m'∧r=some ((atL f p ib mb b.1 (l.drop i)).1,(atL f p ib mb b.1 (l.drop i)).2,f,l,kit,m'))
  (by
   intro b hb R
   refine ⟨b.2,hb,?_⟩
   simp [Xi,Xo,atL])
  (by
   intro i b hi hb R hR
   have hx:=hl _ (List.getElem_mem hi)
   obtain ⟨x,hxd⟩:∃ x,l[i]=x:=⟨_,rfl⟩
   rw [hxd] at hx
   have hgd:l.getD i ⟨0,0,0,0⟩=x:=(X0 _ _ _ hi).trans hxd
   obtain ⟨h1,h2,h3⟩:=X5C hx
   have hi4:=hg.inst.2
   have hw:IntKind.wrap .i64 ((i:Int)+1)=((i+1:Nat):Int):=by rw [w64]<;>omega
   have e1:decide ((i:Int)<↑l.length)=true:=by simp [hi]
   have e2:decide ((0:Int)≤↑i)=true:=by simp
   simp only [Xi,Xo,Int.toNat_natCast,hgd,hw,e1,e2,Bool.and_self,cond_true]
   rw [List.drop_eq_getElem_cons hi,hxd]
   have hj:x.Instrument.toNat<f.Instruments.length:=by omega
   have i1:decide (0≤x.Instrument)=true:=by simp;omega
   have i2:decide (x.Instrument<((4:Nat):Int))=true:=by simp;omega
   have i2':decide (x.Instrument<(4:Int))=true:=by simp;omega
   have i3:Nat.blt x.Instrument.toNat 4=true:=by rw [Tr.blt_dec];simp;omega
   have i4:decide (x.Instrument<0)=false:=by simp;omega
   have hkk:=hk _ hj
   have hio:X1g f x.Instrument=f.Instruments[x.Instrument.toNat]:=X0 _ _ _ hj
   have hcut:∀ (n a:ZE),(⟨bif decide (a.Lo>n.Lo) then a.Lo else n.Lo,bif decide (a.Hi<n.Hi) then a.Hi else n.Hi⟩:ZE)=X4r n a:=fun n a=>by
    unfold X4r
    by_cases c1:a.Lo>n.Lo<;>by_cases c2:a.Hi<n.Hi<;>simp [c1,c2]
   have hcut1:∀ (n a:ZE),(bif decide (a.Lo>n.Lo) then a.Lo else n.Lo)=(X4r n a).Lo:=fun n a=>by rw [←hcut]
   have hcut2:∀ (n a:ZE),(bif decide (a.Hi<n.Hi) then a.Hi else n.Hi)=(X4r n a).Hi:=fun n a=>by rw [←hcut]
   have hfun:∀ (c:ZE) (s:Nat→ZE),(fun j=>bif Nat.beq j x.Instrument.toNat then c else s j)=fun j=>if j=x.Instrument.toNat then c else s j:=fun c s=>by
    funext j;rw [Tr.beq_dec];by_cases e:j=x.Instrument.toNat<;>simp [e]
   simp only [i1,i2,i2',i3,i4,Bool.and_self,cond_true,cond_false,atL]
   rcases Bool.eq_false_or_eq_true (X1g f x.Instrument).Lead with hL|hL
   rotate_left
   ·rw [←hio,hL] at hkk
    simp only [Bool.false_eq_true,if_false] at hkk
    have h3:=h3 hL
    have i5:decide (x.Mark<0)=false:=by simp;omega
    simp only [hkk,show Nat.beq 1 0=false from rfl,show Nat.beq 1 1=true from rfl,cond_false,cond_true,i5]
    have hib:(IntKind.wrap IntKind.i64 (↑(BitVec.toNat (BitVec.ofInt (IntKind.bits IntKind.i64) (Int.fdiv ib (2 ^ min (Int.toNat x.Instrument) (IntKind.bits IntKind.i64))) &&& BitVec.ofInt (IntKind.bits IntKind.i64) 1)):Int)==1)=X6s ib x.Instrument:=rfl
    have hmb:(IntKind.wrap IntKind.i64 (↑(BitVec.toNat (BitVec.ofInt (IntKind.bits IntKind.i64) (Int.fdiv mb (2 ^ min (Int.toNat x.Mark) (IntKind.bits IntKind.i64))) &&& BitVec.ofInt (IntKind.bits IntKind.i64) 1)):Int)==1)=X6s mb x.Mark:=rfl
    rw [hib,hmb]
    rcases Bool.eq_false_or_eq_true (X6s ib x.Instrument) with hb1|hb1
    rotate_left
    ·rcases Bool.eq_false_or_eq_true (X6s mb x.Mark) with hb2|hb2
     rotate_left
     ·have hsk:X36 f ib mb x=false:=by unfold X36;rw [hL,hb1,hb2];rfl
      simp only [hb1,hb2,cond_false,hsk,Bool.false_eq_true,if_false]
      obtain ⟨m',hm',hc⟩:=X6S hg hx hL p l kit hb
      rw [hc]
      simp only [Option.bind_some,hcut,hcut1,hcut2,hfun]
      cases ho:(X25 f p x).2
      ·exact ⟨m',hm',by simp⟩
      ·by_cases hc:(X4r (X25 f p x).1 (b.1 x.Instrument.toNat)).Lo>(X4r (X25 f p x).1 (b.1 x.Instrument.toNat)).Hi
       ·exact ⟨m',hm',by simp [hc]⟩
       ·simp only [Bool.not_true,cond_false,hc,decide_false,Option.bind_some,Sum.elim_inl,Bool.true_eq_false,or_self,if_false]
        exact hR (_,m') hm'
     ·have hsk:X36 f ib mb x=true:=by unfold X36;rw [hL,hb1,hb2];rfl
      simp only [hb1,hb2,cond_true,cond_false,Option.bind_some,Sum.elim_inl,hsk,if_true]
      exact hR b hb
    ·have hsk:X36 f ib mb x=true:=by unfold X36;rw [hb1];rfl
     simp only [hb1,cond_true,Option.bind_some,Sum.elim_inl,hsk,if_true]
     exact hR b hb
   ·rw [←hio,hL] at hkk
    simp only [if_true] at hkk
    have h2:=h2 hL
    simp only [hkk,show Nat.beq 2 0=false from rfl,show Nat.beq 2 1=false from rfl,show Nat.beq 2 (1+1)=true from rfl,cond_false,cond_true]
    have hib:(IntKind.wrap IntKind.i64 (↑(BitVec.toNat (BitVec.ofInt (IntKind.bits IntKind.i64) (Int.fdiv ib (2 ^ min (Int.toNat x.Instrument) (IntKind.bits IntKind.i64))) &&& BitVec.ofInt (IntKind.bits IntKind.i64) 1)):Int)==1)=X6s ib x.Instrument:=rfl
    rw [hib]
    rcases Bool.eq_false_or_eq_true (X6s ib x.Instrument) with hb1|hb1
    rotate_left
    ·have hsk:X36 f ib mb x=false:=by unfold X36;rw [hL,hb1];rfl
     simp only [hb1,cond_false,hsk,Bool.false_eq_true,if_false]
     rw [X7E hg hx hL p l kit]
     simp only [Option.bind_some,hcut,hcut1,hcut2,hfun]
     cases ho:(X25 f p x).2
     ·exact ⟨b.2,hb,by simp⟩
     ·by_cases hc:(X4r (X25 f p x).1 (b.1 x.Instrument.toNat)).Lo>(X4r (X25 f p x).1 (b.1 x.Instrument.toNat)).Hi
      ·exact ⟨b.2,hb,by simp [hc]⟩
      ·simp only [Bool.not_true,cond_false,hc,decide_false,Option.bind_some,Sum.elim_inl,Bool.true_eq_false,or_self,if_false]
       exact hR (_,b.2) hb
    ·have hsk:X36 f ib mb x=true:=by unfold X36;rw [hb1];rfl
     simp only [hb1,cond_true,Option.bind_some,Sum.elim_inl,hsk,if_true]
     exact hR b hb)
 have:=main 0 (X3v f,m) (by omega) hm
 unfold X1D
 simpa using this
end Nore
open Go Go.Ab
namespace Nore

def X1I (f:ZJ) (x y:Int):Nat→List Zu
 | 0=>[]
 | n+1=>⟨x*f.Step,y*f.Step⟩::X1I f x (y+1) n
def WA (f:ZJ):Nat:=(2*f.Half+1).toNat
def X22 (f:ZJ) (x:Int):Nat→List Zu
 | 0=>[]
 | n+1=>X1I f x (-f.Half) (WA f)++X22 f (x+1) n
def X68 (f:ZJ):List Zu:=X22 f (-f.Half) (WA f)
def X2Y (f:ZJ) (l:List Zm):List Zu:=(X68 f).filter fun p=>(atN f l p 0 0).2

theorem X51 (f:ZJ) (x:Int):∀ (n:Nat) (y:Int),(X1I f x y n).length=n
 | 0,_=>rfl
 | n+1,y=>by simp [X1I,X51 f x n]
theorem X5P (f:ZJ) (x:Int) (p:Zu):∀ (n:Nat) (y:Int),p∈X1I f x y n↔∃ j:Int,y≤j∧j<y+n∧p=⟨x*f.Step,j*f.Step⟩
 | 0,y=>by simp [X1I];intro j h1 h2;omega
 | n+1,y=>by
  simp only [X1I,List.mem_cons,X5P f x p n]
  constructor
  ·rintro (h|⟨j,h1,h2,h3⟩)
   ·exact ⟨y,by omega,by push_cast;omega,h⟩
   ·exact ⟨j,by omega,by push_cast;omega,h3⟩
  ·rintro ⟨j,h1,h2,h3⟩
   by_cases e:j=y
   ·subst e;exact .inl h3
   ·exact .inr ⟨j,by omega,by push_cast at h2;omega,h3⟩
theorem X5w (f:ZJ) (p:Zu):∀ (n:Nat) (x:Int),p∈X22 f x n↔∃ i j:Int,x≤i∧i<x+n ∧ -f.Half≤j∧j < -f.Half+WA f∧p=⟨i*f.Step,j*f.Step⟩
 | 0,x=>by simp [X22];intro i h1 h2;omega
 | n+1,x=>by
  simp only [X22,List.mem_append,X5P,X5w f p n]
  constructor
  ·rintro (⟨j,h1,h2,h3⟩|⟨i,j,h1,h2,h3,h4,h5⟩)
   ·exact ⟨x,j,by omega,by push_cast;omega,h1,h2,h3⟩
   ·exact ⟨i,j,by omega,by push_cast;omega,h3,h4,h5⟩
  ·rintro ⟨i,j,h1,h2,h3,h4,h5⟩
   by_cases e:i=x
   ·subst e;exact .inl ⟨j,h3,h4,h5⟩
   ·exact .inr ⟨i,j,by omega,by push_cast at h2;omega,h3,h4,h5⟩
theorem X6X {f:ZJ} (hh:0≤f.Half) (p:Zu):p∈X68 f↔∃ i j:Int,-f.Half≤i∧i≤f.Half ∧ -f.Half≤j∧j≤f.Half∧p=⟨i*f.Step,j*f.Step⟩:=by
 unfold X68
 rw [X5w]
 have:(WA f:Int)=2*f.Half+1:=by unfold WA;omega
 constructor
 ·rintro ⟨i,j,h1,h2,h3,h4,h5⟩;exact ⟨i,j,by omega,by omega,by omega,by omega,h5⟩
 ·rintro ⟨i,j,h1,h2,h3,h4,h5⟩;exact ⟨i,j,by omega,by omega,by omega,by omega,h5⟩
structure X7l (f:ZJ) (l:List Zm):Prop where
 fix:X2g f
 len:l.length≤8
 each:∀ x∈l,WF f x=0
theorem X6A (f:ZJ):∀ (l:List Zm) (i:Nat),(XM f i l).2=0→∀ x∈l,WF f x=0
 | [],_,_,m,hm=>by cases hm
 | x::l,i,h,m,hm=>by
  simp only [XM] at h
  by_cases h0:WF f x=0
  ·simp only [h0,if_true] at h
   rcases List.mem_cons.1 hm with e|e
   ·subst e;exact h0
   ·exact X6A f l _ h m e
  ·simp only [h0,if_false] at h
theorem X6l (f:ZJ):∀ (l:List Zm) (i:Nat),(∀ x∈l,WF f x=0)→(XM f i l).2=0
 | [],_,_=>rfl
 | x::l,i,h=>by
  simp only [XM,h x (by simp),if_true]
  exact X6l f l _ fun y hy=>h y (by simp [hy])
theorem X5N {f:ZJ} {l:List Zm} (h:(WV f l).2=0):X7l f l:=by
 unfold WV at h
 by_cases h1:(WU f).2.2=0
 ·simp only [h1,ne_eq,not_true,if_false] at h
  by_cases h8:8<l.length
  ·rw [if_pos h8] at h;simp at h
  ·rw [if_neg h8] at h
   exact ⟨X5t h1,by omega,X6A f l 0 h⟩
 ·rw [if_pos h1] at h;exact absurd h h1
theorem X77 {f:ZJ} {l:List Zm} (h1:(WU f).2.2=0) (h2:l.length≤8) (h3:∀ x∈l,WF f x=0):(WV f l).2=0:=by
 unfold WV
 rw [if_neg (by simp [h1]),if_neg (by omega)]
 exact X6l f l 0 h3

theorem X6K {f:ZJ} {l:List Zm} (hg:X7l f l) {kit:Nat→Nat} (hk:Kit f kit) (x:Int) (hx : -8≤x∧x≤8) {m:List (Zh×Int)} (hm:X1z f m) (acc:List Zu) (ha:acc.length≤1000000) {γ:Type} (k:_→Option γ) (Q:Option γ→Prop)
  (hQ:∀ m',X1z f m'→Q (k (f,l,kit,m',acc++(X1I f x (-f.Half) (WA f)).filter fun p=>(atN f l p 0 0).2))) :
  Q (Option.bind (Xz x (-f.Half,f,l,kit,m,acc)) k):=by
 have hh:=hg.fix.half
 have hs:=hg.fix.step
 have hw0:(WA f:Int)=2*f.Half+1:=by unfold WA;omega
 refine (X5I (X6 x) k (WA f) (fun i (b:List (Zh×Int)×List Zu)=>(-f.Half+i,f,l,kit,b.1,b.2)) (fun i b=>X1z f b.1∧b.2.length≤1000000+i∧b.2++((X1I f x (-f.Half+i) (WA f-i)).filter fun p=>(atN f l p 0 0).2)=acc++(X1I f x (-f.Half) (WA f)).filter fun p=>(atN f l p 0 0).2) (fun _ _ r=>Q r) ?_ ?_ 0 (m,acc) (by omega) ⟨hm,by simpa using ha,by simp⟩) |> fun h=>by simpa [Xz] using h
 ·intro b hb R
  have e1:decide (-f.Half+(WA f:Int)≤f.Half)=false:=by simp;omega
  simp only [X6,X9,e1,cond_false,Option.bind_some,Sum.elim_inr]
  have h3:=hb.2.2
  simp only [Nat.sub_self,X1I,List.filter_nil,List.append_nil] at h3
  rw [h3]
  exact hQ _ hb.1
 ·intro i b hi hb R hR
  obtain ⟨hb1,hb2,hb3⟩:=hb
  have e1:decide (-f.Half+(i:Int)≤f.Half)=true:=by simp;omega
  have hw:IntKind.wrap .i64 (-f.Half+(i:Int)+1) = -f.Half+((i+1:Nat):Int):=by rw [w64]<;>omega
  have m1:=X5E (a:=x) (b:=f.Step) 8 500 (by omega) (by omega) (by omega) (by omega)
  have m2:=X5E (a := -f.Half+(i:Int)) (b:=f.Step) 8 500 (by omega) (by omega) (by omega) (by omega)
  simp only [X6,X9,e1,cond_true]
  rw [w64 (x:=x*f.Step) (by omega) (by omega),w64 (x:=(-f.Half+(i:Int))*f.Step) (by omega) (by omega),hw]
  obtain ⟨m',hm',hc⟩:=X7O hg.fix hg.each hg.len hk hb1 ⟨x*f.Step,(-f.Half+(i:Int))*f.Step⟩ 0 0
  rw [hc]
  simp only [Option.bind_some]
  have hrow:X1I f x (-f.Half+(i:Int)) (WA f-i)=⟨x*f.Step,(-f.Half+(i:Int))*f.Step⟩::X1I f x (-f.Half+((i+1:Nat):Int)) (WA f-(i+1)):=by
   rw [show WA f-i=(WA f-(i+1))+1 by omega,X1I,show -f.Half+(i:Int)+1 = -f.Half+((i+1:Nat):Int) by push_cast;omega]
  rw [hrow] at hb3
  cases hat:(atN f l ⟨x*f.Step,(-f.Half+(i:Int))*f.Step⟩ 0 0).2
  ·simp only [cond_false,Option.bind_some,Sum.elim_inl]
   refine hR (m',b.2) ⟨hm',by simp only;omega,?_⟩
   rw [List.filter_cons_of_neg (by simp [hat])] at hb3
   exact hb3
  ·have e3:Nat.ble ((b.2.length+[(⟨x*f.Step,(-f.Half+(i:Int))*f.Step⟩:Zu)].length)*(16+1)) 200000000000000=true:=by
    apply Nat.ble_eq_true_of_le;simp only [List.length_cons,List.length_nil];have:=hh.2;omega
   simp only [cond_true,e3,Option.bind_some,Sum.elim_inl]
   refine hR (m',b.2++[⟨x*f.Step,(-f.Half+(i:Int))*f.Step⟩]) ⟨hm',by simp;omega,?_⟩
   rw [List.filter_cons_of_pos (by simp [hat])] at hb3
   rw [←hb3]
   simp

theorem X6J {f:ZJ} {l:List Zm} (hg:X7l f l) {kit:Nat→Nat} (hk:Kit f kit) {m:List (Zh×Int)} (hm:X1z f m) {γ:Type} (k:_→Option γ) (Q:Option γ→Prop)
  (hQ:∀ m',X1z f m'→Q (k (X2Y f l,f,l,kit,m'))) :
  Q (Option.bind (Xy (-f.Half,[],f,l,kit,m)) k):=by
 have hh:=hg.fix.half
 have hw0:(WA f:Int)=2*f.Half+1:=by unfold WA;omega
 refine (X5I X5 k (WA f) (fun i (b:List (Zh×Int)×List Zu)=>(-f.Half+i,b.2,f,l,kit,b.1)) (fun i b=>X1z f b.1∧b.2.length≤i*100∧b.2++((X22 f (-f.Half+i) (WA f-i)).filter fun p=>(atN f l p 0 0).2)=X2Y f l) (fun _ _ r=>Q r) ?_ ?_ 0 (m,[]) (by omega) ⟨hm,by simp,by simp [X2Y,X68]⟩) |> fun h=>by simpa [Xy] using h
 ·intro b hb R
  have e1:decide (-f.Half+(WA f:Int)≤f.Half)=false:=by simp;omega
  simp only [X5,X8,e1,cond_false,Option.bind_some,Sum.elim_inr]
  have h3:=hb.2.2
  simp only [Nat.sub_self,X22,List.filter_nil,List.append_nil] at h3
  rw [h3]
  exact hQ _ hb.1
 ·intro i b hi hb R hR
  obtain ⟨hb1,hb2,hb3⟩:=hb
  have e1:decide (-f.Half+(i:Int)≤f.Half)=true:=by simp;omega
  have hw:IntKind.wrap .i64 (-f.Half+(i:Int)+1) = -f.Half+((i+1:Nat):Int):=by rw [w64]<;>omega
  have hw2:IntKind.wrap .i64 (0-f.Half) = -f.Half:=by rw [w64]<;>omega
  have hwl:WA f≤17:=by omega
  simp only [X5,X8,e1,cond_true,hw,hw2]
  rw [Option.bind_assoc]
  refine X6K hg hk _ (by omega) hb1 b.2 (by omega) _ Q fun m' hm' => ?_
  simp only [Option.bind_some,Sum.elim_inl]
  refine hR (m',_) ⟨hm',?_,?_⟩
  ·have:=List.length_filter_le (fun p=>(atN f l p 0 0).2) (X1I f (-f.Half+(i:Int)) (-f.Half) (WA f))
   rw [X51] at this
   simp only [List.length_append]
   omega
  ·rw [←hb3,show WA f-i=(WA f-(i+1))+1 by omega,X22,show -f.Half+(i:Int)+1 = -f.Half+((i+1:Nat):Int) by push_cast;omega]
   simp

theorem X7e {f:ZJ} {l:List Zm} (hg:X7l f l) {kit:Nat→Nat} (hk:Kit f kit) {m:List (Zh×Int)} (hm:X1z f m):∃ m',X1z f m'∧Wp (f,l,kit,m)=some (f,l,kit,m',X2Y f l):=by
 rw [X2K];unfold Xp
 have hh:=hg.fix.half
 have hw2:IntKind.wrap .i64 (0-f.Half) = -f.Half:=by rw [w64]<;>omega
 simp only [hw2]
 exact X6J hg hk hm _ (fun r=>∃ m',X1z f m'∧r=some (f,l,kit,m',X2Y f l)) fun m' hm'=>⟨m',hm',rfl⟩

theorem X4N (f:ZJ) (l:List Zm):X3F f l=some (if (WV f l).2=0 then (X2Y f l,0) else ([],(WV f l).2)):=by
 rw [X5c];unfold X1Z
 rcases X7r f l with ⟨_,he,h0⟩|⟨kit,hg,h8,hk,he⟩
 ·rw [he]
  simp [h0,X1j h0]
 ·rw [he]
  simp only [Option.bind_some,Sum.elim_inr]
  by_cases h0:(WV f l).2=0
  ·obtain ⟨m',_,hp⟩:=X7e (X5N h0) hk (X76 f)
   simp only [h0,bne_self_eq_false,cond_false,if_true,hp,Option.bind_some]
  ·simp [h0,X1j h0]

theorem X6c {f:ZJ} (hg:X2g f) (l:List Zm):(X2Y f l).length≤289:=by
 have hh:=hg.half
 have hw0:(WA f:Int)=2*f.Half+1:=by unfold WA;omega
 have hw1:WA f≤17:=by omega
 have:∀ (n:Nat) (x:Int),(X22 f x n).length=n*WA f:=fun n=>by
  induction n with
  | zero=>intro x;simp [X22]
  | succ n ih=>intro x;simp only [X22,List.length_append,X51,ih,Nat.succ_mul];omega
 have h2:=List.length_filter_le (fun p=>(atN f l p 0 0).2) (X68 f)
 have h3:(X68 f).length=WA f*WA f:=this _ _
 have h4:WA f*WA f≤17*17:=Nat.mul_le_mul hw1 hw1
 unfold X2Y
 omega

end Nore
open Go Go.Ab
namespace Nore

def inS (v:Int) (s:ZE):Prop:=s.Lo≤v∧v≤s.Hi
def X6r (f:ZJ) (p:Zu) (ib mb:Int) (s:Nat→ZE) (l:List Zm) (i:Nat) (v:Int):Prop :=
 inS v (s i)∧∀ x∈l,X36 f ib mb x=false→x.Instrument.toNat=i→(X25 f p x).2=true∧inS v (X25 f p x).1

theorem X67 (n a:ZE) (v:Int):inS v (X4r n a)↔inS v n∧inS v a:=by
 unfold inS X4r
 constructor
 ·rintro ⟨h1,h2⟩
  simp only at h1 h2
  split at h1<;>split at h2<;>omega
 ·rintro ⟨h1,h2⟩
  simp only
  constructor<;>split<;>omega

theorem X55 {f:ZJ} {p:Zu} {ib mb:Int} {s:Nat→ZE} {x:Zm} {l:List Zm} {i:Nat} {v:Int} :
  X6r f p ib mb s (x::l) i v↔X6r f p ib mb s l i v∧(X36 f ib mb x=false→x.Instrument.toNat=i→(X25 f p x).2=true∧inS v (X25 f p x).1):=by
 unfold X6r
 constructor
 ·rintro ⟨h1,h2⟩
  exact ⟨⟨h1,fun y hy=>h2 y (by simp [hy])⟩,h2 x (by simp)⟩
 ·rintro ⟨⟨h1,h2⟩,h3⟩
  refine ⟨h1,fun y hy => ?_⟩
  rcases List.mem_cons.1 hy with e|e
  ·subst e;exact h3
  ·exact h2 y e

theorem X63 (f:ZJ) (p:Zu) (ib mb:Int):∀ (l:List Zm) (s:Nat→ZE),(∀ i,(s i).Lo≤(s i).Hi) →
  ((atL f p ib mb s l).2=true→(∀ i,((atL f p ib mb s l).1 i).Lo≤((atL f p ib mb s l).1 i).Hi)∧∀ i v,inS v ((atL f p ib mb s l).1 i)↔X6r f p ib mb s l i v) ∧
  ((atL f p ib mb s l).2=false→∃ x∈l,X36 f ib mb x=false∧∀ v,¬ X6r f p ib mb s l x.Instrument.toNat v)
 | [],s,hs=>by
  simp only [atL]
  exact ⟨fun _=>⟨hs,fun i v=>by simp [X6r]⟩,fun h=>by cases h⟩
 | x::l,s,hs=>by
  simp only [atL]
  by_cases hk:X36 f ib mb x=true
  ·rw [if_pos hk]
   obtain ⟨h1,h2⟩:=X63 f p ib mb l s hs
   refine ⟨fun h=>⟨(h1 h).1,fun i v => ?_⟩,fun h => ?_⟩
   ·rw [(h1 h).2 i v,X55]
    simp [hk]
   ·obtain ⟨y,hy,hy2,hy3⟩:=h2 h
    refine ⟨y,by simp [hy],hy2,fun v hv=>hy3 v ?_⟩
    exact (X55.1 hv).1
  ·rw [if_neg hk]
   have hk':X36 f ib mb x=false:=by simpa using hk
   by_cases hc:(X25 f p x).2=false∨(X4r (X25 f p x).1 (s x.Instrument.toNat)).Lo>(X4r (X25 f p x).1 (s x.Instrument.toNat)).Hi
   ·rw [if_pos hc]
    refine ⟨fun h=>(by cases h),fun _=>⟨x,by simp,hk',fun v hv => ?_⟩⟩
    obtain ⟨h1,h2⟩:=X55.1 hv
    obtain ⟨h3,h4⟩:=h2 hk' rfl
    rcases hc with hc|hc
    ·rw [hc] at h3;cases h3
    ·have:=(X67 (X25 f p x).1 (s x.Instrument.toNat) v).2 ⟨h4,h1.1⟩
     unfold inS at this;omega
   ·rw [if_neg hc]
    have hc1:(X25 f p x).2=true:=by
     cases h:(X25 f p x).2
     ·exact absurd (.inl h) hc
     ·rfl
    have hc2:(X4r (X25 f p x).1 (s x.Instrument.toNat)).Lo≤(X4r (X25 f p x).1 (s x.Instrument.toNat)).Hi:=Int.not_lt.1 fun q=>hc (.inr q)
    obtain ⟨h1,h2⟩:=X63 f p ib mb l (fun j=>if j=x.Instrument.toNat then X4r (X25 f p x).1 (s x.Instrument.toNat) else s j) (fun i=>by
     by_cases e:i=x.Instrument.toNat
     ·simp only [e,if_true];exact hc2
     ·simp only [e,if_false];exact hs i)
    have key:∀ i v,X6r f p ib mb (fun j=>if j=x.Instrument.toNat then X4r (X25 f p x).1 (s x.Instrument.toNat) else s j) l i v↔X6r f p ib mb s (x::l) i v:=fun i v=>by
     rw [X55]
     unfold X6r
     by_cases e:i=x.Instrument.toNat
     ·subst e
      simp only [if_true,X67,hk',hc1,true_and,forall_const]
      constructor
      ·rintro ⟨⟨a,b⟩,c⟩;exact ⟨⟨b,c⟩,a⟩
      ·rintro ⟨⟨b,c⟩,a⟩;exact ⟨⟨a,b⟩,c⟩
     ·simp only [e,if_false,hk',forall_const]
      constructor
      ·rintro ⟨a,b⟩;exact ⟨⟨a,b⟩,fun q=>absurd q.symm e⟩
      ·rintro ⟨⟨a,b⟩,_⟩;exact ⟨a,b⟩
    refine ⟨fun h=>⟨(h1 h).1,fun i v=>((h1 h).2 i v).trans (key i v)⟩,fun h => ?_⟩
    obtain ⟨y,hy,hy2,hy3⟩:=h2 h
    exact ⟨y,by simp [hy],hy2,fun v hv=>hy3 v ((key _ v).2 hv)⟩

theorem X7H {f:ZJ} (hg:X2g f) (i:Nat):(X3v f i).Lo≤(X3v f i).Hi:=by
 unfold X3v
 split
 ·rename_i h
  exact (hg.off _ (List.getElem_mem h)).2.1
 ·simp

def Num (f:ZJ) (l:List Zm) (p:Zu) (ib mb:Int) (i:Nat) (v:Int):Prop:=X6r f p ib mb (X3v f) l i v

theorem X7A {f:ZJ} (hg:X2g f) (l:List Zm) (p:Zu) (ib mb:Int):(atN f l p ib mb).2=true↔∀ i,∃ v,Num f l p ib mb i v:=by
 obtain ⟨h1,h2⟩:=X63 f p ib mb l (X3v f) (X7H hg)
 unfold atN
 constructor
 ·intro h i
  obtain ⟨h3,h4⟩:=h1 h
  exact ⟨_,(h4 i ((atL f p ib mb (X3v f) l).1 i).Lo).1 ⟨Int.le_refl _,h3 i⟩⟩
 ·intro h
  cases hb:(atL f p ib mb (X3v f) l).2
  ·obtain ⟨x,_,_,h3⟩:=h2 hb
   obtain ⟨v,hv⟩:=h x.Instrument.toNat
   exact absurd hv (h3 v)
  ·rfl
theorem X7c {f:ZJ} {l:List Zm} {p:Zu}:p∈X2Y f l↔p∈X68 f∧(atN f l p 0 0).2=true:=by
 unfold X2Y;rw [List.mem_filter]
theorem X6u (l:List Zu) (p:Zu) (hl:l.length<1000000):X54 l p=some (decide (p∈l)):=by
 rw [X5u];unfold X2p
 refine (X4 (X17 l p) _ l.length (fun i (_:Unit)=>(i:Int)) (fun _ _=>True) (fun i _=>some (decide (p∈l.drop i))) ?_ ?_ 0 () (by omega) trivial).trans (by simp)
 ·intro b _ R
  simp [X17,X1d]
 ·intro i b hi _ R hR
  have hR':=hR () trivial
  rw [List.drop_eq_getElem_cons hi]
  have hw:IntKind.wrap .i64 ((i:Int)+1)=((i+1:Nat):Int):=by rw [w64]<;>omega
  have e1:decide ((i:Int)<↑l.length)=true:=by simp [hi]
  have e2:decide ((0:Int)≤↑i)=true:=by simp
  simp only [X17,X1d,Int.toNat_natCast,X0 _ _ _ hi,hw,e1,e2,Bool.and_self,cond_true,Bool.and_true]
  by_cases h:p=l[i]
  ·subst h
   simp only [beq_self_eq_true,Bool.and_self,cond_true,Option.bind_some,Sum.elim_inr,Sum.elim_inl,List.mem_cons,true_or,decide_true]
  ·have:(l[i].X==p.X&&l[i].Y==p.Y)=false:=by
    cases hc:(l[i].X==p.X&&l[i].Y==p.Y)
    ·rfl
    ·exfalso;simp at hc;exact h (Zu.ext hc.1.symm hc.2.symm)
   simp only [this,cond_false,Option.bind_some,Sum.elim_inl,hR',List.mem_cons,h,false_or]

theorem X6b (f:ZJ) (l:List Zm):X4v f l=some (decide ((WV f l).2=0)):=by
 rw [X5e];unfold X23
 rw [X4I]
 simp only [Option.bind_some]
 by_cases h:(WV f l).2=0<;>simp [h,X58]
end Nore
open Go Go.Ab
namespace Nore

def X7J:Nat→List Nat→List (List Nat)
 | 0,_=>[[]]
 | _+1,[]=>[]
 | n+1,t::l=>(X7J n l).map (t :: ·)++X7J (n+1) l

def X7C (ok:List Nat→Bool) (l:List Nat):Nat→Nat→Option (List Nat)
 | _,0=>none
 | n,k+1=>match (X7J n l).find? ok with
  | some s=>some s
  | none=>X7C ok l (n+1) k

def X7G (f:ZJ):Nat:=f.Chart.Marks.length
def X7T (f:ZJ) (s:List Nat) (x:Zm):Bool := !(s.contains (X7G f+x.Instrument.toNat))&&((X1g f x.Instrument).Lead || !(s.contains x.Mark.toNat))
def X7U (f:ZJ) (l:List Zm) (s:List Nat):List Zm:=l.filter (X7T f s)
def X7V (f:ZJ) (l:List Zm) (t:Nat):Bool:=l.any fun x=>decide (X7G f+x.Instrument.toNat=t)||(!(X1g f x.Instrument).Lead&&decide (x.Mark.toNat=t))
def X7K (f:ZJ) (l:List Zm):List Nat:=(List.range (X7G f+f.Instruments.length)).filter (X7V f l)
def okW (f:ZJ) (l:List Zm) (s:List Nat):Bool := !(X2Y f (X7U f l s)).isEmpty
structure X7W (f:ZJ) (l:List Zm) (s:List Nat):Prop where
 ok:okW f l s=true
 sub:s.Sublist (X7K f l)
 least:∀ r,r.Sublist (X7K f l)→okW f l r=true→s.length≤r.length
 first:X7C (okW f l) (X7K f l) 0 (f.Instruments.length+1)=some s
end Nore
open Go Go.Ab
namespace Nore

theorem X6T {f:ZJ} {x:Zm} (h:WF f x=0):((x.Instrument.toNat:Nat):Int)=x.Instrument∧x.Instrument.toNat<f.Instruments.length:=by
 obtain ⟨⟨h1,h2⟩,_⟩:=X5C h;omega
theorem X7y (f:ZJ) (x:Zm):X36 f 0 0 x=false:=by unfold X36;simp [X7o]
end Nore
open Go Go.Ab
namespace Nore

end Nore
open Go Go.Ab
namespace Nore

abbrev PSt:=Int×Bool×ZJ×List Zm×(Nat→Nat)×Int×List (Zh×Int)
end Nore
open Go Go.Ab
namespace Nore

theorem X6Z {β σ ω:Type} (st:σ→Option (σ⊕ω)) (n:Nat) (emb:Nat→β→σ) (P:Nat→β→Prop) (Q:ω→Prop)
  (hd:∀ b,P n b→∃ w,st (emb n b)=some (.inr w)∧Q w)
  (hn:∀ i b,i<n→P i b→(∃ w,st (emb i b)=some (.inr w)∧Q w)∨∃ b',st (emb i b)=some (.inl (emb (i+1) b'))∧P (i+1) b') :
  ∀ i b,i≤n→P i b→∃ w,Z8S st (emb i b)=some w∧Q w:=by
 intro i b hi hP
 induction hj:n-i generalizing i b with
 | zero =>
  have:i=n:=by omega
  subst this
  obtain ⟨w,h1,h2⟩:=hd b hP
  exact ⟨w,by rw [ZgX,h1];rfl,h2⟩
 | succ j ih =>
  rcases hn i b (by omega) hP with ⟨w,h1,h2⟩|⟨b',h1,h2⟩
  ·exact ⟨w,by rw [ZgX,h1];rfl,h2⟩
  ·obtain ⟨w,h3,h4⟩:=ih (i+1) b' (by omega) h2 (by omega)
   exact ⟨w,by rw [ZgX,h1];exact h3,h4⟩
end Nore
open Go Go.Ab
namespace Nore

end Nore
open Go Go.Ab
namespace Nore

theorem X7Q {n:Int} (h:(Lit.int .u16 n).wf=true):0≤n∧n≤65535:=by
 simp [Lit.wf,IntKind.has,IntKind.min,IntKind.max,IntKind.signed,IntKind.bits] at h
 omega

def X3y (l:List Int) (n:Nat):Int:=if l.length=0 then 0 else l.getD (n % l.length) 0
theorem X3n (l:List Int) (h:∀ v∈l,0≤v∧v≤65535) (n:Nat):X1E l (n:Int)=some (X3y l n)∧0≤X3y l n∧X3y l n≤65535:=by
 rw [X5i];unfold X24 X3y
 by_cases h0:l.length=0
 ·simp [h0]
 ·have e0:((l.length:Int)==0)=false:=X58 (by omega)
  have hm:Int.tmod (n:Int) (l.length:Int)=((n % l.length:Nat):Int):=rfl
  have hlt:n % l.length<l.length:=Nat.mod_lt _ (by omega)
  have e1:decide ((0:Int)≤((n % l.length:Nat):Int))=true:=by simp;omega
  have e2:decide (((n % l.length:Nat):Int)<(l.length:Int))=true:=by simp;omega
  have hv:=h _ (List.getElem_mem hlt)
  simp only [e0,cond_false,hm,e1,e2,Bool.and_self,cond_true,Int.toNat_natCast,X0 _ _ _ hlt,h0,if_false]
  exact ⟨by rw [w64]<;>omega,hv⟩

def WY {α:Type} (g:Nat→α→α):Nat→List α→List α
 | _,[]=>[]
 | i,x::l=>g i x::WY g (i+1) l
theorem X3c {α:Type} (g:Nat→α→α):∀ (l:List α) (i:Nat),(WY g i l).length=l.length
 | [],_=>rfl
 | x::l,i=>by simp [WY,X3c g l]
theorem X5J {α:Type} (g:Nat→α→α) (d:α):∀ (l:List α) (i k:Nat),k<l.length→(WY g i l).getD k d=g (i+k) (l.getD k d)
 | [],_,_,h=>by simp at h
 | x::l,i,0,_=>by simp [WY]
 | x::l,i,k+1,h=>by
  simp only [WY,List.getD_cons_succ]
  rw [X5J g d l (i+1) k (by simpa using h)]
  congr 1;omega
theorem X70 {α:Type} (st:Int×List α→Option ((Int×List α)⊕List α)) (l:List α) (g:Nat→α→α)
  (hd:∀ b,st ((l.length:Int),b)=some (.inr b))
  (hn:∀ i b,(h:i<l.length)→b.length≤i→st ((i:Int),b)=some (.inl (((i+1:Nat):Int),b++[g i l[i]]))):Z8S st (0,[])=some (WY g 0 l):=by
 obtain ⟨w,h1,h2⟩:=X6Z st l.length (fun i (b:List α)=>((i:Int),b)) (fun i b=>b.length≤i∧b++WY g i (l.drop i)=WY g 0 l) (fun w=>w=WY g 0 l)
  (fun b hb=>⟨b,hd b,by have:=hb.2;simpa [WY] using this⟩)
  (fun i b hi hb => .inr ⟨_,hn i b hi hb.1,by have:=hb.1;simp;omega,by
   rw [←hb.2,List.drop_eq_getElem_cons hi];simp only [WY,List.append_assoc,List.cons_append,List.nil_append]⟩) 0 [] (by omega) ⟨by simp,by simp⟩
 exact h1.trans (by rw [h2])

def X7u (a b:Int):Int:=if a>b then a else b
def X7v (a b:Int):Int:=if a<b then a else b
def X29 (by_:List Int) (i:Nat) (x:Z5):Z5:=⟨x.Name,x.Lead,⟨X7u (x.Off.Lo-Int.tmod (X3y by_ i) 4) (-X2j x),X7v (x.Off.Hi+Int.tmod (X3y by_ (i+1)) 4) (X2j x)⟩⟩
def X28 (by_:List Int) (i:Nat) (a:Zt):Zt:=⟨a.X,a.Y,⟨X7u (a.Depth.Lo-Int.tmod (X3y by_ i) 30) 0,X7v (a.Depth.Hi+Int.tmod (X3y by_ (i+1)) 30) 1000⟩,a.Ground⟩
def WT (by_:List Int) (f:ZJ):ZJ:=⟨f.Chart,f.Day,WY (X29 by_) 0 f.Instruments,WY (X28 by_) 0 f.Areas,f.Step,f.Half⟩

theorem X72 (a b:Int):X3b a b=some ⟨a,b⟩:=by rw [X5g];rfl
theorem X3m (n k:Int) (hn:0≤n) (hk:0<k):0≤Int.tmod n k∧Int.tmod n k<k:=⟨Int.tmod_nonneg k hn,Int.tmod_lt_of_pos n hk⟩

theorem X73 {f:ZJ} (hg:X2g f) (l:List Int) (h:∀ v∈l,0≤v∧v≤65535):X1R l f (0,[])=some (WY (X29 l) 0 f.Instruments):=by
 have hI:=hg.inst
 refine X70 (Xv l f) f.Instruments (X29 l) (fun b=>by simp [Xv,XD]) ?_
 intro i b hi hb
 have e1:decide ((i:Int)<↑f.Instruments.length)=true:=by simp [hi]
 have e2:decide ((0:Int)≤↑i)=true:=by simp
 have hw:IntKind.wrap .i64 ((i:Int)+1)=((i+1:Nat):Int):=by rw [w64]<;>omega
 have hof:=hg.off _ (List.getElem_mem hi)
 obtain ⟨t1,b1,c1⟩:=X3n l h i
 obtain ⟨t2,b2,c2⟩:=X3n l h (i+1)
 have m1:=X3m _ 4 b1 (by omega)
 have m2:=X3m _ 4 b2 (by omega)
 obtain ⟨x,hx⟩:∃ x,f.Instruments[i]=x:=⟨_,rfl⟩
 have hgd:f.Instruments.getD i ⟨ByteArray.empty,false,⟨0,0⟩⟩=x:=(X0 _ _ _ hi).trans hx
 rw [hx] at hof ⊢
 have hfb:0≤X2j x∧X2j x≤20:=by unfold X2j;split<;>omega
 have ble:∀ y:Z5,Nat.ble ((b.length+[y].length)*(40+1)) 200000000000000=true:=fun y=>by
  apply Nat.ble_eq_true_of_le;simp only [List.length_cons,List.length_nil];omega
 have hw1:IntKind.wrap .i64 (x.Off.Lo-Int.tmod (X3y l i) 4)=x.Off.Lo-Int.tmod (X3y l i) 4:=by rw [w64]<;>omega
 have hw2:IntKind.wrap .i64 (x.Off.Hi+Int.tmod (X3y l (i+1)) 4)=x.Off.Hi+Int.tmod (X3y l (i+1)) 4:=by rw [w64]<;>omega
 simp only [Xv,XD,e1,e2,Bool.and_self,cond_true,Int.toNat_natCast,hgd,hw,t1,t2,Option.bind_some,hw1,hw2,X72,ble]
 have k1:IntKind.wrap .i64 (0-20) = -20:=by rw [w64]<;>omega
 have k2:IntKind.wrap .i64 (0-4) = -4:=by rw [w64]<;>omega
 rw [k1,k2]
 unfold X29 X7u X7v X2j
 cases hL:x.Lead<;>simp only [cond_true,cond_false,Bool.cond_decide,Bool.false_eq_true,if_true,if_false,hL]

theorem X74 {f:ZJ} (hg:X2g f) (l:List Int) (h:∀ v∈l,0≤v∧v≤65535):X1S l f (0,[])=some (WY (X28 l) 0 f.Areas):=by
 have hA:=hg.areas
 refine X70 (Xw l f) f.Areas (X28 l) (fun b=>by simp [Xw,XE]) ?_
 intro i b hi hb
 have e1:decide ((i:Int)<↑f.Areas.length)=true:=by simp [hi]
 have e2:decide ((0:Int)≤↑i)=true:=by simp
 have hw:IntKind.wrap .i64 ((i:Int)+1)=((i+1:Nat):Int):=by rw [w64]<;>omega
 have hof:=X61 (hg.area _ (List.getElem_mem hi))
 obtain ⟨t1,b1,c1⟩:=X3n l h i
 obtain ⟨t2,b2,c2⟩:=X3n l h (i+1)
 have m1:=X3m _ 30 b1 (by omega)
 have m2:=X3m _ 30 b2 (by omega)
 obtain ⟨x,hx⟩:∃ x,f.Areas[i]=x:=⟨_,rfl⟩
 have hgd:f.Areas.getD i ⟨⟨0,0⟩,⟨0,0⟩,⟨0,0⟩,0⟩=x:=(X0 _ _ _ hi).trans hx
 rw [hx] at hof ⊢
 have ble:∀ y:Zt,Nat.ble ((b.length+[y].length)*(56+1)) 200000000000000=true:=fun y=>by
  apply Nat.ble_eq_true_of_le;simp only [List.length_cons,List.length_nil];omega
 have hw1:IntKind.wrap .i64 (x.Depth.Lo-Int.tmod (X3y l i) 30)=x.Depth.Lo-Int.tmod (X3y l i) 30:=by rw [w64]<;>omega
 have hw2:IntKind.wrap .i64 (x.Depth.Hi+Int.tmod (X3y l (i+1)) 30)=x.Depth.Hi+Int.tmod (X3y l (i+1)) 30:=by rw [w64]<;>omega
 simp only [Xw,XE,e1,e2,Bool.and_self,cond_true,Int.toNat_natCast,hgd,hw,t1,t2,Option.bind_some,hw1,hw2,X72,ble]
 unfold X28 X7u X7v
 simp only [Bool.cond_decide]

theorem X6n (by_:List Int) (h:∀ v∈by_,0≤v∧v≤65535) (i:Nat) {x:Z5} (hx : -X2j x≤x.Off.Lo∧x.Off.Lo≤x.Off.Hi∧x.Off.Hi≤X2j x):(X29 by_ i x).Name=x.Name∧(X29 by_ i x).Lead=x.Lead∧(-X2j x≤(X29 by_ i x).Off.Lo∧(X29 by_ i x).Off.Lo≤x.Off.Lo∧x.Off.Hi≤(X29 by_ i x).Off.Hi∧(X29 by_ i x).Off.Hi≤X2j x):=by
 obtain ⟨t1,b1,c1⟩:=X3n by_ h i
 obtain ⟨t2,b2,c2⟩:=X3n by_ h (i+1)
 have m1:=X3m _ 4 b1 (by omega)
 have m2:=X3m _ 4 b2 (by omega)
 refine ⟨rfl,rfl,?_⟩
 unfold X29 X7u X7v
 simp only
 refine ⟨?_,?_,?_,?_⟩<;>split<;>omega
theorem X6m (by_:List Int) (h:∀ v∈by_,0≤v∧v≤65535) (i:Nat) {a:Zt} (ha:X31 a=0):(0≤(X28 by_ i a).Depth.Lo∧(X28 by_ i a).Depth.Lo≤a.Depth.Lo∧a.Depth.Hi≤(X28 by_ i a).Depth.Hi∧(X28 by_ i a).Depth.Hi≤1000):=by
 have hb:=X61 ha
 obtain ⟨t1,b1,c1⟩:=X3n by_ h i
 obtain ⟨t2,b2,c2⟩:=X3n by_ h (i+1)
 have m1:=X3m _ 30 b1 (by omega)
 have m2:=X3m _ 30 b2 (by omega)
 unfold X28 X7u X7v
 simp only
 refine ⟨?_,?_,?_,?_⟩<;>split<;>omega

theorem X6p (by_:List Int) (h:∀ v∈by_,0≤v∧v≤65535):∀ (l:List Z5) (i k:Nat) (names:List ByteArray),(WE i names l).2.2=0→(WE i names (WY (X29 by_) k l)).2.2=0
 | [],_,_,_,_=>rfl
 | x::l,i,k,names,h0=>by
  simp only [WE,WY] at h0 ⊢
  by_cases he:X4U x names=0
  ·simp only [he,if_true] at h0
   have hx : -X2j x≤x.Off.Lo∧x.Off.Lo≤x.Off.Hi∧x.Off.Hi≤X2j x:=X69 [x] 0 names (by simp [WE,he]) x (by simp)
   obtain ⟨h1,h2,h3⟩:=X6n by_ h k hx
   have hf:X2j (X29 by_ k x)=X2j x:=by unfold X2j;rw [h2]
   have he':X4U (X29 by_ k x) names=0:=by
    unfold X4U at he ⊢
    rw [h1,hf]
    by_cases hn:WD x.Name names=0
    ·rw [if_neg (by simp [hn])]
     have e1:X3 (-X2j x) (X2j x) [(X29 by_ k x).Off.Lo,(X29 by_ k x).Off.Hi]=false:=by simp;omega
     rw [e1,if_neg (by simp),if_neg (by omega)]
    ·rw [if_pos hn] at he;exact absurd he hn
   simp only [he',if_true,h1]
   exact X6p by_ h l (i+1) (k+1) _ h0
  ·simp only [he,if_false] at h0
theorem X6o (by_:List Int) (h:∀ v∈by_,0≤v∧v≤65535):∀ (l:List Zt) (i k:Nat),(X1O i l).2.2=0→(X1O i (WY (X28 by_) k l)).2.2=0
 | [],_,_,_=>rfl
 | x::l,i,k,h0=>by
  simp only [X1O,WY] at h0 ⊢
  by_cases he:X31 x=0
  ·simp only [he,if_true] at h0
   have hs:=X6m by_ h k he
   have hb:=X61 he
   have he':X31 (X28 by_ k x)=0:=by
    unfold X31 at he ⊢
    have hX:(X28 by_ k x).X=x.X:=rfl
    have hY:(X28 by_ k x).Y=x.Y:=rfl
    have hG:(X28 by_ k x).Ground=x.Ground:=rfl
    rw [hX,hY,hG]
    have e1:X3 0 1000 [(X28 by_ k x).Depth.Lo,(X28 by_ k x).Depth.Hi]=false:=by simp;omega
    have e2:X3 0 1000 [x.Depth.Lo,x.Depth.Hi]=false:=by simp;omega
    rw [e1]
    rw [e2] at he
    split at he
    ·cases he
    ·rename_i h1
     rw [if_neg h1,if_neg (by omega)]
   simp only [he',if_true]
   exact X6o by_ h l (i+1) (k+1) h0
  ·simp only [he,if_false] at h0

theorem X7j (by_:List Int) (h:∀ v∈by_,0≤v∧v≤65535) {f:ZJ} (hc:(WU f).2.2=0):(WU (WT by_ f)).2.2=0:=by
 unfold WU at hc ⊢
 have e1:(WT by_ f).Chart=f.Chart:=rfl
 have e2:(WT by_ f).Day=f.Day:=rfl
 have e3:(WT by_ f).Step=f.Step:=rfl
 have e4:(WT by_ f).Half=f.Half:=rfl
 have e5:(WT by_ f).Instruments=WY (X29 by_) 0 f.Instruments:=rfl
 have e6:(WT by_ f).Areas=WY (X28 by_) 0 f.Areas:=rfl
 rw [e1,e2,e3,e4,e5,e6,X3c,X3c]
 split at hc
 ·rename_i h1;exact absurd hc h1
 ·rename_i h1
  rw [if_neg h1]
  split at hc
  ·cases hc
  ·rename_i h2
   rw [if_neg h2]
   split at hc
   ·cases hc
   ·rename_i h3
    rw [if_neg h3]
    split at hc
    ·rename_i h4;exact absurd hc h4
    ·rename_i h4
     rw [if_neg (by simp only [ne_eq,Decidable.not_not] at h4 ⊢;exact X6p by_ h _ _ _ _ h4)]
     split at hc
     ·cases hc
     ·rename_i h5
      rw [if_neg h5]
      exact X6o by_ h _ _ _ hc

theorem X6C (by_:List Int) {f:ZJ} {i:Int} (h1:i.toNat<f.Instruments.length):X1g (WT by_ f) i=X29 by_ i.toNat (X1g f i):=by
 unfold X1g
 have:=X5J (X29 by_) ⟨ByteArray.empty,false,⟨0,0⟩⟩ f.Instruments 0 i.toNat h1
 rw [Nat.zero_add] at this
 exact this
theorem X7k (by_:List Int) {f:ZJ} {x:Zm} (h0:WF f x=0):WF (WT by_ f) x=0:=by
 obtain ⟨n1,n2⟩:=X6T h0
 have hi:=X6C by_ (i:=x.Instrument) n2
 unfold WF at h0 ⊢
 have e1:(WT by_ f).Instruments.length=f.Instruments.length:=X3c _ _ _
 have e2:(X1g (WT by_ f) x.Instrument).Lead=(X1g f x.Instrument).Lead:=by rw [hi];rfl
 rw [e1,e2]
 exact h0

theorem X6B (by_:List Int) (q:Zt→Bool) (hq:∀ i a,q (X28 by_ i a)=q a):∀ (l:List Zt) (i:Nat),(l.find? q=none→(WY (X28 by_) i l).find? q=none)∧∀ a,l.find? q=some a→∃ k,(WY (X28 by_) i l).find? q=some (X28 by_ k a)
 | [],_=>by simp [WY]
 | x::l,i=>by
  obtain ⟨h1,h2⟩:=X6B by_ q hq l (i+1)
  simp only [WY,List.find?_cons,hq]
  cases q x
  ·exact ⟨h1,h2⟩
  ·refine ⟨fun h=>(by cases h),fun a h=>⟨i,?_⟩⟩
   cases h;rfl

theorem X7M (by_:List Int) (h:∀ v∈by_,0≤v∧v≤65535) {f:ZJ} (hg:X2g f) (p:Zu) {x:Zm} (hx:WF f x=0) {v:Int} (h1:(X25 f p x).2=true∧inS v (X25 f p x).1):(X25 (WT by_ f) p x).2=true∧inS v (X25 (WT by_ f) p x).1:=by
 obtain ⟨n1,n2⟩:=X6T hx
 have hi:=X6C by_ (i:=x.Instrument) n2
 have e2:(X1g (WT by_ f) x.Instrument).Lead=(X1g f x.Instrument).Lead:=by rw [hi];rfl
 unfold X25 at h1 ⊢
 rw [e2]
 cases hL:(X1g f x.Instrument).Lead
 ·rw [hL] at h1
  exact h1
 ·rw [hL] at h1
  obtain ⟨w1,w2⟩:=X6B by_ (fun a=>X3r a p) (fun i a=>rfl) f.Areas 0
  simp only [if_true] at h1 ⊢
  have ea:X6D (WT by_ f) p=(WY (X28 by_) 0 f.Areas).find? fun a=>X3r a p:=rfl
  rw [ea]
  unfold X6D at h1
  cases hf:f.Areas.find? (fun a=>X3r a p) with
  | none=>rw [hf] at h1;rw [w1 hf];exact h1
  | some a =>
   rw [hf] at h1
   obtain ⟨k,hk⟩:=w2 a hf
   rw [hk]
   have hs:=X6m by_ h k (hg.area a (List.mem_of_find?_eq_some hf))
   unfold inS at h1 ⊢
   simp only at h1 ⊢
   exact ⟨h1.1,by omega,by omega⟩

theorem X7L (by_:List Int) (h:∀ v∈by_,0≤v∧v≤65535) {f:ZJ} (hg:X2g f) {l:List Zm} (hl:∀ x∈l,WF f x=0) {p:Zu} {i:Nat} {v:Int} (hv:Num f l p 0 0 i v):Num (WT by_ f) l p 0 0 i v:=by
 refine ⟨?_,fun x hx hk hi=>X7M by_ h hg p (hl x hx) (hv.2 x hx (X7y f x) hi)⟩
 have h1:=hv.1
 unfold X3v at h1 ⊢
 have e5:(WT by_ f).Instruments=WY (X29 by_) 0 f.Instruments:=rfl
 by_cases c:i<f.Instruments.length
 ·rw [dif_pos c] at h1
  have c':i<(WT by_ f).Instruments.length:=by rw [e5,X3c];exact c
  rw [dif_pos c']
  have hget:(WT by_ f).Instruments[i]=X29 by_ i f.Instruments[i]:=by
   have:=X5J (X29 by_) ⟨ByteArray.empty,false,⟨0,0⟩⟩ f.Instruments 0 i c
   rw [Nat.zero_add,X0 _ _ _ c,X0 _ _ _ (by rw [X3c];exact c)] at this
   exact this
  rw [hget]
  obtain ⟨_,_,h3⟩:=X6n by_ h i (hg.off _ (List.getElem_mem c))
  unfold inS at h1 ⊢
  omega
 ·rw [dif_neg c] at h1
  have c':¬ i<(WT by_ f).Instruments.length:=by rw [e5,X3c];exact c
  rw [dif_neg c']
  exact h1

theorem X75 (a b:List Zu) (ha:a.length<1000000) (hb:b.length<1000000) (h:∀ p∈b,p∈a):X1T a b 0=some (.inr ()):=by
 obtain ⟨w,h1,h2⟩:=X6Z (Xx a b) b.length (fun i (_:Unit)=>(i:Int)) (fun _ _=>True) (fun w=>w = .inr ())
  (fun _ _=>⟨.inr (),by simp [Xx,XF],rfl⟩)
  (fun i _ hi _=>by
   right
   refine ⟨(),?_,trivial⟩
   have hw:IntKind.wrap .i64 ((i:Int)+1)=((i+1:Nat):Int):=by rw [w64]<;>omega
   have e1:decide ((i:Int)<↑b.length)=true:=by simp [hi]
   have e2:decide ((0:Int)≤↑i)=true:=by simp
   simp only [Xx,XF,Int.toNat_natCast,X0 _ _ _ hi,hw,e1,e2,Bool.and_self,cond_true]
   rw [X6u _ _ ha]
   simp only [h _ (List.getElem_mem hi),decide_true,Option.bind_some,Bool.not_true,cond_false]) 0 () (by omega) trivial
 exact h1.trans (by rw [h2])

theorem X6q (f:ZJ) (l:List Zm) (y:List Int) (hy':∀ v,List.Mem v y→(Lit.int .u16 v).wf=true):X2V f l y=some true:=by
 have hy:∀ v∈y,0≤v∧v≤65535:=fun v hv=>X7Q (hy' v hv)
 rw [X3Z];unfold WP
 rw [X6b]
 simp only [Option.bind_some]
 by_cases hc:(WV f l).2=0
 ·have hs:=X5N hc
  have hf:(WU f).2.2=0:=by
   unfold WV at hc
   by_cases h1:(WU f).2.2=0
   ·exact h1
   ·rw [if_pos h1] at hc;exact absurd hc h1
  have hf':=X7j y hy hf
  have hg':=X5t hf'
  have hc':(WV (WT y f) l).2=0:=X77 hf' hs.len fun x hx=>X7k y (hs.each x hx)
  simp only [hc,decide_true,Bool.not_true,cond_false]
  rw [X73 hs.fix y hy]
  simp only [Option.bind_some]
  rw [X74 hs.fix y hy]
  simp only [Option.bind_some]
  rw [show (ZJ.mk f.Chart f.Day (WY (X29 y) 0 f.Instruments) (WY (X28 y) 0 f.Areas) f.Step f.Half)=WT y f from rfl]
  rw [X4N,X4N]
  simp only [hc,hc',if_true,Option.bind_some,bne_self_eq_false,cond_false]
  have n1:=X6c hs.fix l
  have n2:=X6c hg' l
  rw [X75 _ _ (by omega) (by omega) (fun p hp => ?_)]
  ·simp
  ·rw [X7c] at hp ⊢
   refine ⟨(X6X (f:=WT y f) hg'.half.1 p).2 ((X6X hs.fix.half.1 p).1 hp.1),?_⟩
   have h2:=hp.2
   rw [X7A hs.fix] at h2
   rw [X7A hg']
   intro i
   obtain ⟨v,hv⟩:=h2 i
   exact ⟨v,X7L y hy hs.fix hs.each hv⟩
 ·simp [hc]
end Nore
open Go Go.Ab Go.Proofs.Ytehofdemanfenaa
namespace Nore

end Nore
open Go Go.Ab Go.Proofs.Ytehofdemanfenaa
namespace Nore

end Nore
