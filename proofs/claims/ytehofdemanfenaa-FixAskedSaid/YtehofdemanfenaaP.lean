/- The plain functions of the program and of the document answer alike. -/
import Derived.Test.YtehofdemanfenaaD
import Derived.Test.YtehofdemanfenaaY
set_option linter.unusedSectionVars false
set_option linter.unusedVariables false
set_option linter.unusedSimpArgs false
open Go Go.Ab
namespace Nore

theorem w64 {x:Int} (h1 : -9223372036854775808≤x) (h2:x≤9223372036854775807):IntKind.wrap .i64 x=x:=by
 simp only [IntKind.wrap,IntKind.signed,IntKind.bits]
 simp
 omega

theorem X3n {σ ω γ:Type} (st:σ→Option (σ⊕ω)) (k:ω→Option γ) (s:σ):Option.bind (Z8S st s) k=Option.bind (st s) (Sum.elim (fun s'=>Option.bind (Z8S st s') k) k):=by
 rw [ZgX]
 cases st s with
 | none=>rfl
 | some r=>cases r<;>rfl

theorem X4 {β σ ω γ:Type} (st:σ→Option (σ⊕ω)) (k:ω→Option γ) (n:Nat) (emb:Nat→β→σ) (P:Nat→β→Prop) (nice:Nat→β→Option γ)
  (hd:∀ b,P n b→∀ R:σ→Option γ,Option.bind (st (emb n b)) (Sum.elim R k)=nice n b)
  (hn:∀ i b,i<n→P i b→∀ R:σ→Option γ,(∀ b',P (i+1) b'→R (emb (i+1) b')=nice (i+1) b')→Option.bind (st (emb i b)) (Sum.elim R k)=nice i b) :
  ∀ i b,i≤n→P i b→Option.bind (Z8S st (emb i b)) k=nice i b:=by
 intro i b hi hP
 induction hj:n-i generalizing i b with
 | zero =>
  have:i=n:=by omega
  subst this
  rw [X3n];exact hd b hP _
 | succ j ih =>
  rw [X3n]
  exact hn i b (by omega) hP _ fun b' hb'=>ih (i+1) b' (by omega) hb' (by omega)

theorem X25 {γ:Type} (o:Option γ):Option.bind o (fun x=>some x)=o:=by cases o<;>rfl

theorem X5H {β σ ω:Type} (st:σ→Option (σ⊕ω)) (n:Nat) (emb:Nat→β→σ) (P:Nat→β→Prop) (nice:Nat→β→Option ω)
  (hd:∀ b,P n b→∀ R:σ→Option ω,Option.bind (st (emb n b)) (Sum.elim R some)=nice n b)
  (hn:∀ i b,i<n→P i b→∀ R:σ→Option ω,(∀ b',P (i+1) b'→R (emb (i+1) b')=nice (i+1) b')→Option.bind (st (emb i b)) (Sum.elim R some)=nice i b)
  (i:Nat) (b:β) (hi:i≤n) (hP:P i b):Z8S st (emb i b)=nice i b:=by
 rw [←X25 (Z8S st (emb i b))]
 exact X4 st some n emb P nice hd hn i b hi hP

theorem X3z {a b:Int} (h:¬ a=b):(a==b)=false:=beq_eq_false_iff_ne.2 h
theorem WS {a b:Int} (h:¬ a=b):(a != b)=true:=bne_iff_ne.2 h

theorem X0 {α:Type} (l:List α) (i:Nat) (d:α) (h:i<l.length):l.getD i d=l[i]:=by simp [List.getD,h]

def X3 (lo hi:Int) (l:List Int):Bool:=l.any fun n=>decide (n<lo)||decide (n>hi)
@[simp] theorem X5z (lo hi:Int):X3 lo hi []=false:=rfl
@[simp] theorem X3y (lo hi n:Int) (l:List Int):X3 lo hi (n::l)=(decide (n<lo)||decide (n>hi)||X3 lo hi l):=rfl
def inN (n lo hi:Int):Bool:=decide (lo≤n)&&decide (n≤hi)

theorem WN (lo up:Int) (l:List Int) (hl:l.length<1000000):X1a lo up l=some (X3 lo up l):=by
 have key:=X4 (X1b (↑l.length) l up lo) (fun o3=>Sum.elim (fun y4:Int=>some (decide (y4≥0))) (fun _=>some (decide ((-1:Int)≥0))) o3) l.length (fun i (_:Unit)=>(i:Int)) (fun _ _=>True) (fun i _=>some (X3 lo up (l.drop i)))
  (by
   intro b _ R
   simp [X1b,X1f])
  (by
   intro i b hi _ R hR
   have hR':=hR () trivial
   simp only [X1b,X1f]
   rw [List.drop_eq_getElem_cons hi]
   simp only [Int.toNat_natCast,X0 _ _ _ hi,X3y]
   have hw:IntKind.wrap .i64 ((i:Int)+1)=((i+1:Nat):Int):=by rw [w64]<;>omega
   rw [hw]
   have h1:decide ((i:Int)<↑l.length)=true:=by simp [hi]
   have h2:decide ((0:Int)≤↑i)=true:=by simp
   simp only [h1,h2,Bool.and_self,cond_true]
   by_cases h3:l[i]<lo
   ·simp [h3]
   ·by_cases h4:l[i]>up
    ·simp [h3,h4]
    ·simp [h3,h4];exact hR')
 exact (key 0 () (by omega) trivial).trans (by simp)

theorem X1l (n lo hi:Int):X1B n lo hi=some (inN n lo hi):=by
 unfold X1B inN
 by_cases h:lo≤n<;>simp [h]
end Nore
open Go Go.Ab
namespace Nore

def X51:Int→List UInt8→Option Int
 | last,[]=>some last
 | last,c::l=>if 97≤(c.toNat:Int)∧(c.toNat:Int)≤122 then X51 c.toNat l else if (c.toNat:Int)≠45∨last=45 then none else X51 c.toNat l
def X44:Option Int→Bool
 | none=>false
 | some last=>last != 45
def X52 (s:ByteArray):Bool:=decide (s.size≤14)&&X44 (X51 45 s.toList)

theorem X7v (s:ByteArray) (i:Nat) (h:(s.get! i).toNat<128):Utf8.decode s i=((s.get! i).toNat,1):=by
 unfold Utf8.decode;simp only [Nat.add_zero];rw [if_pos h]
theorem X7u (s:ByteArray) (i:Nat) (h:¬ (s.get! i).toNat<128):128≤(Utf8.decode s i).1:=by
 unfold Utf8.decode
 simp only [Nat.add_zero,Utf8.runeError]
 rw [if_neg h]
 repeat' split
 all_goals simp_all
 all_goals omega

theorem X1D (s:ByteArray):s.toList.length=s.size:=by rw [ByteArray.toList_eq];rfl
theorem X7b (s:ByteArray) (i:Nat) (h:i<s.toList.length):s.get! i=s.toList[i]:=by
 have hs:i<s.size:=by rw [←X1D];exact h
 simp only [ByteArray.toList_eq]
 show s.data[i]! = _
 have h2:i<s.data.size:=hs
 rw [getElem!_pos s.data i h2]
 rfl

theorem X4c (s:ByteArray):X2u s=some (X52 s):=by
 have key:=X4 (WP s s) (fun o0=>Sum.elim (fun y1:Bool×Nat=>some y1.fst) (fun y2:Int×Nat=>bif decide ((↑(ByteArray.size s):Int)≤14) then some (y2.fst != 45) else some false) o0) s.toList.length (fun i (b:Int)=>(b,i)) (fun _ _=>True) (fun i b=>some (decide (s.size≤14)&&X44 (X51 b (s.toList.drop i))))
  (by
   intro b _ R
   have hh:(decide ((↑s.size:Int)≤14))=decide (s.size≤14):=by rw [decide_eq_decide];omega
   have hd:s.toList.drop s.size=[]:=List.drop_eq_nil_of_le (by rw [X1D];exact Nat.le_refl _)
   simp only [hd,X51,X44,WP,WT,X1D,hh,Nat.lt_irrefl,decide_false,cond_false,Option.bind_some,Sum.elim_inr]
   cases decide (s.size≤14)<;>simp)
  (by
   intro i b hi _ R hR
   have hs:i<s.size:=by rw [←X1D];exact hi
   have hg:=X7b s i hi
   simp only [WP,WT]
   rw [List.drop_eq_getElem_cons hi]
   simp only [X51]
   by_cases h:(s.get! i).toNat<128
   ·rw [X7v s i h]
    have hR':=hR ((s.get! i).toNat:Int) trivial
    rw [hg] at *
    generalize s.toList[i]=c at *
    simp only [hs,decide_true,cond_true]
    by_cases h1:97≤(c.toNat:Int)
    ·have q1:decide ((c.toNat:Int)≥97)=true:=decide_eq_true h1
     by_cases h2:(c.toNat:Int)≤122
     ·have q2:decide ((c.toNat:Int)≤122)=true:=decide_eq_true h2
      simp only [decide_true,decide_false,q1,q2,cond_true,Option.bind_some,Sum.elim_inl,h1,h2,and_self,if_true]
      exact hR'
     ·have q2:decide ((c.toNat:Int)≤122)=false:=decide_eq_false h2
      have h3:¬ ((c.toNat:Int)=45):=by omega
      have q3:((c.toNat:Int) != 45)=true:=bne_iff_ne.2 h3
      simp only [decide_true,decide_false,q1,q2,q3,cond_true,cond_false,Option.bind_some,Sum.elim_inl,Sum.elim_inr,h2,and_false,if_false,ne_eq,h3,not_false_iff,true_or,if_true,X44,Bool.and_false]
    ·have q1:decide ((c.toNat:Int)≥97)=false:=decide_eq_false h1
     by_cases h3:(c.toNat:Int)=45
     ·have q3:((c.toNat:Int) != 45)=false:=by rw [h3];rfl
      by_cases h4:b=45
      ·have q4:(b==45)=true:=by rw [h4];rfl
       rw [q1,q3,q4,if_neg (fun hc=>h1 hc.1),if_pos (Or.inr h4)]
       simp [X44]
      ·have q4:(b==45)=false:=beq_eq_false_iff_ne.2 h4
       simp only [decide_true,decide_false,q1,q3,q4,cond_true,cond_false,Option.bind_some,Sum.elim_inl,Sum.elim_inr,h1,false_and,if_false,h4,ne_eq,h3,not_true,or_self,if_true]
       rw [h3] at hR'
       exact hR'
     ·have q3:((c.toNat:Int) != 45)=true:=bne_iff_ne.2 h3
      simp only [decide_true,decide_false,q1,q3,cond_true,cond_false,Option.bind_some,Sum.elim_inl,Sum.elim_inr,h1,false_and,if_false,ne_eq,h3,not_false_iff,true_or,if_true,X44,Bool.and_false]
   ·have h':=X7u s i h
    rw [hg] at h
    generalize s.toList[i]=c at *
    simp only [hs,decide_true,cond_true]
    generalize (Utf8.decode s i)=d at *
    have e1:((d.1:Nat):Int)≥97:=by omega
    have e2:¬ ((d.1:Nat):Int)≤122:=by omega
    have e3:¬ ((d.1:Nat):Int)=45:=by omega
    have e4:¬ ((c.toNat:Int)≤122):=by omega
    have e5:¬ ((c.toNat:Int)=45):=by omega
    have q1:decide (((d.1:Nat):Int)≥97)=true:=decide_eq_true e1
    have q2:decide (((d.1:Nat):Int)≤122)=false:=decide_eq_false e2
    have q3:(((d.1:Nat):Int) != 45)=true:=bne_iff_ne.2 e3
    simp only [decide_true,decide_false,q1,q2,q3,cond_true,cond_false,Option.bind_some,Sum.elim_inl,Sum.elim_inr,e4,and_false,if_false,ne_eq,e5,not_false_iff,true_or,if_true,X44,Bool.and_false])
 exact (key 0 45 (by omega) trivial).trans (by simp [X52])

theorem X6t (s:ByteArray):X3R s=some (X52 s):=by
 unfold X3R
 rw [X1l]
 simp only [Option.bind_some]
 by_cases hsz:1≤s.size∧s.size≤14
 ·have e1:inN (↑s.size) 1 14=true:=by simp [inN];omega
  rw [e1]
  simp only [Bool.not_true,cond_false]
  have hl:=X1D s
  have key:=X4 (WR s) (fun o0=>Sum.elim (fun y76:Bool=>some y76) (fun _:Unit=>some true) o0) s.toList.length (fun i (_:Int)=>(i:Int)) (fun i b=>b=if i=0 then 45 else ((s.toList.getD (i-1) 0).toNat:Int)) (fun i b=>some (if i<s.toList.length then X44 (X51 b (s.toList.drop i)) else true))
   (by
    intro b _ R
    simp [WR,X12,X1D])
   (by
    intro i b hi hP R hR
    have hs:i<s.size:=by rw [←X1D];exact hi
    simp only [WR,X12]
    rw [List.drop_eq_getElem_cons hi]
    have hR':=hR ((s.toList[i]).toNat:Int) (by simp [List.getD,hi])
    have hw:IntKind.wrap .i64 ((i:Int)+1)=((i+1:Nat):Int):=by rw [w64]<;>omega
    have hw1:IntKind.wrap .i64 ((i:Int)-1)=((i:Int)-1):=by rw [w64]<;>omega
    have hw2:IntKind.wrap .i64 ((s.size:Int)-1)=((s.size:Int)-1):=by rw [w64]<;>omega
    simp only [X51,Int.toNat_natCast,X0 _ _ _ hi,hw,hw1,hw2]
    have d1:decide ((i:Int)<↑s.size)=true:=by simp [hs]
    have d2:decide ((0:Int)≤↑i)=true:=by simp
    simp only [d1,d2,Bool.and_self,cond_true,hi,if_true]
    generalize hc:s.toList[i]=c at *
    by_cases h1:97≤(c.toNat:Int)∧(c.toNat:Int)≤122
    ·have q1:decide ((c.toNat:Int)≥97)=true:=decide_eq_true h1.1
     have q2:decide ((c.toNat:Int)≤122)=true:=decide_eq_true h1.2
     simp only [decide_true,decide_false,q1,q2,cond_true,Option.bind_some,Sum.elim_inl,h1,and_self,if_true]
     have hne:¬ ((c.toNat:Int)=45):=by omega
     rw [hR']
     by_cases hi2:i+1<s.toList.length
     ·simp [hi2]
     ·have:s.toList.drop (i+1)=[]:=List.drop_eq_nil_of_le (by omega)
      simp [hi2,this,X51,X44,hne]
    ·have g:(bif decide ((c.toNat:Int)≥97) then bif decide ((c.toNat:Int)≤122) then true else false else false)=false:=by
      by_cases a1:(c.toNat:Int)≥97
      ·by_cases a2:(c.toNat:Int)≤122
       ·exact absurd ⟨a1,a2⟩ h1
       ·simp [a1,a2]
      ·simp [a1]
     have g2:∀ (Z:Type) (x y:Z),(bif decide ((c.toNat:Int)≥97) then bif decide ((c.toNat:Int)≤122) then x else y else y)=y:=by
      intro Z x y
      by_cases a1:(c.toNat:Int)≥97
      ·by_cases a2:(c.toNat:Int)≤122
       ·exact absurd ⟨a1,a2⟩ h1
       ·simp [a1,a2]
      ·simp [a1]
     rw [g2,if_neg h1]
     by_cases h2:(c.toNat:Int)=45
     ·simp only [h2,bne_self_eq_false,cond_false]
      by_cases h3:i=0
      ·subst h3
       simp [hP,X44]
      ·by_cases h4:i+1=s.size
       ·have:s.toList.drop (i+1)=[]:=List.drop_eq_nil_of_le (by omega)
        have e5:(i:Int)=(s.size:Int)-1:=by omega
        have e6:((s.size:Int)-1==0)=false:=by simp;omega
        simp only [e5,e6,this,X51]
        by_cases h5:b=45<;>simp [h5,X44]
       ·have e5:((i:Int)==(s.size:Int)-1)=false:=by simp;omega
        have e6:((i:Int)==0)=false:=by simp;omega
        have e7:(0:Int)≤(i:Int)-1:=by omega
        have e8:(i:Int)-1<(s.size:Int):=by omega
        have e9:((i:Int)-1).toNat=i-1:=by omega
        simp only [e5,e6,e7,e8,e9,cond_false,decide_true,Bool.and_self,cond_true]
        simp only [h3,if_false] at hP
        rw [←hP]
        by_cases h5:b=45
        ·simp [h5,X44]
        ·have q5:(b==45)=false:=beq_eq_false_iff_ne.2 h5
         rw [h2] at hR'
         rw [q5]
         simp only [cond_false,Option.bind_some,Sum.elim_inl,ne_eq,not_true,false_or,h5,if_false]
         rw [hR']
         simp [show i+1<s.toList.length by omega]
     ·have:((c.toNat:Int) != 45)=true:=by simp [h2]
      simp [this,h2,X44])
  have:=key 0 45 (by omega) (by simp)
  refine this.trans ?_
  simp [X52,show 0<s.toList.length by omega,hsz.2]
 ·have e1:inN (↑s.size) 1 14=false:=by
   simp [inN];omega
  rw [e1]
  simp only [Bool.not_false,cond_true,X52]
  by_cases h:s.size≤14
  ·have h0:s.toList=[]:=by
    apply List.eq_nil_of_length_eq_zero;rw [X1D];omega
   simp [h0,X51,X44]
  ·simp [h]

end Nore
open Go Go.Ab
namespace Nore

def X3a (m:Int) (p:Zu):Bool:=X3 (-m) m [p.X,p.Y]
def X45:Int→List Zk→Int
 | _,[]=>0
 | last,p::l=>if X3 0 40000 [p.Day]||X3 0 4 [p.Colour] then 7 else if p.Day≤last then 2 else X45 p.Day l
def X2Z (l:List Zk):Int:=if X3 1 4 [(l.length:Int)] then 3 else X45 (-1) l
def X6F (b:ZB) (m w:Int):Int:=if X3 (-m) m [b.X.Lo,b.X.Hi,b.Y.Lo,b.Y.Hi] then 7 else if X3 0 w [b.X.Hi-b.X.Lo,b.Y.Hi-b.Y.Lo] then 2 else 0

theorem X15 (n lo hi:Int):inN n lo hi = !X3 lo hi [n]:=by
 simp only [inN,X3y,X5z,Bool.or_false,Bool.not_or]
 congr 1<;>rw [←decide_not,decide_eq_decide]<;>omega

theorem X4r (m:Int) (hm:0≤m∧m≤1000000) (l:List Zu) (hl:l.length<1000000):X3x m l=some (l.any (X3a m)):=by
 have hm1:IntKind.wrap .i64 (0-m) = -m:=by rw [w64]<;>omega
 have key:=X4 (X19 (↑l.length) l m) (fun o7=>Sum.elim (fun y8:Int×Zu×(List Int)=>some (decide (y8.fst≥0))) (fun _=>some (decide ((-1:Int)≥0))) o7) l.length (fun i (_:Unit)=>(i:Int)) (fun _ _=>True) (fun i _=>some ((l.drop i).any (X3a m)))
  (by
   intro b _ R
   simp [X19,X1e])
  (by
   intro i b hi _ R hR
   have hR':=hR () trivial
   simp only [X19,X1e]
   rw [List.drop_eq_getElem_cons hi]
   have hw:IntKind.wrap .i64 ((i:Int)+1)=((i+1:Nat):Int):=by rw [w64]<;>omega
   simp only [Int.toNat_natCast,X0 _ _ _ hi,List.any_cons,hm1,hw]
   rw [WN _ _ _ (by simp)]
   have h1:decide ((i:Int)<↑l.length)=true:=by simp [hi]
   have h2:decide ((0:Int)≤↑i)=true:=by simp
   simp only [h1,h2,Bool.and_self,cond_true,Option.bind_some]
   change Option.bind (bif X3a m l[i] then _ else _) _=_
   cases h3:X3a m l[i]
   ·simp;exact hR'
   ·simp)
 exact (key 0 () (by omega) trivial).trans (by simp)

theorem X4K (p:Zu) (m:Int) (hm:0≤m∧m≤1000000):X2h p m=some (!X3a m p):=by
 have hm1:IntKind.wrap .i64 (0-m) = -m:=by rw [w64]<;>omega
 unfold X2h
 rw [X1l,X1l,hm1,X15,X15]
 simp only [Option.bind_some,X3a,X3y,X5z,Bool.or_false]
 cases (decide (p.X < -m)||decide (p.X>m))<;>simp

theorem X5T (l:List Zk):X2I l=some (X2Z l):=by
 unfold X2I X2Z
 rw [WN _ _ _ (by simp)]
 simp only [Option.bind_some]
 cases hb:X3 1 4 [(l.length:Int)]
 ·simp only [cond_false,Bool.false_eq_true,if_false]
  have hl:1≤l.length∧l.length≤4:=by simp at hb;omega
  exact X4 (XZ (↑l.length) l [↑l.length]) _ l.length (fun i (b:Int)=>(b,(i:Int))) (fun _ _=>True) (fun i b=>some (X45 b (l.drop i)))
   (by
    intro b _ R
    simp [XZ,Wb,X45])
   (by
    intro i b hi _ R hR
    have hR':=hR (l[i].Day) trivial
    simp only [XZ,Wb]
    rw [List.drop_eq_getElem_cons hi]
    have hw:IntKind.wrap .i64 ((i:Int)+1)=((i+1:Nat):Int):=by rw [w64]<;>omega
    simp only [Int.toNat_natCast,X0 _ _ _ hi,X45,hw]
    rw [WN _ _ _ (by simp),WN _ _ _ (by simp)]
    have h1:decide ((i:Int)<↑l.length)=true:=by simp [hi]
    have h2:decide ((0:Int)≤↑i)=true:=by simp
    simp only [h1,h2,Bool.and_self,cond_true,Option.bind_some]
    cases h3:X3 0 40000 [l[i].Day]
    ·cases h4:X3 0 4 [l[i].Colour]
     ·by_cases h5:l[i].Day≤b
      ·simp [h5]
      ·simp [h5];exact hR'
     ·simp
    ·simp) 0 (-1) (by omega) trivial
 ·simp

theorem X5V (l:List Zk):X2i l=some (X2Z l):=by
 unfold X2i X2Z
 rw [X1l,X15]
 simp only [Option.bind_some]
 cases hb:X3 1 4 [(l.length:Int)]
 ·simp only [Bool.not_false,Bool.not_true,cond_false,Bool.false_eq_true,if_false]
  have hl:1≤l.length∧l.length≤4:=by simp at hb;omega
  exact X4 (W4 l) _ l.length (fun i (_:Int)=>(i:Int)) (fun i b=>b=if i=0 then -1 else (l.getD (i-1) ⟨0,0⟩).Day) (fun i b=>some (X45 b (l.drop i)))
   (by
    intro b _ R
    simp [W4,Wg,X45])
   (by
    intro i b hi hP R hR
    have hR':=hR (l[i].Day) (by simp [List.getD,hi])
    simp only [W4,Wg]
    rw [List.drop_eq_getElem_cons hi]
    have hw:IntKind.wrap .i64 ((i:Int)+1)=((i+1:Nat):Int):=by rw [w64]<;>omega
    have hw1:IntKind.wrap .i64 ((i:Int)-1)=((i:Int)-1):=by rw [w64]<;>omega
    simp only [Int.toNat_natCast,X0 _ _ _ hi,X45,hw,hw1]
    rw [X1l,X1l,X15,X15]
    have h1:decide ((i:Int)<↑l.length)=true:=by simp [hi]
    have h2:decide ((0:Int)≤↑i)=true:=by simp
    simp only [h1,h2,Bool.and_self,cond_true,Option.bind_some]
    cases h3:X3 0 40000 [l[i].Day]
    ·cases h4:X3 0 4 [l[i].Colour]
     ·by_cases h0:i=0
      ·subst h0
       simp at hP h3
       have h5:¬ l[0].Day≤b:=by omega
       simp [h5];simpa using hR'
      ·have e7:(0:Int)≤(i:Int)-1:=by omega
       have e8:(i:Int)-1<(l.length:Int):=by omega
       have e9:((i:Int)-1).toNat=i-1:=by omega
       have e10:(i:Int)>0:=by omega
       simp only [e7,e8,e9,e10,decide_true,Bool.and_self,cond_true]
       simp only [h0,if_false] at hP
       rw [←hP]
       by_cases h5:l[i].Day≤b
       ·simp [h5]
       ·simp [h5];exact hR'
     ·simp
    ·simp) 0 (-1) (by omega) (by simp)
 ·simp

theorem X6G (b:ZB) (m:Int) (hm:0≤m∧m≤1000000):X4g b m=some (X6F b m 40):=by
 have hm1:IntKind.wrap .i64 (0-m) = -m:=by rw [w64]<;>omega
 unfold X4g X6F
 rw [WN _ _ _ (by simp),hm1]
 simp only [Option.bind_some]
 cases hb:X3 (-m) m [b.X.Lo,b.X.Hi,b.Y.Lo,b.Y.Hi]
 ·simp at hb
  have h1:IntKind.wrap .i64 (b.X.Hi-b.X.Lo)=b.X.Hi-b.X.Lo:=by rw [w64]<;>omega
  have h2:IntKind.wrap .i64 (b.Y.Hi-b.Y.Lo)=b.Y.Hi-b.Y.Lo:=by rw [w64]<;>omega
  rw [h1,h2,WN _ _ _ (by simp)]
  simp only [Option.bind_some,cond_false,Bool.false_eq_true,if_false]
  cases X3 0 40 [b.X.Hi-b.X.Lo,b.Y.Hi-b.Y.Lo]<;>simp
 ·simp

def X2j (lo hi:Int):Int→List ZE→Int
 | e,[]=>e
 | e,s::l=>if X3 lo hi [s.Lo,s.Hi] then 7 else X2j lo hi (if s.Lo>s.Hi then 2 else e) l

theorem X2r (l:List ZE) (lo hi:Int) (hl:l.length<1000000):X1L l lo hi=some (X2j lo hi 0 l):=by
 unfold X1L
 exact X4 (W3 lo l hi) _ l.length (fun i (b:Int)=>(b,(i:Int))) (fun _ _=>True) (fun i b=>some (X2j lo hi b (l.drop i)))
   (by
    intro b _ R
    simp [W3,Wf,X2j])
   (by
    intro i b hi' _ R hR
    simp only [W3,Wf]
    rw [List.drop_eq_getElem_cons hi']
    have hw:IntKind.wrap .i64 ((i:Int)+1)=((i+1:Nat):Int):=by rw [w64]<;>omega
    simp only [Int.toNat_natCast,X0 _ _ _ hi',X2j,hw]
    rw [X1l,X1l,X15,X15]
    have h1:decide ((i:Int)<↑l.length)=true:=by simp [hi']
    have h2:decide ((0:Int)≤↑i)=true:=by simp
    simp only [h1,h2,Bool.and_self,cond_true,Option.bind_some]
    have hsplit:X3 lo hi [l[i].Lo,l[i].Hi]=(X3 lo hi [l[i].Lo]||X3 lo hi [l[i].Hi]):=by simp
    rw [hsplit]
    cases h3:X3 lo hi [l[i].Lo]
    ·cases h4:X3 lo hi [l[i].Hi]
     ·by_cases h5:l[i].Lo>l[i].Hi
      ·have:=hR 2 trivial
       simp only [h5];simp;simpa using this
      ·have:=hR b trivial
       simp only [h5];simp;simpa using this
     ·simp
    ·simp) 0 0 (by omega) trivial

theorem X7m (b:ZB) (m w:Int) (hw:0≤w):(let e:=X2j (-m) m 0 [b.X,b.Y];if e=0 then (if b.X.Hi-b.X.Lo>w then 2 else if b.Y.Hi-b.Y.Lo>w then 2 else 0) else e)=X6F b m w:=by
 simp only [X2j,X6F,X3y,X5z,Bool.or_false]
 generalize b.X.Lo=x,b.X.Hi=X,b.Y.Lo=y,b.Y.Hi=Y
 by_cases a1:x < -m∨x>m∨X < -m∨X>m
 ·have e1:(decide (x < -m)||decide (x>m)||(decide (X < -m)||decide (X>m)))=true:=by simp;omega
  have e2:(decide (x < -m)||decide (x>m)||(decide (X < -m)||decide (X>m)||(decide (y < -m)||decide (y>m)||(decide (Y < -m)||decide (Y>m)))))=true:=by simp;omega
  rw [e1,e2];simp
 ·have e1:(decide (x < -m)||decide (x>m)||(decide (X < -m)||decide (X>m)))=false:=by simp;omega
  rw [e1]
  by_cases a2:y < -m∨y>m∨Y < -m∨Y>m
  ·have e2:(decide (y < -m)||decide (y>m)||(decide (Y < -m)||decide (Y>m)))=true:=by simp;omega
   have e3:(decide (x < -m)||decide (x>m)||(decide (X < -m)||decide (X>m)||(decide (y < -m)||decide (y>m)||(decide (Y < -m)||decide (Y>m)))))=true:=by simp;omega
   rw [e3,e2];simp
  ·have e2:(decide (y < -m)||decide (y>m)||(decide (Y < -m)||decide (Y>m)))=false:=by simp;omega
   have e3:(decide (x < -m)||decide (x>m)||(decide (X < -m)||decide (X>m)||(decide (y < -m)||decide (y>m)||(decide (Y < -m)||decide (Y>m)))))=false:=by simp;omega
   rw [e3,e2]
   simp only [Bool.false_eq_true,if_false]
   by_cases b1:Y<y
   ·have e4:(decide (X-x<0)||decide (X-x>w)||(decide (Y-y<0)||decide (Y-y>w)))=true:=by simp;omega
    rw [e4]
    simp [b1]
   ·by_cases b2:X<x
    ·have e4:(decide (X-x<0)||decide (X-x>w)||(decide (Y-y<0)||decide (Y-y>w)))=true:=by simp;omega
     rw [e4]
     simp [b1,b2]
    ·simp only [gt_iff_lt,b1,b2,if_false]
     by_cases b3:X-x>w
     ·have e4:(decide (X-x<0)||decide (w<X-x)||(decide (Y-y<0)||decide (w<Y-y)))=true:=by simp;omega
      rw [e4];simp;omega
     ·by_cases b4:Y-y>w
      ·have e4:(decide (X-x<0)||decide (w<X-x)||(decide (Y-y<0)||decide (w<Y-y)))=true:=by simp;omega
       rw [e4];simp;omega
      ·have e4:(decide (X-x<0)||decide (w<X-x)||(decide (Y-y<0)||decide (w<Y-y)))=false:=by simp;omega
       rw [e4];simp;omega

theorem X7B (lo hi:Int) (b:ZB) (h:X2j lo hi 0 [b.X,b.Y]=0):lo≤b.X.Lo∧b.X.Hi≤hi∧b.X.Lo≤b.X.Hi∧lo≤b.Y.Lo∧b.Y.Hi≤hi∧b.Y.Lo≤b.Y.Hi:=by
 simp only [X2j,X3y,X5z,Bool.or_false] at h
 split at h
 ·simp at h
 ·split at h
  ·simp at h
  ·rename_i h1 h2
   simp at h1 h2
   split at h
   ·simp at h
   ·split at h
    ·simp at h
    ·omega

theorem X6M (b:ZB) (m:Int) (hm:0≤m∧m≤1000000):X4l b (-m) m=some (X6F b m 40):=by
 unfold X4l
 rw [X2r _ _ _ (by simp)]
 rw [←X7m b m 40 (by omega)]
 simp only [Option.bind_some]
 by_cases h:X2j (-m) m 0 [b.X,b.Y]=0
 ·have hb:=X7B _ _ _ h
  have h1:IntKind.wrap .i64 (b.X.Hi-b.X.Lo)=b.X.Hi-b.X.Lo:=by rw [w64]<;>omega
  have h2:IntKind.wrap .i64 (b.Y.Hi-b.Y.Lo)=b.Y.Hi-b.Y.Lo:=by rw [w64]<;>omega
  rw [h1,h2,h]
  by_cases h3:b.X.Hi-b.X.Lo>40
  ·simp [h3]
  ·by_cases h4:b.Y.Hi-b.Y.Lo>40<;>simp [h3,h4]
 ·have h':(X2j (-m) m 0 [b.X,b.Y]==0)=false:=beq_eq_false_iff_ne.2 h
  rw [h',if_neg h];rfl

end Nore
open Go Go.Ab
namespace Nore

theorem X5E {a b:Int} (A B:Int) (h1 : -A≤a) (h2:a≤A) (h3 : -B≤b) (h4:b≤B) : -(A*B)≤a*b∧a*b≤A*B:=by
 have p1:=Int.mul_nonneg (show 0≤A-a by omega) (show 0≤B+b by omega)
 have p2:=Int.mul_nonneg (show 0≤A+a by omega) (show 0≤B-b by omega)
 have p3:=Int.mul_nonneg (show 0≤A-a by omega) (show 0≤B-b by omega)
 have p4:=Int.mul_nonneg (show 0≤A+a by omega) (show 0≤B+b by omega)
 constructor<;>grind

def X2f (p:Nat→Bool):Nat→Nat→Bool
 | _,0=>true
 | i,k+1=>p i&&X2f p (i+1) k

theorem X5I (p:Nat→Bool) (k i:Nat):X2f p i k=true↔∀ j,i≤j→j<i+k→p j=true:=by
 induction k generalizing i with
 | zero=>simp [X2f];intro j h1 h2;omega
 | succ k ih =>
  simp only [X2f,Bool.and_eq_true,ih]
  constructor
  ·rintro ⟨h1,h2⟩ j h3 h4
   by_cases h:j=i
   ·subst h;exact h1
   ·exact h2 j (by omega) (by omega)
  ·intro h
   exact ⟨h i (by omega) (by omega),fun j h1 h2=>h j (by omega) (by omega)⟩

def XS (a b:Zu):Zu:=⟨a.X-b.X,a.Y-b.Y⟩
def X1A (a b:Zu):Int:=a.X*b.Y-a.Y*b.X
def P0:Zu:=⟨0,0⟩
def X6C (l:List Zu) (i:Nat):Bool :=
 X2f (fun m=>m==i||m==(i+1) % l.length||decide (0<X1A (XS (l.getD ((i+1) % l.length) P0) (l.getD i P0)) (XS (l.getD m P0) (l.getD i P0)))) 0 l.length
def X5G (l:List Zu):Bool:=X2f (X6C l) 0 l.length
def X5C (s:CtSand):Int :=
 if X3 3 8 [(s.Corners.length:Int)] then 3 else if s.Corners.any (X3a 10000) then 7 else if X6F s.Moves 500 40=0 then (if X5G s.Corners then 0 else 9) else X6F s.Moves 500 40

def Bd (A:Int) (p:Zu):Prop := -A≤p.X∧p.X≤A ∧ -A≤p.Y∧p.Y≤A
theorem X5Y (A:Int) (p:Zu):X3a A p=false↔Bd A p:=by
 simp [X3a,Bd];omega
theorem X58 {A:Int} {l:List Zu} (h:l.any (X3a A)=false) (i:Nat) (hi:i<l.length):Bd A l[i]:=by
 rw [List.any_eq_false] at h
 rw [←X5Y]
 simpa using h l[i] (List.getElem_mem hi)

theorem X5R {a b:Int} (A:Int) (hA:A≤1000000) (h1 : -A≤a∧a≤A) (h2 : -A≤b∧b≤A):IntKind.wrap .i64 (a-b)=a-b:=by rw [w64]<;>omega
theorem X7J {a b c d:Int} (A:Int) (hA:A=2000000) (h1 : -A≤a∧a≤A) (h2 : -A≤b∧b≤A) (h3 : -A≤c∧c≤A) (h4 : -A≤d∧d≤A):IntKind.wrap .i64 (IntKind.wrap .i64 (a*b)-IntKind.wrap .i64 (c*d))=a*b-c*d:=by
 subst hA
 have p:=X5E _ _ h1.1 h1.2 h2.1 h2.2
 have q:=X5E _ _ h3.1 h3.2 h4.1 h4.2
 rw [w64 (x:=a*b),w64 (x:=c*d),w64]<;>omega

theorem X6w (l:List Zu) (hl:3≤l.length∧l.length≤8) (hf:l.any (X3a 10000)=false) (i:Nat) (hi:i<l.length) :
  X1M (i:Int) l (((i+1) % l.length:Nat):Int) 0=some (if X6C l i then .inr () else .inl false):=by
 have hk:(i+1) % l.length<l.length:=Nat.mod_lt _ (by omega)
 unfold X6C
 generalize hkk:(i+1) % l.length=k at *
 have key:=X5H (Wt (i:Int) l (k:Int)) l.length (fun j (_:Unit)=>(j:Int)) (fun _ _=>True) (fun j _=>some (if X2f (fun m=>m==i||m==k||decide (0<X1A (XS (l.getD k P0) (l.getD i P0)) (XS (l.getD m P0) (l.getD i P0)))) j (l.length-j) then .inr () else .inl false))
  (by
   intro b _ R
   simp [Wt,WK,X2f])
  (by
   intro m b hm _ R hR
   have hR':=hR () trivial
   rw [show l.length-m=(l.length-(m+1))+1 by omega]
   simp only [X2f]
   simp only [Wt,WK]
   have hw:IntKind.wrap .i64 ((m:Int)+1)=((m+1:Nat):Int):=by rw [w64]<;>omega
   simp only [Int.toNat_natCast,X0 _ _ _ hm,X0 _ _ _ hi,X0 _ _ _ hk,hw]
   have b1:=X58 hf m hm
   have b2:=X58 hf i hi
   have b3:=X58 hf k hk
   unfold Bd at b1 b2 b3
   rw [X5R 10000 (by omega) ⟨b3.1,b3.2.1⟩ ⟨b2.1,b2.2.1⟩,X5R 10000 (by omega) b1.2.2 b2.2.2,X5R 10000 (by omega) b3.2.2 b2.2.2,X5R 10000 (by omega) ⟨b1.1,b1.2.1⟩ ⟨b2.1,b2.2.1⟩]
   rw [X7J 2000000 rfl (by omega) (by omega) (by omega) (by omega)]
   have d1:decide ((m:Int)<↑l.length)=true:=by simp [hm]
   have d2:decide ((0:Int)≤↑m)=true:=by simp
   have d3:decide ((i:Int)<↑l.length)=true:=by simp [hi]
   have d4:decide ((0:Int)≤↑i)=true:=by simp
   have d5:decide ((k:Int)<↑l.length)=true:=by simp [hk]
   have d6:decide ((0:Int)≤↑k)=true:=by simp
   simp only [d1,d2,d3,d4,d5,d6,Bool.and_self,cond_true]
   change Option.bind (bif ((m:Int) != ↑i) then bif ((m:Int) != ↑k) then bif decide (X1A (XS l[k] l[i]) (XS l[m] l[i])≤0) then _ else _ else _ else _) _=_
   by_cases e1:m=i
   ·have:((m:Int) != (i:Int))=false:=by simp [e1]
    rw [this];simp [e1];simpa [e1,hi,hk] using hR'
   ·have t1:((m:Int) != (i:Int))=true:=by simp;omega
    by_cases e2:m=k
    ·have:((m:Int) != (k:Int))=false:=by simp [e2]
     rw [t1,this];simp [e2];simpa [e2,hi,hk] using hR'
    ·have t2:((m:Int) != (k:Int))=true:=by simp;omega
     rw [t1,t2]
     by_cases e3:X1A (XS l[k] l[i]) (XS l[m] l[i])≤0
     ·have t3:¬ 0<X1A (XS l[k] l[i]) (XS l[m] l[i]):=by omega
      simp [e1,e2,e3,t3]
     ·have t3:0<X1A (XS l[k] l[i]) (XS l[m] l[i]):=by omega
      simp [e1,e2,e3,t3];simpa [hi,hk] using hR')
 have:=key 0 () (by omega) trivial
 simpa [X1M] using this

theorem X6f (l:List Zu) (hl:3≤l.length∧l.length≤8) (hf:l.any (X3a 10000)=false):X3k l=some (X5G l):=by
 unfold X3k X5G
 have key:=X4 (Ws l) (fun o103=>Sum.elim (fun y104:Bool=>some y104) (fun _:Unit=>some true) o103) l.length (fun i (_:Unit)=>(i:Int)) (fun _ _=>True) (fun i _=>some (X2f (X6C l) i (l.length-i)))
  (by
   intro b _ R
   simp [Ws,WJ,X2f])
  (by
   intro i b hi _ R hR
   have hR':=hR () trivial
   rw [show l.length-i=(l.length-(i+1))+1 by omega]
   simp only [X2f]
   simp only [Ws,WJ]
   have hw:IntKind.wrap .i64 ((i:Int)+1)=((i+1:Nat):Int):=by rw [w64]<;>omega
   have hm:Int.tmod ((i+1:Nat):Int) (l.length:Int)=(((i+1) % l.length:Nat):Int):=rfl
   have d1:decide ((i:Int)<↑l.length)=true:=by simp [hi]
   have d2:((l.length:Int)==0)=false:=by simp;intro h;simp [h] at hl
   simp only [hw,hm,d1,d2,cond_true,cond_false]
   rw [X6w l hl hf i hi]
   simp only [Option.bind_some]
   cases h:X6C l i
   ·simp
   ·simp;simpa using hR')
 exact (key 0 () (by omega) trivial).trans (by simp)

theorem X6u (s:CtSand):X3T s=some (X5C s):=by
 unfold X3T X5C
 rw [X1l,X15]
 simp only [Option.bind_some]
 cases hb:X3 3 8 [(s.Corners.length:Int)]
 ·have hl:3≤s.Corners.length∧s.Corners.length≤8:=by simp at hb;omega
  simp only [Bool.not_false,Bool.not_true,cond_false,Bool.false_eq_true,if_false]
  have key:=X5H (W5 s) s.Corners.length (fun i (_:Unit)=>(i:Int)) (fun _ _=>True) (fun i _=>some (if (s.Corners.drop i).any (X3a 10000) then .inl 7 else .inr ()))
   (by
    intro b _ R
    simp [W5,X13])
   (by
    intro i b hi _ R hR
    have hR':=hR () trivial
    simp only [W5,X13]
    rw [List.drop_eq_getElem_cons hi]
    have hw:IntKind.wrap .i64 ((i:Int)+1)=((i+1:Nat):Int):=by rw [w64]<;>omega
    simp only [Int.toNat_natCast,X0 _ _ _ hi,List.any_cons,hw]
    rw [X4K _ _ (by omega)]
    have h1:decide ((i:Int)<↑s.Corners.length)=true:=by simp [hi]
    have h2:decide ((0:Int)≤↑i)=true:=by simp
    simp only [h1,h2,Bool.and_self,cond_true,Option.bind_some]
    by_cases h3:X3a 10000 s.Corners[i]=true
    ·simp [h3]
    ·simp [h3];simpa using hR')
  have k0:=key 0 () (by omega) trivial
  simp only [List.drop_zero,Int.natCast_zero] at k0
  unfold X30
  have k0':Z8S (W5 s) 0=some (if s.Corners.any (X3a 10000) then .inl 7 else .inr ()):=k0
  rw [k0']
  simp only [Option.bind_some]
  cases hf:s.Corners.any (X3a 10000)
  ·simp only [Bool.false_eq_true,if_false,Sum.elim_inr]
   rw [X6M _ _ (by omega),X6f _ hl hf]
   simp only [Option.bind_some]
   by_cases h:X6F s.Moves 500 40=0
   ·rw [h]
    cases X5G s.Corners<;>simp
   ·simp [h,X3z h]
  ·simp
 ·simp

end Nore
open Go Go.Ab
namespace Nore

theorem X7Y {α:Type} (P:α→Bool) (l:List α):l.countP P=0↔∀ m,(h:m<l.length)→P l[m]=false:=by
 rw [List.countP_eq_zero]
 constructor
 ·intro h m hm;simpa using h l[m] (List.getElem_mem hm)
 ·intro h a ha
  obtain ⟨m,hm,rfl⟩:=List.getElem_of_mem ha
  simp [h m hm]

theorem X7R {α:Type} (P:α→Bool) (l:List α):∀ i,(hi:i<l.length)→P l[i]=true→(l.countP P=1↔∀ m,(h:m<l.length)→m≠i→P l[m]=false):=by
 induction l with
 | nil=>intro i hi;simp at hi
 | cons a t ih =>
  intro i hi hP
  cases i with
  | zero =>
   simp only [List.getElem_cons_zero] at hP
   rw [List.countP_cons_of_pos hP]
   rw [show (t.countP P+1=1)↔t.countP P=0 by omega,X7Y]
   constructor
   ·intro h m hm hne
    cases m with
    | zero=>exact absurd rfl hne
    | succ m=>simpa using h m (by simpa using hm)
   ·intro h m hm
    exact h (m+1) (by simpa using hm) (by omega)
  | succ i =>
   simp only [List.getElem_cons_succ] at hP
   have hi':i<t.length:=by simpa using hi
   have hpos:0<t.countP P:=by
    rw [List.countP_pos_iff];exact ⟨t[i],List.getElem_mem hi',hP⟩
   have ih':=ih i hi' hP
   cases ha:P a
   ·rw [List.countP_cons_of_neg (by simp [ha]),ih']
    constructor
    ·intro h m hm hne
     cases m with
     | zero=>simpa using ha
     | succ m=>simpa using h m (by simpa using hm) (by omega)
    ·intro h m hm hne
     exact h (m+1) (by simpa using hm) (by omega)
   ·rw [List.countP_cons_of_pos ha]
    constructor
    ·intro h;omega
    ·intro h
     have:=h 0 (by simp) (by omega)
     simp [ha] at this

theorem X7S {α:Type} (P:α→Bool) (l:List α):∀ i k,(hi:i<l.length)→(hk:k<l.length)→i<k→P l[i]=true→P l[k]=true→(l.countP P=2↔∀ m,(h:m<l.length)→m≠i→m≠k→P l[m]=false):=by
 induction l with
 | nil=>intro i k hi;simp at hi
 | cons a t ih =>
  intro i k hi hk hik hP hQ
  cases k with
  | zero=>omega
  | succ k =>
   simp only [List.getElem_cons_succ] at hQ
   have hk':k<t.length:=by simpa using hk
   cases i with
   | zero =>
    simp only [List.getElem_cons_zero] at hP
    rw [List.countP_cons_of_pos hP]
    rw [show (t.countP P+1=2)↔t.countP P=1 by omega,X7R P t k hk' hQ]
    constructor
    ·intro h m hm hne hne2
     cases m with
     | zero=>exact absurd rfl hne
     | succ m=>simpa using h m (by simpa using hm) (by omega)
    ·intro h m hm hne
     exact h (m+1) (by simpa using hm) (by omega) (by omega)
   | succ i =>
    simp only [List.getElem_cons_succ] at hP
    have hi':i<t.length:=by simpa using hi
    have ih':=ih i k hi' hk' (by omega) hP hQ
    cases ha:P a
    ·rw [List.countP_cons_of_neg (by simp [ha]),ih']
     constructor
     ·intro h m hm hne hne2
      cases m with
      | zero=>simpa using ha
      | succ m=>simpa using h m (by simpa using hm) (by omega) (by omega)
     ·intro h m hm hne hne2
      exact h (m+1) (by simpa using hm) (by omega) (by omega)
    ·have hpos:2≤t.countP P:=by
      have h1:=X7R P t i hi' hP
      have:0<t.countP P:=by
       rw [List.countP_pos_iff];exact ⟨t[i],List.getElem_mem hi',hP⟩
      by_cases e:t.countP P=1
      ·have:=h1.1 e k hk' (by omega)
       simp [hQ] at this
      ·omega
     rw [List.countP_cons_of_pos ha]
     constructor
     ·intro h;omega
     ·intro h
      have:=h 0 (by simp) (by omega) (by omega)
      simp [ha] at this

def X3L (l:List Zu) (a b:Zu):Bool :=
 (l.countP fun p=>decide (X1A (XS b a) (XS p a)≤0))==2 && !((b.X-a.X==0)&&(b.Y-a.Y==0))
def X4f (l:List Zu):Zu→List Zu→Bool
 | _,[]=>true
 | last,p::r=>X3L l last p&&X4f l p r

theorem X7w (a b:Zu):X1A (XS b a) (XS b a)=0:=by simp [X1A,Int.mul_comm]
theorem X7x (a b:Zu):X1A (XS b a) (XS a a)=0:=by simp [X1A,XS]

theorem X6J (l:List Zu) (hl:3≤l.length) (i k:Nat) (hi:i<l.length) (hk:k<l.length) (hne:i≠k) :
  X3L l l[i] l[k]=X2f (fun m=>m==i||m==k||decide (0<X1A (XS (l.getD k P0) (l.getD i P0)) (XS (l.getD m P0) (l.getD i P0)))) 0 l.length:=by
 rw [Bool.eq_iff_iff,X5I]
 have hPi:decide (X1A (XS l[k] l[i]) (XS l[i] l[i])≤0)=true:=by rw [X7x];rfl
 have hPk:decide (X1A (XS l[k] l[i]) (XS l[k] l[i])≤0)=true:=by rw [X7w];rfl
 have hc:(l.countP fun p=>decide (X1A (XS l[k] l[i]) (XS p l[i])≤0))=2↔∀ m,(h:m<l.length)→m≠i→m≠k→decide (X1A (XS l[k] l[i]) (XS l[m] l[i])≤0)=false:=by
  by_cases hik:i<k
  ·exact X7S (fun p=>decide (X1A (XS l[k] l[i]) (XS p l[i])≤0)) l i k hi hk hik hPi hPk
  ·have:=X7S (fun p=>decide (X1A (XS l[k] l[i]) (XS p l[i])≤0)) l k i hk hi (by omega) hPk hPi
   rw [this]
   constructor
   ·intro h m hm h1 h2;exact h m hm h2 h1
   ·intro h m hm h1 h2;exact h m hm h2 h1
 simp only [X3L,Bool.and_eq_true,beq_iff_eq,hc]
 constructor
 ·rintro ⟨h,_⟩ m _ hm
  have hm':m<l.length:=by omega
  by_cases e1:m=i
  ·simp [e1]
  ·by_cases e2:m=k
   ·simp [e2]
   ·have:=h m hm' e1 e2
    simp only [X0 _ _ _ hm',X0 _ _ _ hi,X0 _ _ _ hk]
    simp at this
    simp [this]
 ·intro h
  have h':∀ m,(hm:m<l.length)→m≠i→m≠k→0<X1A (XS l[k] l[i]) (XS l[m] l[i]):=fun m hm e1 e2=>by
   have:=h m (by omega) (by omega)
   simp only [X0 _ _ _ hm,X0 _ _ _ hi,X0 _ _ _ hk] at this
   simpa [e1,e2] using this
  refine ⟨fun m hm e1 e2 => ?_,?_⟩
  ·have:=h' m hm e1 e2
   simp;omega
  ·have:∃ m,m<l.length∧m≠i∧m≠k:=by
    by_cases a0:0≠i∧0≠k
    ·exact ⟨0,by omega,a0⟩
    ·by_cases a1:1≠i∧1≠k
     ·exact ⟨1,by omega,a1⟩
     ·exact ⟨2,by omega,by omega,by omega⟩
   obtain ⟨m,hm,e1,e2⟩:=this
   have:=h' m hm e1 e2
   rw [Bool.not_eq_true',Bool.eq_false_iff]
   intro hz
   simp only [Bool.and_eq_true,beq_iff_eq] at hz
   simp [X1A,XS,hz.1,hz.2] at this

theorem X7l (l:List Zu):∀ k i,i+k=l.length→1≤i→(hi:i-1<l.length)→(X4f l l[i-1] (l.drop i)=true↔∀ j,(h1:i≤j)→(h2:j<l.length)→X3L l l[j-1] l[j]=true):=by
 intro k
 induction k with
 | zero =>
  intro i hk h1 hi
  rw [List.drop_eq_nil_of_le (by omega)]
  simp [X4f]
  intro j h1 h2;omega
 | succ k ih =>
  intro i hk h1 hi
  have hi2:i<l.length:=by omega
  rw [List.drop_eq_getElem_cons hi2]
  simp only [X4f,Bool.and_eq_true]
  have:=ih (i+1) (by omega) (by omega) (by omega)
  simp only [Nat.add_sub_cancel] at this
  rw [this]
  constructor
  ·rintro ⟨g,h⟩ j a b
   by_cases e:j=i
   ·subst e;exact g
   ·exact h j (by omega) b
  ·intro h
   exact ⟨h i (by omega) hi2,fun j a b=>h j (by omega) b⟩

theorem X75 (l:List Zu) (hl:3≤l.length):X4f l (l.getD (l.length-1) P0) l=X5G l:=by
 rw [Bool.eq_iff_iff]
 have e:X4f l (l.getD (l.length-1) P0) l=(X3L l l[l.length-1] l[0]&&X4f l l[1-1] (l.drop 1)):=by
  conv=>lhs;rw [show l=l[0]::l.drop 1 by rw [←List.drop_eq_getElem_cons (by omega)];rfl]
  rw [←show l=l[0]::l.drop 1 by rw [←List.drop_eq_getElem_cons (by omega)];rfl]
  rw [X0 _ _ _ (by omega)]
  conv=>lhs;arg 3;rw [show l=l[0]::l.drop 1 by rw [←List.drop_eq_getElem_cons (by omega)];rfl]
  rfl
 rw [e]
 simp only [Bool.and_eq_true]
 rw [X7l l (l.length-1) 1 (by omega) (by omega) (by omega)]
 unfold X5G
 rw [X5I]
 have hside:∀ i,(hi:i<l.length)→X6C l i=X3L l l[i] (l[(i+1) % l.length]'(Nat.mod_lt _ (by omega))):=fun i hi=>by
  have hk:(i+1) % l.length<l.length:=Nat.mod_lt _ (by omega)
  have hne:i≠(i+1) % l.length:=by
   by_cases h:i+1<l.length
   ·rw [Nat.mod_eq_of_lt h];omega
   ·have:i+1=l.length:=by omega
    rw [this,Nat.mod_self];omega
  rw [X6J l hl i _ hi hk hne]
  rfl
 constructor
 ·rintro ⟨h0,h⟩ i _ hi
  have hi':i<l.length:=by omega
  rw [hside i hi']
  by_cases hh:i+1<l.length
  ·have:=h (i+1) (by omega) hh
   simp only [Nat.mod_eq_of_lt hh]
   simpa using this
  ·have e1:i=l.length-1:=by omega
   subst e1
   simp only [show l.length-1+1=l.length by omega,Nat.mod_self]
   exact h0
 ·intro h
  constructor
  ·have:=h (l.length-1) (by omega) (by omega)
   rw [hside _ (by omega)] at this
   simpa only [show l.length-1+1=l.length by omega,Nat.mod_self] using this
  ·intro j h1 h2
   have:=h (j-1) (by omega) (by omega)
   rw [hside _ (by omega)] at this
   simpa only [show j-1+1=j by omega,Nat.mod_eq_of_lt h2] using this

theorem X5S (l:List Zu) (hl:l.length≤8) (hf:l.any (X3a 10000)=false) (x4:Z8) (x5:Bool) (x6:Int) (x7:Bool) (x8:Z8) (x9:Bool) (x10:Int) (x11:Z8) (s:Z6) (a b:Zu) (ha:Bd 10000 a) (hb:Bd 10000 b) (hs:s=⟨a,XS b a⟩) :
  Wj (↑l.length) l x4 x5 x6 x7 x8 x9 x10 x11 s (0,0)=some ((l.countP fun p=>decide (X1A (XS b a) (XS p a)≤0):Nat):Int):=by
 subst hs
 unfold Bd at ha hb
 have key:=X5H (Xi (↑l.length) l x4 x5 x6 x7 x8 x9 x10 x11 ⟨a,XS b a⟩) l.length (fun i (c:Nat)=>((c:Int),(i:Int))) (fun i c=>c≤i) (fun i c=>some (((c+(l.drop i).countP fun p=>decide (X1A (XS b a) (XS p a)≤0):Nat)):Int))
  (by
   intro b _ R
   simp [Xi,Xs])
  (by
   intro i c hi hc R hR
   simp only [Xi,Xs]
   rw [List.drop_eq_getElem_cons hi]
   have hw:IntKind.wrap .i64 ((i:Int)+1)=((i+1:Nat):Int):=by rw [w64]<;>omega
   have hw2:IntKind.wrap .i64 ((c:Int)+1)=((c+1:Nat):Int):=by rw [w64]<;>omega
   have bp:=X58 hf i hi
   unfold Bd at bp
   simp only [Int.toNat_natCast,X0 _ _ _ hi,hw,hw2,XS]
   rw [X5R 10000 (by omega) bp.2.2 ha.2.2,X5R 10000 (by omega) ⟨bp.1,bp.2.1⟩ ⟨ha.1,ha.2.1⟩]
   rw [X7J 2000000 rfl (by omega) (by omega) (by omega) (by omega)]
   have h1:decide ((i:Int)<↑l.length)=true:=by simp [hi]
   have h2:decide ((0:Int)≤↑i)=true:=by simp
   simp only [h1,h2,Bool.and_self,cond_true]
   change Option.bind (bif decide (X1A (XS b a) (XS l[i] a)≤0) then _ else _) _=_
   change _=some (((c+List.countP (fun p=>decide (X1A (XS b a) (XS p a)≤0)) (l[i]::List.drop (i+1) l):Nat)):Int)
   by_cases h:X1A (XS b a) (XS l[i] a)≤0
   ·rw [List.countP_cons_of_pos (by simpa using h)]
    simp only [h,decide_true,cond_true,Option.bind_some,Sum.elim_inl]
    rw [hR (c+1) (by omega)]
    congr 1
    show ((_:Nat):Int)=((_:Nat):Int)
    congr 1
    show c+1+_=c+(_+1)
    simp only [XS]
    omega
   ·rw [List.countP_cons_of_neg (by simpa using h)]
    simp only [h,decide_false,cond_false,Option.bind_some,Sum.elim_inl]
    rw [hR c (by omega)])
 have:=key 0 0 (by omega) (by omega)
 simpa [Wj] using this

theorem X5c (s:Z8):X1w s=some (X5C s.CtSand):=by
 obtain ⟨s⟩:=s
 unfold X1w X5C
 rw [WN _ _ _ (by simp)]
 simp only [Option.bind_some]
 cases hb:X3 3 8 [(s.Corners.length:Int)]
 ·have hl:3≤s.Corners.length∧s.Corners.length≤8:=by simp at hb;omega
  simp only [cond_false,Bool.false_eq_true,if_false]
  rw [X4r _ (by omega) _ (by omega)]
  simp only [Option.bind_some]
  cases hf:s.Corners.any (X3a 10000)
  ·simp only [cond_false,Bool.false_eq_true,if_false]
   rw [X6G _ _ (by omega)]
   simp only [Option.bind_some]
   by_cases h:X6F s.Moves 500 40=0
   ·have hw:IntKind.wrap .i64 ((s.Corners.length:Int)-1)=(s.Corners.length:Int)-1:=by rw [w64]<;>omega
    have ht:((s.Corners.length:Int)-1).toNat=s.Corners.length-1:=by omega
    have h1:decide ((0:Int)≤(s.Corners.length:Int)-1)=true:=by simp;omega
    have h2:decide ((s.Corners.length:Int)-1<(s.Corners.length:Int))=true:=by simp;omega
    simp only [h,hw,ht,h1,h2,bne_self_eq_false,cond_false,Bool.and_self,cond_true,if_true]
    rw [←X75 _ hl.1]
    have hlast:Bd 10000 (s.Corners.getD (s.Corners.length-1) P0):=by
     rw [X0 _ _ _ (by omega)];exact X58 hf _ (by omega)
    refine (X4 (Xh (↑s.Corners.length) s.Corners ⟨s⟩ false 0 false ⟨s⟩ false 0 ⟨s⟩ [(↑s.Corners.length:Int)]) _ s.Corners.length (fun i (b:Zu)=>((i:Int),b)) (fun _ b=>Bd 10000 b) (fun i b=>some (if X4f s.Corners b (s.Corners.drop i) then 0 else 9)) ?_ ?_ 0 _ (by omega) hlast).trans (by simp)
    ·intro b _ R
     simp [Xh,Xr,X4f]
    ·intro i b hi hP R hR
     have bp:=X58 hf i hi
     have hR':=hR s.Corners[i] bp
     simp only [Xh,Xr]
     rw [List.drop_eq_getElem_cons hi]
     have hw:IntKind.wrap .i64 ((i:Int)+1)=((i+1:Nat):Int):=by rw [w64]<;>omega
     simp only [Int.toNat_natCast,X0 _ _ _ hi,hw,X4f]
     have bp':=bp
     have hP':=hP
     unfold Bd at bp' hP'
     rw [X5R 10000 (by omega) bp'.2.2 hP'.2.2,X5R 10000 (by omega) ⟨bp'.1,bp'.2.1⟩ ⟨hP'.1,hP'.2.1⟩]
     rw [X5S s.Corners hl.2 hf _ _ _ _ _ _ _ _ ⟨⟨b.X,b.Y⟩,⟨s.Corners[i].X-b.X,s.Corners[i].Y-b.Y⟩⟩ b s.Corners[i] hP bp rfl]
     have h1:decide ((i:Int)<↑s.Corners.length)=true:=by simp [hi]
     have h2:decide ((0:Int)≤↑i)=true:=by simp
     simp only [h1,h2,Bool.and_self,cond_true,Option.bind_some]
     have hg:X3L s.Corners b s.Corners[i]=((s.Corners.countP fun p=>decide (X1A (XS s.Corners[i] b) (XS p b)≤0))==2 && !((s.Corners[i].X-b.X==0)&&(s.Corners[i].Y-b.Y==0))):=rfl
     generalize (s.Corners.countP fun p=>decide (X1A (XS s.Corners[i] b) (XS p b)≤0))=c at hg ⊢
     by_cases h3:c=2
     ·subst h3
      cases h4:(s.Corners[i].X-b.X==0)
      ·simp only [h4,Bool.false_and,Bool.not_false,Bool.and_true,beq_self_eq_true] at hg
       simp [hg];simpa using hR'
      ·cases h5:(s.Corners[i].Y-b.Y==0)
       ·simp only [h4,h5,Bool.and_false,Bool.not_false,Bool.and_true,beq_self_eq_true] at hg
        simp [hg];simpa using hR'
       ·simp only [h4,h5,Bool.and_self,Bool.not_true,Bool.and_false] at hg
        simp [hg]
     ·have h3':(((c:Nat):Int) != 2)=true:=by simp;omega
      have h3'':(c==2)=false:=by simp [h3]
      rw [h3'',Bool.false_and] at hg
      simp [h3',hg]
   ·rw [WS h,if_neg h];rfl
  ·simp
 ·simp

end Nore
open Go Go.Ab
namespace Nore

theorem Z7X (a b:ByteArray):(a==b)=(a.data==b.data):=by cases a;cases b;rfl
instance:LawfulBEq ByteArray where
 rfl:=by intro a;rw [Z7X];simp
 eq_of_beq:=by
  intro a b h
  rw [Z7X] at h
  have:=eq_of_beq h
  cases a;cases b
  simp only at this
  rw [this]
instance:DecidableEq ByteArray:=fun a b=>if h:(a==b)=true then isTrue (eq_of_beq h) else isFalse (fun e=>h (by rw [e];simp))

theorem X5t {v:Int} (s k:ByteArray):∀ m:List (ByteArray×Int),Z8z (fun a b=>a==b) s (Zgh (fun a b=>a==b) k v m)=if s=k then some v else Z8z (fun a b=>a==b) s m
 | []=>by
  by_cases h:s=k
  ·simp [Zgh,Z8z,h]
  ·have h':(s==k)=false:=beq_eq_false_iff_ne.2 h
   simp [Zgh,Z8z,h,h']
 | (k',v')::m=>by
  have ih:=X5t s k m (v:=v)
  simp only [Zgh]
  by_cases h1:k=k'
  ·subst h1
   simp only [beq_self_eq_true,cond_true,Z8z]
   by_cases h:s=k
   ·simp [h]
   ·have h':(s==k)=false:=beq_eq_false_iff_ne.2 h
    simp [h,h']
  ·have:(k==k')=false:=by simp [h1]
   simp only [this,cond_false,Z8z]
   by_cases h2:s=k'
   ·subst h2
    have h3:s≠k:=fun h=>h1 h.symm
    simp [h3]
   ·have:(s==k')=false:=by simp [h2]
    simp only [this,cond_false,ih]

def WZ (s:ByteArray) (names:List ByteArray):Int:=if X52 s then (if s∈names then 5 else 0) else 6

theorem X5u {a b:ByteArray} (h:a.toList=b.toList):a=b:=by
 cases a;cases b
 simp only [ByteArray.toList_eq] at h
 congr 1
 exact Array.ext' h

theorem X3Q (s:ByteArray) (names:List ByteArray) (hl:names.length<1000000):X2c s names=some (WZ s names):=by
 unfold X2c WZ
 rw [X6t]
 simp only [Option.bind_some]
 cases X52 s
 ·simp
 ·simp only [Bool.not_true,cond_false,if_true]
  unfold X49
  have key:=X4 (XN s names) (fun o78=>Option.bind (Sum.elim (fun y79:Int=>some y79) (fun _:Unit=>some (-1)) o78) fun r82=>bif decide (r82≥0) then some (5:Int) else some 0) names.length (fun i (_:Unit)=>(i:Int)) (fun _ _=>True) (fun i _=>some (if s∈names.drop i then 5 else 0))
   (by
    intro b _ R
    simp [XN,WI])
   (by
    intro i b hi _ R hR
    have hR':=hR () trivial
    simp only [XN,WI]
    rw [List.drop_eq_getElem_cons hi]
    have hw:IntKind.wrap .i64 ((i:Int)+1)=((i+1:Nat):Int):=by rw [w64]<;>omega
    simp only [Int.toNat_natCast,X0 _ _ _ hi,hw]
    have h1:decide ((i:Int)<↑names.length)=true:=by simp [hi]
    have h2:decide ((0:Int)≤↑i)=true:=by simp
    simp only [h1,h2,Bool.and_self,cond_true]
    by_cases h:names[i]=s
    ·simp [h]
    ·have h':(names[i].toList==s.toList)=false:=by
      simp only [beq_eq_false_iff_ne];intro hh;exact h (X5u hh)
     have h'':¬ s=names[i]:=fun hh=>h hh.symm
     simp only [h',cond_false,Option.bind_some,Sum.elim_inl,List.mem_cons,h'',false_or]
     exact hR')
  have:=key 0 () (by omega) trivial
  simp only [List.drop_zero] at this
  rw [←this]
  show Option.bind (Option.bind _ _) _=Option.bind _ _
  unfold X2x
  simp only [Int.natCast_zero]
  cases Z8S (XN s names) 0<;>rfl

def X35 (m:Zw) (names:List ByteArray):Int:=if WZ m.Name names=0 then (if X3a 30000 m.At then 7 else X2Z m.Paints) else WZ m.Name names
def X4L (s:CtSand) (names:List ByteArray):Int:=if WZ s.Name names=0 then X5C s else WZ s.Name names
def X4e:Nat→List ByteArray→List CtSand→Int×Int×Int
 | _,_,[]=>(0,0,0)
 | i,names,s::l=>if X4L s names=0 then X4e (i+1) (names++[s.Name]) l else (2,(i:Int),X4L s names)
def X4d (sands:List CtSand):Nat→List ByteArray→List Zw→Int×Int×Int
 | _,names,[]=>if 4<sands.length then (2,0,3) else X4e 0 names sands
 | i,names,m::l=>if X35 m names=0 then X4d sands (i+1) (names++[m.Name]) l else (1,(i:Int),X35 m names)
def X3o (c:Zl):Int×Int×Int:=if 8<c.Marks.length then (1,0,3) else X4d c.Sands 0 [] c.Marks

def Z2P (m:List (ByteArray×Int)) (names:List ByteArray):Prop:=∀ s,Option.getD (Z8z (fun a b=>a==b) s m) 0=if s∈names then 1 else 0

theorem X70 {m:List (ByteArray×Int)} {names:List ByteArray} (h:Z2P m names) (s:ByteArray) (hs:s∉names):Z2P (Zgh (fun a b=>a==b) s (IntKind.wrap .i64 (Option.getD (Z8z (fun a b=>a==b) s m) 0+1)) m) (names++[s]):=by
 intro t
 rw [X5t,h s,if_neg hs]
 by_cases e:t=s
 ·simp [e];rfl
 ·simp [e];simpa using h t

theorem X67 {m:List (ByteArray×Int)} {names:List ByteArray} (h:Z2P m names) (s:ByteArray):decide (Option.getD (Z8z (fun a b=>a==b) s (Zgh (fun a b=>a==b) s (IntKind.wrap .i64 (Option.getD (Z8z (fun a b=>a==b) s m) 0+1)) m)) 0>1)=decide (s∈names):=by
 rw [X5t,h s]
 simp only [if_true,Option.getD_some]
 by_cases e:s∈names
 ·simp only [e,if_true];rfl
 ·simp only [e,if_false];rfl

theorem X6V (c:Zl) (hl:c.Sands.length≤4) (m:List (ByteArray×Int)) (names:List ByteArray) (hm:Z2P m names) (k:_→Option (Int×Int×Int))
  (hk:k=fun o56=>Sum.elim (fun (y57:Int×Int×Int×(List (ByteArray×Int))×CtSand)=>some (y57.snd.snd.fst,y57.fst,y57.snd.fst)) (fun y58=>Sum.elim (fun (y59:Int×Int×Int×(List (ByteArray×Int))×CtSand)=>some (y59.snd.snd.fst,y59.fst,y59.snd.fst)) (fun y60=>Sum.elim (fun (y61:Int×Int×Int×(List (ByteArray×Int))×CtSand)=>some (y61.snd.snd.fst,y61.fst,y61.snd.fst)) (fun (_:List (ByteArray×Int))=>some (0,0,0)) y60) y58) o56) :
  Option.bind (X1F (↑c.Sands.length) c.Sands c (0,m)) k=some (X4e 0 names c.Sands):=by
 subst hk
 unfold X1F
 exact X4 (Wi (↑c.Sands.length) c.Sands c) _ c.Sands.length (fun i (b:List (ByteArray×Int)×List ByteArray)=>((i:Int),b.1)) (fun _ b=>Z2P b.1 b.2) (fun i b=>some (X4e i b.2 (c.Sands.drop i)))
  (by
   intro b _ R
   simp [Wi,WA,X4e])
  (by
   intro i b hi hP R hR
   simp only [Wi,WA]
   rw [List.drop_eq_getElem_cons hi]
   have hw:IntKind.wrap .i64 ((i:Int)+1)=((i+1:Nat):Int):=by rw [w64]<;>omega
   simp only [Int.toNat_natCast,X0 _ _ _ hi,hw,X4e]
   rw [X4c,X5c,X67 hP]
   have h1:decide ((i:Int)<↑c.Sands.length)=true:=by simp [hi]
   have h2:decide ((0:Int)≤↑i)=true:=by simp
   simp only [h1,h2,Bool.and_self,cond_true,Option.bind_some]
   by_cases hn:X52 c.Sands[i].Name=true
   ·by_cases he:c.Sands[i].Name∈b.2
    ·have hE:X4L c.Sands[i] b.2=5:=by simp [X4L,WZ,hn,he]
     simp [hn,he,hE]
    ·have e0:(⟨c.Sands[i].Name,c.Sands[i].Corners,c.Sands[i].Moves⟩:CtSand)=c.Sands[i]:=rfl
     have hE:X4L c.Sands[i] b.2=X5C c.Sands[i]:=by simp [X4L,WZ,hn,he]
     rw [e0]
     simp only [hn,he,Bool.not_true,decide_false,cond_false,hE]
     by_cases hs:X5C c.Sands[i]=0
     ·simp only [hs,bne_self_eq_false,cond_false,if_true,Option.bind_some,Sum.elim_inl]
      exact hR (_,b.2++[c.Sands[i].Name]) (X70 hP _ he)
     ·simp [hs,WS hs]
   ·have hE:X4L c.Sands[i] b.2=6:=by simp [X4L,WZ,hn]
    simp [hn,hE]) 0 (m,names) (by omega) hm

theorem X4R (c:Zl):X2A c=some (X3o c):=by
 unfold X2A X3o
 by_cases h8:8<c.Marks.length
 ·have:decide ((c.Marks.length:Int)>8)=true:=by simp;omega
  rw [this];simp [h8]
 ·have:decide ((c.Marks.length:Int)>8)=false:=by simp;omega
  rw [this]
  simp only [cond_false,h8,if_false]
  exact X4 (Wh (↑c.Marks.length) c.Marks c) _ c.Marks.length (fun i (b:List (ByteArray×Int)×List ByteArray)=>((i:Int),b.1)) (fun _ b=>Z2P b.1 b.2) (fun i b=>some (X4d c.Sands i b.2 (c.Marks.drop i)))
   (by
    intro b hP R
    simp only [Wh,Wz]
    have h1:decide ((c.Marks.length:Int)<↑c.Marks.length)=false:=by simp
    simp only [h1,cond_false,Option.bind_some,Sum.elim_inr,List.drop_length,X4d]
    by_cases h4:4<c.Sands.length
    ·have:decide ((c.Sands.length:Int)>4)=true:=by simp;omega
     rw [this];simp [h4]
    ·have:decide ((c.Sands.length:Int)>4)=false:=by simp;omega
     rw [this]
     simp only [cond_false,h4,if_false]
     exact X6V c (by omega) _ _ hP _ rfl)
   (by
    intro i b hi hP R hR
    simp only [Wh,Wz]
    rw [List.drop_eq_getElem_cons hi]
    have hw:IntKind.wrap .i64 ((i:Int)+1)=((i+1:Nat):Int):=by rw [w64]<;>omega
    simp only [Int.toNat_natCast,X0 _ _ _ hi,hw,X4d]
    rw [X4c,X5T,X67 hP,X4r _ (by omega) _ (by simp)]
    have h1:decide ((i:Int)<↑c.Marks.length)=true:=by simp [hi]
    have h2:decide ((0:Int)≤↑i)=true:=by simp
    simp only [h1,h2,Bool.and_self,cond_true,Option.bind_some,List.any_cons,List.any_nil,Bool.or_false]
    by_cases hn:X52 c.Marks[i].Name=true
    ·by_cases he:c.Marks[i].Name∈b.2
     ·have hE:X35 c.Marks[i] b.2=5:=by simp [X35,WZ,hn,he]
      simp [hn,he,hE]
     ·by_cases hfar:X3a 30000 c.Marks[i].At=true
      ·have hE:X35 c.Marks[i] b.2=7:=by simp [X35,WZ,hn,he,hfar]
       simp [hn,he,hfar,hE]
      ·have hE:X35 c.Marks[i] b.2=X2Z c.Marks[i].Paints:=by simp [X35,WZ,hn,he,hfar]
       simp only [hn,he,hfar,Bool.not_true,decide_false,cond_false,hE]
       by_cases hs:X2Z c.Marks[i].Paints=0
       ·simp only [hs,bne_self_eq_false,cond_false,if_true,Option.bind_some,Sum.elim_inl]
        exact hR (_,b.2++[c.Marks[i].Name]) (X70 hP _ he)
       ·simp [hs,WS hs]
    ·have hE:X35 c.Marks[i] b.2=6:=by simp [X35,WZ,hn]
     simp [hn,hE]) 0 ([],[]) (by omega) (by intro s;simp [Z8z])

theorem X74 (c:Zl) (hl:c.Sands.length≤4) (names:List ByteArray) (hm:names.length≤8) (k:_→Option (Int×Int×Int))
  (hk:k=fun o134=>Sum.elim (fun (y135:Int×Int×Int×(List ByteArray)×(List ByteArray))=>some (y135.snd.snd.fst,y135.fst,y135.snd.fst)) (fun y136=>Sum.elim (fun (y137:Int×Int×Int×(List ByteArray)×(List ByteArray))=>some (y137.snd.snd.fst,y137.fst,y137.snd.fst)) (fun (_:List ByteArray)=>some (0,0,0)) y136) o134) :
  Option.bind (X1K c (0,names)) k=some (X4e 0 names c.Sands):=by
 subst hk
 unfold X1K
 exact X4 (Wr c) _ c.Sands.length (fun i (b:List ByteArray)=>((i:Int),b)) (fun i b=>b.length≤8+i) (fun i b=>some (X4e i b (c.Sands.drop i)))
  (by
   intro b _ R
   simp [Wr,WH,X4e])
  (by
   intro i b hi hP R hR
   simp only [Wr,WH]
   rw [List.drop_eq_getElem_cons hi]
   have hw:IntKind.wrap .i64 ((i:Int)+1)=((i+1:Nat):Int):=by rw [w64]<;>omega
   simp only [Int.toNat_natCast,X0 _ _ _ hi,hw,X4e]
   rw [X3Q _ _ (by omega),X6u]
   have h1:decide ((i:Int)<↑c.Sands.length)=true:=by simp [hi]
   have h2:decide ((0:Int)≤↑i)=true:=by simp
   have h3:Nat.ble ((b.length+[c.Sands[i].Name].length)*(16+1)) 200000000000000=true:=by
    rw [Nat.ble_eq];simp;omega
   simp only [h1,h2,h3,Bool.and_self,cond_true,Option.bind_some]
   by_cases hf:WZ c.Sands[i].Name b=0
   ·have hE:X4L c.Sands[i] b=X5C c.Sands[i]:=by simp [X4L,hf]
    simp only [hf,hE,beq_self_eq_true,cond_true]
    by_cases hs:X5C c.Sands[i]=0
    ·simp only [hs,bne_self_eq_false,cond_false,if_true,Option.bind_some,Sum.elim_inl]
     exact hR (b++[c.Sands[i].Name]) (by simp;omega)
    ·simp [hs,WS hs]
   ·have hE:X4L c.Sands[i] b=WZ c.Sands[i].Name b:=by simp [X4L,hf]
    simp [hE,hf,X3z hf,WS hf]) 0 names (by omega) (by omega)

theorem X6c (c:Zl):X3i c=some (X3o c):=by
 unfold X3i X3o
 by_cases h8:8<c.Marks.length
 ·have:decide ((c.Marks.length:Int)>8)=true:=by simp;omega
  rw [this];simp [h8]
 ·have:decide ((c.Marks.length:Int)>8)=false:=by simp;omega
  rw [this]
  simp only [cond_false,h8,if_false]
  exact X4 (Wq c) _ c.Marks.length (fun i (b:List ByteArray)=>((i:Int),b)) (fun i b=>b.length≤i) (fun i b=>some (X4d c.Sands i b (c.Marks.drop i)))
   (by
    intro b hP R
    simp only [Wq,WG]
    have h1:decide ((c.Marks.length:Int)<↑c.Marks.length)=false:=by simp
    simp only [h1,cond_false,Option.bind_some,Sum.elim_inr,List.drop_length,X4d]
    by_cases h4:4<c.Sands.length
    ·have:decide ((c.Sands.length:Int)>4)=true:=by simp;omega
     rw [this];simp [h4]
    ·have:decide ((c.Sands.length:Int)>4)=false:=by simp;omega
     rw [this]
     simp only [cond_false,h4,if_false]
     exact X74 c (by omega) _ (by omega) _ rfl)
   (by
    intro i b hi hP R hR
    simp only [Wq,WG]
    rw [List.drop_eq_getElem_cons hi]
    have hw:IntKind.wrap .i64 ((i:Int)+1)=((i+1:Nat):Int):=by rw [w64]<;>omega
    simp only [Int.toNat_natCast,X0 _ _ _ hi,hw,X4d]
    rw [X3Q _ _ (by omega),X5V,X4K _ _ (by omega)]
    have h1:decide ((i:Int)<↑c.Marks.length)=true:=by simp [hi]
    have h2:decide ((0:Int)≤↑i)=true:=by simp
    have h3:Nat.ble ((b.length+[c.Marks[i].Name].length)*(16+1)) 200000000000000=true:=by
     rw [Nat.ble_eq];simp;omega
    simp only [h1,h2,h3,Bool.and_self,cond_true,Option.bind_some]
    by_cases hf:WZ c.Marks[i].Name b=0
    ·by_cases hfar:X3a 30000 c.Marks[i].At=true
     ·have hE:X35 c.Marks[i] b=7:=by simp [X35,hf,hfar]
      simp [hf,hfar,hE]
     ·have hE:X35 c.Marks[i] b=X2Z c.Marks[i].Paints:=by simp [X35,hf,hfar]
      simp only [hf,hfar,hE,Bool.not_false,Bool.not_true,cond_false,beq_self_eq_true,cond_true]
      by_cases hs:X2Z c.Marks[i].Paints=0
      ·simp only [hs,bne_self_eq_false,cond_false,if_true,Option.bind_some,Sum.elim_inl]
       exact hR (b++[c.Marks[i].Name]) (by simp;omega)
      ·simp [hs,WS hs]
    ·have hE:X35 c.Marks[i] b=WZ c.Marks[i].Name b:=by simp [X35,hf]
     simp [hE,hf,X3z hf,WS hf]) 0 [] (by omega) (by simp)

end Nore
open Go Go.Ab
namespace Nore

theorem X1 (lo up:Int) (l:List Int) (hl:l.length<1000000):X2 lo up l=some (X3 lo up l):=by
 rw [X4Y];unfold X1R
 have key:=X4 (Wp (↑l.length) l up lo) (fun o3=>Sum.elim (fun y4:Int=>some (decide (y4≥0))) (fun _=>some (decide ((-1:Int)≥0))) o3) l.length (fun i (_:Unit)=>(i:Int)) (fun _ _=>True) (fun i _=>some (X3 lo up (l.drop i)))
  (by
   intro b _ R
   simp [Wp,WF])
  (by
   intro i b hi _ R hR
   have hR':=hR () trivial
   simp only [Wp,WF]
   rw [List.drop_eq_getElem_cons hi]
   simp only [Int.toNat_natCast,X0 _ _ _ hi,X3y]
   have hw:IntKind.wrap .i64 ((i:Int)+1)=((i+1:Nat):Int):=by rw [w64]<;>omega
   rw [hw]
   have h1:decide ((i:Int)<↑l.length)=true:=by simp [hi]
   have h2:decide ((0:Int)≤↑i)=true:=by simp
   simp only [h1,h2,Bool.and_self,cond_true]
   by_cases h3:l[i]<lo
   ·simp [h3]
   ·by_cases h4:l[i]>up
    ·simp [h3,h4]
    ·simp [h3,h4];exact hR')
 exact (key 0 () (by omega) trivial).trans (by simp)

theorem W8 (n lo hi:Int):X1C n lo hi=some (inN n lo hi):=by
 rw [X5P];unfold X31 inN
 by_cases h:lo≤n<;>simp [h]

def X4M (x:Z5):Int:=if x.Lead then 20 else 4
theorem X6v (x:Z5):X4o x=some (X4M x):=by
 rw [X5A];unfold X2q X4M
 cases x.Lead<;>rfl

def X5L (x:Z5) (names:List ByteArray):Int :=
 if WZ x.Name names≠0 then WZ x.Name names else if X3 (-X4M x) (X4M x) [x.Off.Lo,x.Off.Hi] then 7 else if x.Off.Lo>x.Off.Hi then 2 else 0

theorem X7d (x:Z5) (l:List Z5) (hl:l.length<1000000) (k:(Int×Z5)⊕Unit→Option Int) (r1 r2:Option Int) (h1:∀ (i:Nat) y,k (.inl ((i:Int),y))=r1) (h2:k (.inr ())=r2) :
  Option.bind (X1X (↑l.length) l x 0) k=if x.Name∈l.map (·.Name) then r1 else r2:=by
 have key:=X4 (XB (↑l.length) l x) k l.length (fun i (_:Unit)=>(i:Int)) (fun _ _=>True) (fun i _=>if x.Name∈(l.drop i).map (·.Name) then r1 else r2)
  (by
   intro b _ R
   simp [XB,XI,h2])
  (by
   intro i b hi _ R hR
   have hR':=hR () trivial
   simp only [XB,XI]
   rw [List.drop_eq_getElem_cons hi]
   simp only [Int.toNat_natCast,X0 _ _ _ hi,List.map_cons,List.mem_cons]
   have hw:IntKind.wrap .i64 ((i:Int)+1)=((i+1:Nat):Int):=by rw [w64]<;>omega
   rw [hw]
   have e1:decide ((i:Int)<↑l.length)=true:=by simp [hi]
   have e2:decide ((0:Int)≤↑i)=true:=by simp
   simp only [e1,e2,Bool.and_self,cond_true]
   by_cases h3:l[i].Name.toList=x.Name.toList
   ·have h4:x.Name=l[i].Name:=X5u h3.symm
    simp [h3,h4,h1]
   ·have h4:¬ x.Name=l[i].Name:=fun e=>h3 (by rw [e])
    have h5:(l[i].Name.toList==x.Name.toList)=false:=beq_eq_false_iff_ne.2 h3
    simp only [h5,cond_false,h4,false_or]
    exact hR')
 exact (key 0 () (by omega) trivial).trans (by simp)

theorem X7e (x:Z5) (l:List Z5) (hl:l.length<1000000) (k:(Int×Z5)⊕Unit→Option Int) (r1 r2:Option Int) (h1:∀ (i:Nat) y,k (.inl ((i:Int),y))=r1) (h2:k (.inr ())=r2) :
  Option.bind (X1Y (↑l.length) l x 0) k=if x.Name∈l.map (·.Name) then r1 else r2:=by
 have key:=X4 (XC (↑l.length) l x) k l.length (fun i (_:Unit)=>(i:Int)) (fun _ _=>True) (fun i _=>if x.Name∈(l.drop i).map (·.Name) then r1 else r2)
  (by
   intro b _ R
   simp [XC,XJ,h2])
  (by
   intro i b hi _ R hR
   have hR':=hR () trivial
   simp only [XC,XJ]
   rw [List.drop_eq_getElem_cons hi]
   simp only [Int.toNat_natCast,X0 _ _ _ hi,List.map_cons,List.mem_cons]
   have hw:IntKind.wrap .i64 ((i:Int)+1)=((i+1:Nat):Int):=by rw [w64]<;>omega
   rw [hw]
   have e1:decide ((i:Int)<↑l.length)=true:=by simp [hi]
   have e2:decide ((0:Int)≤↑i)=true:=by simp
   simp only [e1,e2,Bool.and_self,cond_true]
   by_cases h3:l[i].Name.toList=x.Name.toList
   ·have h4:x.Name=l[i].Name:=X5u h3.symm
    simp [h3,h4,h1]
   ·have h4:¬ x.Name=l[i].Name:=fun e=>h3 (by rw [e])
    have h5:(l[i].Name.toList==x.Name.toList)=false:=beq_eq_false_iff_ne.2 h3
    simp only [h5,cond_false,h4,false_or]
    exact hR')
 exact (key 0 () (by omega) trivial).trans (by simp)

theorem X5s (x:Z5) (l:List Z5) (hl:l.length<1000000):X2W x l=some (X5L x (l.map (·.Name))):=by
 rw [X3Z];unfold WY X5L WZ X4M
 have hw20:IntKind.wrap .i64 (0-20) = -20:=by rw [w64]<;>omega
 have hw4:IntKind.wrap .i64 (0-4) = -4:=by rw [w64]<;>omega
 rw [X4c]
 simp only [Option.bind_some,hw20,hw4]
 cases hb:x.Lead
 ·simp only [cond_false,Bool.false_eq_true,if_false]
  cases hn:X52 x.Name
  ·simp
  ·simp only [Bool.not_true,cond_false,if_true]
   rw [X7e x l hl _ (some 5) (if X3 (-4) 4 [x.Off.Lo,x.Off.Hi] then some 7 else if x.Off.Lo>x.Off.Hi then some 2 else some 0) (fun i y=>by simp) (by
    simp only [Sum.elim_inr]
    rw [X1 _ _ _ (by simp)]
    simp only [Option.bind_some]
    cases X3 (-4) 4 [x.Off.Lo,x.Off.Hi]
    ·by_cases h:x.Off.Lo>x.Off.Hi<;>simp [h]
    ·simp)]
   by_cases hm:x.Name∈l.map (·.Name)
   ·simp [hm]
   ·simp only [hm,if_false,ne_eq,not_true]
    cases X3 (-4) 4 [x.Off.Lo,x.Off.Hi]
    ·by_cases h:x.Off.Lo>x.Off.Hi<;>simp [h]
    ·simp
 ·simp only [cond_true,if_true]
  cases hn:X52 x.Name
  ·simp
  ·simp only [Bool.not_true,cond_false,if_true]
   rw [X7d x l hl _ (some 5) (if X3 (-20) 20 [x.Off.Lo,x.Off.Hi] then some 7 else if x.Off.Lo>x.Off.Hi then some 2 else some 0) (fun i y=>by simp) (by
    simp only [Sum.elim_inr]
    rw [X1 _ _ _ (by simp)]
    simp only [Option.bind_some]
    cases X3 (-20) 20 [x.Off.Lo,x.Off.Hi]
    ·by_cases h:x.Off.Lo>x.Off.Hi<;>simp [h]
    ·simp)]
   by_cases hm:x.Name∈l.map (·.Name)
   ·simp [hm]
   ·simp only [hm,if_false,ne_eq,not_true]
    cases X3 (-20) 20 [x.Off.Lo,x.Off.Hi]
    ·by_cases h:x.Off.Lo>x.Off.Hi<;>simp [h]
    ·simp

def X3V (a:Zt):Int:=if X3 (-30000) 30000 [a.X.Lo,a.X.Hi,a.Y.Lo,a.Y.Hi]||X3 0 1000 [a.Depth.Lo,a.Depth.Hi]||X3 1 4 [a.Ground] then 7 else if a.X.Lo>a.X.Hi∨a.Y.Lo>a.Y.Hi∨a.Depth.Lo>a.Depth.Hi then 2 else 0

theorem X6I (a:Zt):X5x a=some (X3V a):=by
 rw [X5J];unfold X2K X3V
 rw [X1 _ _ _ (by simp),X1 _ _ _ (by simp),X1 _ _ _ (by simp)]
 simp only [Option.bind_some]
 cases X3 (-30000) 30000 [a.X.Lo,a.X.Hi,a.Y.Lo,a.Y.Hi]
 ·cases X3 0 1000 [a.Depth.Lo,a.Depth.Hi]
  ·cases X3 1 4 [a.Ground]
   ·by_cases h1:a.X.Lo>a.X.Hi
    ·simp [h1]
    ·by_cases h2:a.Y.Lo>a.Y.Hi
     ·simp [h1,h2]
     ·by_cases h3:a.Depth.Lo>a.Depth.Hi<;>simp [h1,h2,h3]
   ·simp
  ·simp
 ·simp

theorem X5U (i:Int) (a:Zt):X3e i a=some (X3V a):=by
 rw [X4S];unfold X1P
 rw [X6I];rfl

theorem X7Z (lo hi a b c d:Int):X3 lo hi [a,b,c,d]=(X3 lo hi [a,b]||X3 lo hi [c,d]):=by simp [Bool.or_assoc]

theorem X6h (a:Zt):X4z a=some (X3V a):=by
 rw [X5p];unfold X2e X3V X2E
 rw [X2r _ _ _ (by simp),X2r _ _ _ (by simp),W8,X15,X7Z]
 simp only [Option.bind_some,X2j]
 cases X3 (-30000) 30000 [a.X.Lo,a.X.Hi]
 ·cases X3 (-30000) 30000 [a.Y.Lo,a.Y.Hi]
  ·cases X3 0 1000 [a.Depth.Lo,a.Depth.Hi]
   ·cases X3 1 4 [a.Ground]
    ·by_cases h1:a.X.Lo>a.X.Hi<;>by_cases h2:a.Y.Lo>a.Y.Hi<;>by_cases h3:a.Depth.Lo>a.Depth.Hi<;>simp [h1,h2,h3]
    ·by_cases h1:a.X.Lo>a.X.Hi<;>by_cases h2:a.Y.Lo>a.Y.Hi<;>by_cases h3:a.Depth.Lo>a.Depth.Hi<;>simp [h1,h2,h3]
   ·by_cases h1:a.X.Lo>a.X.Hi<;>by_cases h2:a.Y.Lo>a.Y.Hi<;>simp [h1,h2]
  ·simp
 ·simp

def X1z:Nat→List ByteArray→List Z5→Int×Int×Int
 | _,_,[]=>(0,0,0)
 | i,names,x::l=>if X5L x names=0 then X1z (i+1) (names++[x.Name]) l else (3,(i:Int),X5L x names)
def X2t:Nat→List Zt→Int×Int×Int
 | _,[]=>(0,0,0)
 | i,a::l=>if X3V a=0 then X2t (i+1) l else (4,(i:Int),X3V a)
def X1s (f:ZJ):Int×Int×Int :=
 if (X3o f.Chart).2.2≠0 then (1,0,(X3o f.Chart).2.2) else
 if X3 0 40000 [f.Day]||X3 1 500 [f.Step]||X3 0 8 [f.Half] then (2,0,7) else
 if X3 1 4 [(f.Instruments.length:Int)] then (3,0,3) else
 if (X1z 0 [] f.Instruments).2.2≠0 then X1z 0 [] f.Instruments else
 if 6<f.Areas.length then (4,0,3) else X2t 0 f.Areas

theorem X6Q (l:List Zt) (hl:l.length≤6) (k:(Int×Int×Zt)⊕Unit→Option (Int×Int×Int)) (h1:∀ (i e:Int) y,e≠0→k (.inl (e,i,y))=some (4,i,e)) (h2:k (.inr ())=some (0,0,0)) :
  Option.bind (X3c l (↑l.length) 0) k=some (X2t 0 l):=by
 have key:=X4 (X1d l (↑l.length)) k l.length (fun i (_:Unit)=>(i:Int)) (fun _ _=>True) (fun i _=>some (X2t i (l.drop i)))
  (by
   intro b _ R
   simp [X1d,X1h,h2,X2t])
  (by
   intro i b hi _ R hR
   have hR':=hR () trivial
   simp only [X1d,X1h]
   rw [List.drop_eq_getElem_cons hi]
   simp only [Int.toNat_natCast,X0 _ _ _ hi,X2t]
   have hw:IntKind.wrap .i64 ((i:Int)+1)=((i+1:Nat):Int):=by rw [w64]<;>omega
   rw [hw,X5U]
   have e1:decide ((i:Int)<↑l.length)=true:=by simp [hi]
   have e2:decide ((0:Int)≤↑i)=true:=by simp
   simp only [e1,e2,Bool.and_self,cond_true,Option.bind_some]
   by_cases h3:X3V l[i]=0
   ·simp only [h3,bne_self_eq_false,cond_false,Option.bind_some,Sum.elim_inl,if_true]
    exact hR'
   ·simp [h3,WS h3,h1])
 exact (key 0 () (by omega) trivial).trans (by simp)
theorem X6R (l:List Zt) (hl:l.length≤6) (k:(Int×Int×Zt)⊕Unit→Option (Int×Int×Int)) (h1:∀ (i e:Int) y,e≠0→k (.inl (e,i,y))=some (4,i,e)) (h2:k (.inr ())=some (0,0,0)) :
  Option.bind (X2g l (↑l.length) 0) k=some (X2t 0 l):=X6Q l hl k h1 h2

theorem X7f (f:ZJ) (hl:f.Instruments.length≤4) (k:(Int×Int×Z5×Z5)⊕Unit→Option (Int×Int×Int)) (r:Option (Int×Int×Int)) (h1:∀ (i e:Int) y y',e≠0→k (.inl (e,i,y,y'))=some (3,i,e)) (h2:k (.inr ())=r) :
  Option.bind (X3b f.Instruments (↑f.Instruments.length) f 0) k=if (X1z 0 [] f.Instruments).2.2≠0 then some (X1z 0 [] f.Instruments) else r:=by
 have key:=X4 (X1c f.Instruments (↑f.Instruments.length) f) k f.Instruments.length (fun i (_:Unit)=>(i:Int)) (fun _ _=>True) (fun i _=>if (X1z i ((f.Instruments.take i).map (·.Name)) (f.Instruments.drop i)).2.2≠0 then some (X1z i ((f.Instruments.take i).map (·.Name)) (f.Instruments.drop i)) else r)
  (by
   intro b _ R
   simp [X1c,X1g,h2,X1z])
  (by
   intro i b hi _ R hR
   have hR':=hR () trivial
   simp only [X1c,X1g]
   rw [List.drop_eq_getElem_cons hi]
   rw [←List.take_concat_get hi] at hR'
   simp only [List.concat_eq_append,List.map_append,List.map_cons,List.map_nil] at hR'
   simp only [Int.toNat_natCast,X0 _ _ _ hi,X1z,List.drop_zero]
   have hw:IntKind.wrap .i64 ((i:Int)+1)=((i+1:Nat):Int):=by rw [w64]<;>omega
   rw [hw,X5s _ _ (by simp;omega)]
   have e1:decide ((i:Int)<↑f.Instruments.length)=true:=by simp [hi]
   have e2:decide ((0:Int)≤↑i)=true:=by simp
   have e3:decide ((i:Int)≤↑f.Instruments.length)=true:=by simp;omega
   simp only [e1,e2,e3,Bool.and_self,cond_true,Option.bind_some]
   by_cases h3:X5L f.Instruments[i] ((f.Instruments.take i).map (·.Name))=0
   ·simp only [h3,bne_self_eq_false,cond_false,Option.bind_some,Sum.elim_inl,if_true]
    exact hR'
   ·simp only [WS h3,cond_true,Option.bind_some,Sum.elim_inr,h1 _ _ _ _ h3,if_neg h3]
    rw [if_pos h3])
 exact (key 0 () (by omega) trivial).trans (by simp)

theorem X6s (f:ZJ):X59 f=some (X1s f):=by
 rw [X5v];unfold X2o X1s
 rw [X4R,X1 _ _ _ (by simp),X1 _ _ _ (by simp),X1 _ _ _ (by simp),X1 _ _ _ (by simp)]
 simp only [Option.bind_some]
 by_cases h1:(X3o f.Chart).2.2=0
 ·simp only [h1,bne_self_eq_false,cond_false,ne_eq,not_true,if_false]
  cases X3 0 40000 [f.Day]
  ·cases X3 1 500 [f.Step]
   ·cases X3 0 8 [f.Half]
    ·cases hi:X3 1 4 [(f.Instruments.length:Int)]
     ·have hl:f.Instruments.length≤4:=by simp at hi;omega
      simp only [cond_false,Bool.or_self,Bool.false_eq_true,if_false]
      have ha:(bif decide ((f.Areas.length:Int)>6) then some (4,0,3) else Option.bind (X2g f.Areas (↑f.Areas.length) 0) fun o257↦Sum.elim (fun y258↦bif y258.fst != 0 then some (4,y258.snd.fst,y258.fst) else some ((0:Int),(0:Int),(0:Int))) (fun y259↦some (0,0,0)) o257)=(some (if 6<f.Areas.length then (4,0,3) else X2t 0 f.Areas):Option (Int×Int×Int)):=by
       by_cases h6:6<f.Areas.length
       ·have:decide ((f.Areas.length:Int)>6)=true:=by simp;omega
        rw [this];simp [h6]
       ·have:decide ((f.Areas.length:Int)>6)=false:=by simp;omega
        rw [this]
        simp only [cond_false,h6,if_false]
        exact X6R _ (by omega) _ (fun i e y he=>by simp [WS he]) rfl
      rw [X7f f hl _ _ (fun i e y y' he=>by simp [WS he]) (by simp only [Sum.elim_inr];exact ha)]
      by_cases h3:(X1z 0 [] f.Instruments).2.2=0<;>simp [h3]
     ·simp
    ·simp
   ·simp
  ·simp
 ·simp [h1,WS h1]

theorem X6j (f:ZJ) (hl:f.Instruments.length≤4) (k:(Int×Int×Int×List ByteArray×List ByteArray×Z5)⊕((Int×Int×Int×List ByteArray×List ByteArray×Z5)⊕List ByteArray)→Option (Int×Int×Int)) (r:Option (Int×Int×Int))
  (h1:∀ (i e:Int) y y' z,k (.inl (i,e,3,y,y',z))=some (3,i,e)) (h1':∀ (i e:Int) y y' z,k (.inr (.inl (i,e,3,y,y',z)))=some (3,i,e)) (h2:∀ l,k (.inr (.inr l))=r) :
  Option.bind (X2y f (0,[])) k=if (X1z 0 [] f.Instruments).2.2≠0 then some (X1z 0 [] f.Instruments) else r:=by
 have key:=X4 (Wu f) k f.Instruments.length (fun i (b:List ByteArray)=>((i:Int),b)) (fun i b=>b=(f.Instruments.take i).map (·.Name)) (fun i b=>if (X1z i b (f.Instruments.drop i)).2.2≠0 then some (X1z i b (f.Instruments.drop i)) else r)
  (by
   intro b _ R
   simp [Wu,WL,h2,X1z])
  (by
   intro i b hi hb R hR
   have hR':=hR (b++[f.Instruments[i].Name]) (by rw [hb,←List.take_concat_get hi,List.concat_eq_append,List.map_append];rfl)
   have hbl:b.length≤4:=by rw [hb];simp;omega
   simp only [Wu,WL]
   rw [List.drop_eq_getElem_cons hi]
   simp only [Int.toNat_natCast,X0 _ _ _ hi,X1z]
   have hw:IntKind.wrap .i64 ((i:Int)+1)=((i+1:Nat):Int):=by rw [w64]<;>omega
   rw [hw,X3Q _ _ (by omega),X6v]
   have e1:decide ((i:Int)<↑f.Instruments.length)=true:=by simp [hi]
   have e2:decide ((0:Int)≤↑i)=true:=by simp
   have e3:Nat.ble ((b.length+[f.Instruments[i].Name].length)*(16+1)) 200000000000000=true:=by
    apply Nat.ble_eq_true_of_le;simp;omega
   have hf:IntKind.wrap .i64 (0-X4M f.Instruments[i]) = -X4M f.Instruments[i]:=by unfold X4M;split<;>(rw [w64]<;>omega)
   simp only [e1,e2,e3,Bool.and_self,cond_true,Option.bind_some,hf,X2E]
   rw [X2r _ _ _ (by simp)]
   unfold X5L
   by_cases h3:WZ f.Instruments[i].Name b=0
   ·simp only [h3,beq_self_eq_true,cond_true,ne_eq,not_true,if_false,Option.bind_some,X2j]
    cases ho:X3 (-X4M f.Instruments[i]) (X4M f.Instruments[i]) [f.Instruments[i].Off.Lo,f.Instruments[i].Off.Hi]
    ·by_cases h4:f.Instruments[i].Off.Lo>f.Instruments[i].Off.Hi
     ·simp [h4,h1]
     ·simp only [h4,Bool.false_eq_true,if_false,bne_self_eq_false,cond_false,Option.bind_some,Sum.elim_inl,if_true]
      exact hR'
    ·simp [h1]
   ·have h5:=WS h3
    simp [h3,X3z h3,h5,h1'])
 exact (key 0 [] (by omega) (by simp)).trans (by simp)

theorem X6i (f:ZJ) (hl:f.Areas.length≤6) (k:(Int×Int×Int)⊕Unit→Option (Int×Int×Int)) (h1:∀ (i e:Int),k (.inl (i,e,4))=some (4,i,e)) (h2:k (.inr ())=some (0,0,0)) :
  Option.bind (X2z f 0) k=some (X2t 0 f.Areas):=by
 have key:=X4 (Wv f) k f.Areas.length (fun i (_:Unit)=>(i:Int)) (fun _ _=>True) (fun i _=>some (X2t i (f.Areas.drop i)))
  (by
   intro b _ R
   simp [Wv,WM,h2,X2t])
  (by
   intro i b hi _ R hR
   have hR':=hR () trivial
   simp only [Wv,WM]
   rw [List.drop_eq_getElem_cons hi]
   simp only [Int.toNat_natCast,X0 _ _ _ hi,X2t]
   have hw:IntKind.wrap .i64 ((i:Int)+1)=((i+1:Nat):Int):=by rw [w64]<;>omega
   rw [hw,X6h]
   have e1:decide ((i:Int)<↑f.Areas.length)=true:=by simp [hi]
   have e2:decide ((0:Int)≤↑i)=true:=by simp
   simp only [e1,e2,Bool.and_self,cond_true,Option.bind_some]
   by_cases h3:X3V f.Areas[i]=0
   ·simp only [h3,bne_self_eq_false,cond_false,Option.bind_some,Sum.elim_inl,if_true]
    exact hR'
   ·simp [h3,WS h3,h1])
 exact (key 0 () (by omega) trivial).trans (by simp)

theorem X5W (f:ZJ):X4a f=some (X1s f):=by
 rw [X53];unfold X1S X1s
 rw [X6c,W8,W8,W8,W8,X15,X15,X15,X15]
 simp only [Option.bind_some,Bool.not_not]
 by_cases h1:(X3o f.Chart).2.2=0
 ·simp only [h1,bne_self_eq_false,cond_false,ne_eq,not_true,if_false]
  cases X3 0 40000 [f.Day]
  ·cases X3 1 500 [f.Step]
   ·cases X3 0 8 [f.Half]
    ·cases hi:X3 1 4 [(f.Instruments.length:Int)]
     ·have hl:f.Instruments.length≤4:=by simp at hi;omega
      simp only [cond_false,Bool.or_self,Bool.false_eq_true,if_false]
      rw [X6j f hl _ (some (if 6<f.Areas.length then (4,0,3) else X2t 0 f.Areas)) (fun i e y y' z=>rfl) (fun i e y y' z=>rfl) (fun l=>by
       simp only [Sum.elim_inr]
       by_cases h6:6<f.Areas.length
       ·have:decide ((f.Areas.length:Int)>6)=true:=by simp;omega
        rw [this];simp [h6]
       ·have:decide ((f.Areas.length:Int)>6)=false:=by simp;omega
        rw [this]
        simp only [cond_false,h6,if_false]
        exact X6i f (by omega) _ (fun i e=>rfl) rfl)]
      by_cases h3:(X1z 0 [] f.Instruments).2.2=0<;>simp [h3]
     ·simp
    ·simp
   ·simp
  ·simp
 ·simp [h1,WS h1]
end Nore
open Go Go.Ab
namespace Nore

def X3N (d:Int):Int→List Zk→Int
 | c,[]=>c
 | c,p::l=>X3N d (if p.Day≤d then p.Colour else c) l
def X3O (m:Zw) (d:Int):Int:=X3N d 0 m.Paints

theorem X5O (d:Int) (p:Zk):∀ (l:List Zk) (c:Int),X3N d c (l++[p])=if p.Day≤d then p.Colour else X3N d c l
 | [],c=>rfl
 | q::l,c=>by simp only [List.cons_append,X3N,X5O d p l]

theorem X48 (m:Zw) (d:Int) (hl:m.Paints.length<1000000):X2p m d=some (X3O m d):=by
 rw [X4m];unfold X1k X3O
 have key:=X4 (XR d m) (fun o=>some o) m.Paints.length (fun i (b:Int)=>(b,(i:Int))) (fun _ _=>True) (fun i b=>some (X3N d b (m.Paints.drop i)))
  (by
   intro b _ R
   simp [XR,XW,X3N])
  (by
   intro i b hi _ R hR
   simp only [XR,XW]
   rw [List.drop_eq_getElem_cons hi]
   simp only [Int.toNat_natCast,X0 _ _ _ hi,X3N]
   have hw:IntKind.wrap .i64 ((i:Int)+1)=((i+1:Nat):Int):=by rw [w64]<;>omega
   rw [hw]
   have e1:decide ((i:Int)<↑m.Paints.length)=true:=by simp [hi]
   have e2:decide ((0:Int)≤↑i)=true:=by simp
   simp only [e1,e2,Bool.and_self,cond_true]
   by_cases h3:m.Paints[i].Day≤d
   ·simp only [h3,decide_true,cond_true,Option.bind_some,Sum.elim_inl,if_true]
    exact hR _ trivial
   ·simp only [h3,decide_false,cond_false,Option.bind_some,Sum.elim_inl,if_false]
    exact hR _ trivial)
 exact key 0 0 (by omega) trivial

theorem X71 (d:Int) (l:List Zk) (hl:l.length<1000000) (k:(Zk×Int×Int)⊕Unit→Option (Zw×Int×Int)) (mk:Zw) (h1:∀ p c e,k (.inl (p,c,e))=some (mk,c,e)) (h2:k (.inr ())=some (mk,0,0)) :
  Option.bind (X1q d l ((l.length:Int)-1)) k=some (mk,X3N d 0 l,0):=by
 have key:=X4 (XY d l) k l.length (fun i (_:Unit)=>(l.length:Int)-1-i) (fun _ _=>True) (fun i _=>some (mk,X3N d 0 (l.take (l.length-i)),0))
  (by
   intro b _ R
   have:decide ((l.length:Int)-1-l.length≥0)=false:=by simp;omega
   simp only [XY,Wa,this,cond_false,Option.bind_some,Sum.elim_inr,h2]
   simp [X3N])
  (by
   intro i b hi _ R hR
   have hR':=hR () trivial
   have ht:((l.length:Int)-1-i).toNat=l.length-1-i:=by omega
   have hj:l.length-1-i<l.length:=by omega
   simp only [XY,Wa,ht,X0 _ _ _ hj]
   have e1:decide ((l.length:Int)-1-i≥0)=true:=by simp;omega
   have e2:decide ((0:Int)≤(l.length:Int)-1-i)=true:=by simp;omega
   have e3:decide ((l.length:Int)-1-i<l.length)=true:=by simp;omega
   have hw:IntKind.wrap .i64 ((l.length:Int)-1-i-1)=(l.length:Int)-1-((i+1:Nat):Int):=by rw [w64]<;>omega
   simp only [e1,e2,e3,Bool.and_self,cond_true,hw]
   have hs:l.take (l.length-i)=l.take (l.length-(i+1))++[l[l.length-1-i]]:=by
    have:=List.take_concat_get hj
    rw [show l.length-i=l.length-1-i+1 by omega,←this,List.concat_eq_append,show l.length-(i+1)=l.length-1-i by omega]
   rw [hs,X5O]
   by_cases h3:l[l.length-1-i].Day≤d
   ·simp [h3,h1]
   ·simp only [h3,decide_false,cond_false,Option.bind_some,Sum.elim_inl,if_false]
    exact hR')
 have:=key 0 () (by omega) trivial
 unfold X1q
 simpa using this

theorem X7j (l:List Zk) (h:X2Z l=0):l.length≤4:=by
 unfold X2Z at h
 cases ho:X3 1 4 [(l.length:Int)]
 ·simp at ho;omega
 ·rw [ho] at h;simp at h

theorem X72 (sands:List CtSand):∀ (l:List Zw) (i:Nat) (names:List ByteArray),(X4d sands i names l).2.2=0→∀ m∈l,X3a 30000 m.At=false∧m.Paints.length≤4
 | [],_,_,_,m,hm=>by cases hm
 | x::l,i,names,h,m,hm=>by
  simp only [X4d] at h
  by_cases h0:X35 x names=0
  ·simp only [h0,if_true] at h
   rcases List.mem_cons.1 hm with e|e
   ·subst e
    unfold X35 at h0
    by_cases h1:WZ m.Name names=0
    ·simp only [h1,if_true] at h0
     cases hf:X3a 30000 m.At
     ·rw [hf] at h0
      exact ⟨rfl,X7j _ (by simpa using h0)⟩
     ·rw [hf] at h0;simp at h0
    ·simp only [h1,if_false] at h0
   ·exact X72 sands l _ _ h m e
  ·simp only [h0,if_false] at h

structure X21 (f:ZJ):Prop where
 chart:(X3o f.Chart).2.2=0
 marks:f.Chart.Marks.length≤8
 mark:∀ m∈f.Chart.Marks,X3a 30000 m.At=false∧m.Paints.length≤4
 day:0≤f.Day∧f.Day≤40000
 step:1≤f.Step∧f.Step≤500
 half:0≤f.Half∧f.Half≤8
 inst:1≤f.Instruments.length∧f.Instruments.length≤4
 off:∀ x∈f.Instruments,-X4M x≤x.Off.Lo∧x.Off.Lo≤x.Off.Hi∧x.Off.Hi≤X4M x
 areas:f.Areas.length≤6
 area:∀ a∈f.Areas,X3V a=0

theorem X6Z:∀ (l:List Z5) (i:Nat) (names:List ByteArray),(X1z i names l).2.2=0→∀ x∈l,-X4M x≤x.Off.Lo∧x.Off.Lo≤x.Off.Hi∧x.Off.Hi≤X4M x
 | [],_,_,_,m,hm=>by cases hm
 | x::l,i,names,h,m,hm=>by
  simp only [X1z] at h
  by_cases h0:X5L x names=0
  ·simp only [h0,if_true] at h
   rcases List.mem_cons.1 hm with e|e
   ·subst e
    unfold X5L at h0
    by_cases h1:WZ m.Name names=0
    ·simp only [h1,ne_eq,not_true,if_false] at h0
     cases ho:X3 (-X4M m) (X4M m) [m.Off.Lo,m.Off.Hi]
     ·rw [ho] at h0
      simp at ho h0
      omega
     ·rw [ho] at h0;simp at h0
    ·simp only [ne_eq,h1,not_false_eq_true,if_true] at h0
   ·exact X6Z l _ _ h m e
  ·simp only [h0,if_false] at h
theorem X6S:∀ (l:List Zt) (i:Nat),(X2t i l).2.2=0→∀ x∈l,X3V x=0
 | [],_,_,m,hm=>by cases hm
 | x::l,i,h,m,hm=>by
  simp only [X2t] at h
  by_cases h0:X3V x=0
  ·simp only [h0,if_true] at h
   rcases List.mem_cons.1 hm with e|e
   ·subst e;exact h0
   ·exact X6S l _ h m e
  ·simp only [h0,if_false] at h

theorem X5y {f:ZJ} (h:(X1s f).2.2=0):X21 f:=by
 unfold X1s at h
 by_cases h1:(X3o f.Chart).2.2=0
 ·simp only [h1,ne_eq,not_true,if_false] at h
  cases h2:(X3 0 40000 [f.Day]||X3 1 500 [f.Step]||X3 0 8 [f.Half])
  ·rw [h2] at h
   cases h3:X3 1 4 [(f.Instruments.length:Int)]
   ·rw [h3] at h
    simp only [Bool.false_eq_true,if_false] at h
    by_cases h4:(X1z 0 [] f.Instruments).2.2=0
    ·simp only [h4,ne_eq,not_true,if_false] at h
     by_cases h5:6<f.Areas.length
     ·rw [if_pos h5] at h;simp at h
     ·rw [if_neg h5] at h
      simp at h2 h3
      have hm:¬ 8<f.Chart.Marks.length:=fun q=>by unfold X3o at h1;rw [if_pos q] at h1;simp at h1
      have h1':=h1
      unfold X3o at h1'
      rw [if_neg hm] at h1'
      exact ⟨h1,by omega,X72 _ _ _ _ h1',by omega,by omega,by omega,by omega,X6Z _ _ _ h4,by omega,X6S _ _ h⟩
    ·exfalso
     rw [if_pos h4] at h;exact h4 h
   ·rw [h3] at h;simp at h
  ·rw [h2] at h;simp at h
 ·rw [if_pos h1] at h;exact absurd h h1

theorem X4i {f:ZJ} (hg:X21 f) (mark:Int) (h0:0≤mark) (h1:mark<f.Chart.Marks.length) :
  X2H f.Chart f.Day mark=some (f.Chart.Marks.getD mark.toNat ⟨ByteArray.empty,⟨0,0⟩,[]⟩,X3O (f.Chart.Marks.getD mark.toNat ⟨ByteArray.empty,⟨0,0⟩,[]⟩) f.Day,0):=by
 rw [X4D];unfold X1v
 have hm:=hg.marks
 have hd:=hg.day
 have hj:mark.toNat<f.Chart.Marks.length:=by omega
 have hp:=(hg.mark _ (List.getElem_mem hj)).2
 have hw:IntKind.wrap .i64 ((f.Chart.Marks.length:Int)-1)=(f.Chart.Marks.length:Int)-1:=by rw [w64]<;>omega
 rw [X4R,WN _ _ _ (by simp),WN _ _ _ (by simp),hw]
 have o1:X3 0 40000 [f.Day]=false:=by simp;omega
 have o2:X3 0 ((f.Chart.Marks.length:Int)-1) [mark]=false:=by simp;omega
 have e1:decide (0≤mark)=true:=by simp [h0]
 have e2:decide (mark<(f.Chart.Marks.length:Int))=true:=by simp [h1]
 simp only [Option.bind_some,hg.chart,bne_self_eq_false,cond_false,o1,o2,e1,e2,Bool.and_self,cond_true,X0 _ _ _ hj]
 have hw2:IntKind.wrap .i64 ((f.Chart.Marks[mark.toNat].Paints.length:Int)-1)=(f.Chart.Marks[mark.toNat].Paints.length:Int)-1:=by rw [w64]<;>omega
 rw [hw2]
 exact X71 f.Day _ (by omega) _ _ (fun p c e=>rfl) rfl

def Z8y (f:ZJ) (mark:Int):Zw:=f.Chart.Marks.getD mark.toNat ⟨ByteArray.empty,⟨0,0⟩,[]⟩
def W9 (f:ZJ) (mark:Int):Bool:=X3O (Z8y f mark) f.Day != 0

theorem X6n {f:ZJ} (hg:X21 f) (mark:Int) (h0:0≤mark) (h1:mark<f.Chart.Marks.length) (l:List Zm) (kit:Nat→Nat) (m:List (Zh×Int)) :
  Xn (mark,f,l,kit,m)=some (W9 f mark,f,l,kit,m):=by
 rw [X2O];unfold Xy
 rw [X4B];unfold X1u
 rw [X4i hg mark h0 h1]
 rfl

def Kit (f:ZJ) (kit:Nat→Nat):Prop:=∀ i,(h:i<f.Instruments.length)→kit i=if f.Instruments[i].Lead then 2 else 1
def We (f:ZJ) (i:Int):Z5:=f.Instruments.getD i.toNat ⟨ByteArray.empty,false,⟨0,0⟩⟩

def X1p (f:ZJ) (x:Zm):Int :=
 if X3 0 ((f.Instruments.length:Int)-1) [x.Instrument] then 4 else
 if (We f x.Instrument).Lead then (if X3 0 1000 [x.Shown]||X3 0 4 [x.Ground] then 7 else if x.Mark≠0 then 2 else 0)
 else if X3 0 ((f.Chart.Marks.length:Int)-1) [x.Mark] then 4 else if W9 f x.Mark=false then 9 else if X3 0 31 [x.Shown] then 7 else if x.Ground≠0 then 7 else 0

theorem X7z {f:ZJ} (hg:X21 f) (x:Zm) (l:List Zm) {kit:Nat→Nat} (hk:Kit f kit) (m:List (Zh×Int)) :
  WV (x,f,l,kit,m)=some (X1p f x,f,l,kit,m):=by
 rw [X33];unfold XH X1p
 have hm:=hg.marks
 have hi:=hg.inst
 have hw:IntKind.wrap .i64 ((f.Chart.Marks.length:Int)-1)=(f.Chart.Marks.length:Int)-1:=by rw [w64]<;>omega
 have hw2:IntKind.wrap .i64 ((f.Instruments.length:Int)-1)=(f.Instruments.length:Int)-1:=by rw [w64]<;>omega
 simp only [hw,hw2]
 rw [X1 _ _ _ (by simp),X1 _ _ _ (by simp),X1 _ _ _ (by simp),X1 _ _ _ (by simp),X1 _ _ _ (by simp)]
 simp only [Option.bind_some]
 cases ho:X3 0 ((f.Instruments.length:Int)-1) [x.Instrument]
 ·simp at ho
  have hj:x.Instrument.toNat<f.Instruments.length:=by omega
  have e1:decide (0≤x.Instrument)=true:=by simp;omega
  have e2:decide (x.Instrument<((4:Nat):Int))=true:=by simp;omega
  have e3:Nat.blt x.Instrument.toNat 4=true:=by rw [Tr.blt_dec];simp;omega
  have hkk:=hk _ hj
  have hio:We f x.Instrument=f.Instruments[x.Instrument.toNat]:=X0 _ _ _ hj
  rw [hio]
  have e2':decide (x.Instrument<(4:Int))=true:=by simp;omega
  simp only [cond_false,Bool.false_eq_true,if_false,e1,e2,e2',e3,Bool.and_self,cond_true]
  cases hL:f.Instruments[x.Instrument.toNat].Lead
  ·rw [hL] at hkk
   simp only [Bool.false_eq_true,if_false] at hkk
   simp only [hkk,show Nat.beq 1 0=false from rfl,show Nat.beq 1 1=true from rfl,cond_false,cond_true,Bool.false_eq_true,if_false]
   cases hmk:X3 0 ((f.Chart.Marks.length:Int)-1) [x.Mark]
   ·simp at hmk
    simp only [cond_false,Bool.false_eq_true,if_false]
    rw [X6n hg x.Mark (by omega) (by omega)]
    simp only [Option.bind_some]
    cases W9 f x.Mark
    ·simp
    ·cases X3 0 31 [x.Shown]
     ·by_cases h5:x.Ground=0<;>simp [h5,WS]
     ·simp
   ·simp
  ·rw [hL] at hkk
   simp only [if_true] at hkk
   simp only [hkk,show Nat.beq 2 0=false from rfl,show Nat.beq 2 1=false from rfl,show Nat.beq 2 (1+1)=true from rfl,cond_false,cond_true,if_true]
   cases X3 0 1000 [x.Shown]
   ·cases X3 0 4 [x.Ground]
    ·by_cases h5:x.Mark=0<;>simp [h5,WS]
    ·simp
   ·simp
 ·simp

theorem X5X {f:ZJ} (hg:X21 f) (x:Zm):X4b f x=some (X1p f x):=by
 rw [X55];unfold X1T X1p
 have hm:=hg.marks
 have hi:=hg.inst
 have hw:IntKind.wrap .i64 ((f.Chart.Marks.length:Int)-1)=(f.Chart.Marks.length:Int)-1:=by rw [w64]<;>omega
 have hw2:IntKind.wrap .i64 ((f.Instruments.length:Int)-1)=(f.Instruments.length:Int)-1:=by rw [w64]<;>omega
 simp only [hw,hw2]
 rw [W8,W8,W8,W8,W8,X15,X15,X15,X15,X15]
 simp only [Option.bind_some,Bool.not_not]
 cases ho:X3 0 ((f.Instruments.length:Int)-1) [x.Instrument]
 ·simp at ho
  have hj:x.Instrument.toNat<f.Instruments.length:=by omega
  have e1:decide (0≤x.Instrument)=true:=by simp;omega
  have e2:decide (x.Instrument<(f.Instruments.length:Int))=true:=by simp;omega
  have hio:We f x.Instrument=f.Instruments[x.Instrument.toNat]:=X0 _ _ _ hj
  rw [hio]
  simp only [cond_false,Bool.false_eq_true,if_false,e1,e2,Bool.and_self,cond_true,X0 _ _ _ hj]
  cases hL:f.Instruments[x.Instrument.toNat].Lead
  ·simp only [cond_false,Bool.false_eq_true,if_false]
   cases hmk:X3 0 ((f.Chart.Marks.length:Int)-1) [x.Mark]
   ·simp at hmk
    have hj2:x.Mark.toNat<f.Chart.Marks.length:=by omega
    have e3:decide (0≤x.Mark)=true:=by simp;omega
    have e4:decide (x.Mark<(f.Chart.Marks.length:Int))=true:=by simp;omega
    have hp:=(hg.mark _ (List.getElem_mem hj2)).2
    simp only [cond_false,Bool.false_eq_true,if_false,e3,e4,Bool.and_self,cond_true,X0 _ _ _ hj2]
    rw [X48 _ _ (by omega)]
    unfold W9 Z8y
    rw [X0 _ _ _ hj2]
    simp only [Option.bind_some]
    by_cases h0:X3O f.Chart.Marks[x.Mark.toNat] f.Day=0
    ·simp [h0]
    ·simp only [X3z h0,WS h0,cond_false,Bool.true_eq_false,if_false]
     cases X3 0 31 [x.Shown]
     ·by_cases h5:x.Ground=0<;>simp [h5,WS]
     ·simp
   ·simp
  ·simp only [cond_true,if_true]
   cases X3 0 1000 [x.Shown]
   ·cases X3 0 4 [x.Ground]
    ·by_cases h5:x.Mark=0<;>simp [h5,WS]
    ·simp
   ·simp
 ·simp

def XU (f:ZJ):Nat→List Zm→Int×Int
 | _,[]=>(0,0)
 | i,x::l=>if X1p f x=0 then XU f (i+1) l else ((i:Int),X1p f x)
def W6 (f:ZJ) (l:List Zm):Int×Int:=if (X1s f).2.2≠0 then (0,(X1s f).2.2) else if 8<l.length then (0,3) else XU f 0 l

theorem X4P (f:ZJ) (l:List Zm):X24 f l=some (W6 f l):=by
 rw [X3l];unfold XX W6
 rw [X5W]
 simp only [Option.bind_some]
 by_cases h:(X1s f).2.2=0
 ·have hg:=X5y h
  simp only [h,beq_self_eq_true,cond_true,bne_self_eq_false,cond_false,ne_eq,not_true,if_false]
  by_cases h8:8<l.length
  ·have:decide ((l.length:Int)>8)=true:=by simp;omega
   rw [this];simp [h8]
  ·have:decide ((l.length:Int)>8)=false:=by simp;omega
   rw [this]
   simp only [cond_false,h8,if_false]
   exact X4 (Xe l f) _ l.length (fun i (_:Unit)=>(i:Int)) (fun _ _=>True) (fun i _=>some (XU f i (l.drop i)))
    (by
     intro b _ R
     simp [Xe,Xm,XU])
    (by
     intro i b hi _ R hR
     have hR':=hR () trivial
     simp only [Xe,Xm]
     rw [List.drop_eq_getElem_cons hi]
     have hw:IntKind.wrap .i64 ((i:Int)+1)=((i+1:Nat):Int):=by rw [w64]<;>omega
     simp only [Int.toNat_natCast,X0 _ _ _ hi,hw,XU]
     rw [X5X hg]
     have h1:decide ((i:Int)<↑l.length)=true:=by simp [hi]
     have h2:decide ((0:Int)≤↑i)=true:=by simp
     simp only [h1,h2,Bool.and_self,cond_true,Option.bind_some]
     by_cases he:X1p f l[i]=0
     ·simp only [he,bne_self_eq_false,cond_false,Option.bind_some,Sum.elim_inl,if_true]
      exact hR'
     ·simp [he,WS he]) 0 () (by omega) trivial
 ·simp [h,WS h,X3z h]

theorem X7G (f:ZJ) (hi:f.Instruments.length≤4):∃ kit,X2v f.Instruments (↑f.Instruments.length) (0,fun _=>0)=some kit∧Kit f kit:=by
 have key:∀ j i (b:Nat→Nat),f.Instruments.length-i=j→i≤f.Instruments.length→(∀ q,(h:q<f.Instruments.length)→q<i→b q=if f.Instruments[q].Lead then 2 else 1) →
   ∃ kit,Z8S (Wn f.Instruments (↑f.Instruments.length)) ((i:Int),b)=some kit∧Kit f kit:=fun j=>by
  induction j with
  | zero =>
   intro i b hj hil hb
   have:i=f.Instruments.length:=by omega
   subst this
   refine ⟨b,?_,fun q hq=>hb q hq hq⟩
   rw [←X25 (Z8S _ _),X3n]
   simp [Wn,WD]
  | succ j ih =>
   intro i b hj hil hb
   have hlt:i<f.Instruments.length:=by omega
   have hw:IntKind.wrap .i64 ((i:Int)+1)=((i+1:Nat):Int):=by rw [w64]<;>omega
   have e1:decide ((i:Int)<↑f.Instruments.length)=true:=by simp [hlt]
   have e2:decide ((0:Int)≤↑i)=true:=by simp
   have e3:decide ((i:Int)<((4:Nat):Int))=true:=by simp;omega
   have e3':decide ((i:Int)<(4:Int))=true:=by simp;omega
   have e4:Nat.blt i 4=true:=by rw [Tr.blt_dec];simp;omega
   obtain ⟨kit,h1,h2⟩:=ih (i+1) (fun q=>if q=i then (if f.Instruments[i].Lead then 2 else 1) else b q) (by omega) (by omega) (fun q hq hq2=>by
    by_cases e:q=i
    ·subst e;simp
    ·simp only [e,if_false];exact hb q hq (by omega))
   refine ⟨kit,?_,h2⟩
   rw [←X25 (Z8S _ _),X3n]
   simp only [Wn,WD,Int.toNat_natCast,X0 _ _ _ hlt,hw,e1,e2,e3,e3',e4,Bool.and_self,cond_true]
   have hfun:(fun j=>bif Nat.beq j i then 1+1 else bif Nat.beq j i then 1 else b j)=fun q=>if q=i then 2 else b q:=by
    funext q;rw [Tr.beq_dec];by_cases e:q=i<;>simp [e]
   have hfun2:(fun j=>bif Nat.beq j i then 1 else b j)=fun q=>if q=i then 1 else b q:=by
    funext q;rw [Tr.beq_dec];by_cases e:q=i<;>simp [e]
   rw [hfun,hfun2]
   cases hL:f.Instruments[i].Lead
   ·rw [hL] at h1
    simp only [Bool.false_eq_true,if_false] at h1
    simp only [cond_false,Option.bind_some,Sum.elim_inl]
    rw [X25];exact h1
   ·rw [hL] at h1
    simp only [if_true] at h1
    simp only [cond_true,Option.bind_some,Sum.elim_inl]
    rw [X25];exact h1
 exact key _ 0 _ rfl (by omega) (fun q _ h=>by omega)

theorem X7y {f:ZJ} (hg:X21 f) (l:List Zm) (h8:l.length≤8) {kit:Nat→Nat} (hk:Kit f kit) {γ:Type} (k:_→Option γ) :
  Option.bind (X2w l (↑l.length) (0,f,l,kit,[])) k=if (XU f 0 l).2=0 then k (.inr (f,l,kit,[])) else k (.inl ((XU f 0 l).2,(XU f 0 l).1,f,l,kit,l.getD (XU f 0 l).1.toNat ⟨0,0,0,0⟩,l.getD (XU f 0 l).1.toNat ⟨0,0,0,0⟩,[])):=by
 refine (X4 (Wo l (↑l.length)) k l.length (fun i (_:Unit)=>((i:Int),f,l,kit,[])) (fun _ _=>True) (fun i _=>if (XU f i (l.drop i)).2=0 then k (.inr (f,l,kit,[])) else k (.inl ((XU f i (l.drop i)).2,(XU f i (l.drop i)).1,f,l,kit,l.getD (XU f i (l.drop i)).1.toNat ⟨0,0,0,0⟩,l.getD (XU f i (l.drop i)).1.toNat ⟨0,0,0,0⟩,[])))
  (by
   intro b _ R
   simp [Wo,WE,XU])
  (by
   intro i b hi _ R hR
   have hR':=hR () trivial
   simp only [Wo,WE]
   rw [List.drop_eq_getElem_cons hi]
   have hw:IntKind.wrap .i64 ((i:Int)+1)=((i+1:Nat):Int):=by rw [w64]<;>omega
   simp only [Int.toNat_natCast,X0 _ _ _ hi,hw,XU]
   rw [X7z hg _ _ hk]
   have h1:decide ((i:Int)<↑l.length)=true:=by simp [hi]
   have h2:decide ((0:Int)≤↑i)=true:=by simp
   simp only [h1,h2,Bool.and_self,cond_true,Option.bind_some]
   by_cases he:X1p f l[i]=0
   ·simp only [he,bne_self_eq_false,cond_false,Option.bind_some,Sum.elim_inl,if_true]
    exact hR'
   ·simp only [WS he,cond_true,Option.bind_some,Sum.elim_inr,if_neg he]
    rw [show ((i:Int)).toNat=i from rfl,X0 _ _ _ hi]) 0 () (by omega) trivial).trans (by simp)

theorem X6z (f:ZJ) (l:List Zm):((X1s f).2.2≠0∨8<l.length)∧X1J (l,f)=some (.inl (W6 f l).2)∧(W6 f l).2≠0 ∨
  ∃ kit,X21 f∧l.length≤8∧Kit f kit∧X1J (l,f)=some (.inr ((W6 f l).2,f,l,kit,[])):=by
 rw [X4H];unfold X1y
 rw [X4W];unfold X1Q
 rw [X6s]
 unfold W6
 simp only [Option.bind_some]
 by_cases h:(X1s f).2.2=0
 ·have hg:=X5y h
  simp only [h,bne_self_eq_false,cond_false,ne_eq,not_true,if_false]
  by_cases h8:8<l.length
  ·have:decide ((l.length:Int)>8)=true:=by simp;omega
   rw [this];simp [h8]
  ·have:decide ((l.length:Int)>8)=false:=by simp;omega
   rw [this]
   simp only [cond_false,h8,if_false]
   obtain ⟨kit,hk1,hk2⟩:=X7G f hg.inst.2
   refine .inr ⟨kit,hg,by omega,hk2,?_⟩
   rw [hk1,Option.bind_some]
   rw [X7y hg l (by omega) hk2]
   by_cases he:(XU f 0 l).2=0<;>simp [he]
 ·left
  simp [h,WS h]
end Nore
open Go Go.Ab
namespace Nore

theorem X5b {β σ ω γ:Type} (st:σ→Option (σ⊕ω)) (k:ω→Option γ) (n:Nat) (emb:Nat→β→σ) (P:Nat→β→Prop) (Q:Nat→β→Option γ→Prop)
  (hd:∀ b,P n b→∀ R:σ→Option γ,Q n b (Option.bind (st (emb n b)) (Sum.elim R k)))
  (hn:∀ i b,i<n→P i b→∀ R:σ→Option γ,(∀ b',P (i+1) b'→Q (i+1) b' (R (emb (i+1) b')))→Q i b (Option.bind (st (emb i b)) (Sum.elim R k))) :
  ∀ i b,i≤n→P i b→Q i b (Option.bind (Z8S st (emb i b)) k):=by
 intro i b hi hP
 induction hj:n-i generalizing i b with
 | zero =>
  have:i=n:=by omega
  subst this
  rw [X3n];exact hd b hP _
 | succ j ih =>
  rw [X3n]
  exact hn i b (by omega) hP _ fun b' hb'=>ih (i+1) b' (by omega) hb' (by omega)

instance decPoint:DecidableEq Zu:=fun a b=>decidable_of_iff (a.X=b.X∧a.Y=b.Y) ⟨fun h=>Zu.ext h.1 h.2,fun h=>by subst h;exact ⟨rfl,rfl⟩⟩

def X46 (v:Zu):Int×Zu :=
 if 0≤v.X∧0<v.Y then (0,v) else if 0<v.X∧v.Y≤0 then (8,⟨-v.Y,v.X⟩) else if v.X≤0∧v.Y<0 then (16,⟨-v.X,-v.Y⟩) else (24,⟨v.Y,-v.X⟩)
def Xf:List Zu:=[⟨0,1000⟩,⟨195,981⟩,⟨383,924⟩,⟨556,831⟩,⟨707,707⟩,⟨831,556⟩,⟨924,383⟩,⟨981,195⟩]
def X6H (v:Zu) (l:List Zu):Nat:=l.countP fun q=>decide (q.X*v.Y-q.Y*v.X≤0)
def X5F (v:Zu):Int:=(X46 v).1+(X6H (X46 v).2 Xf:Nat)-1

theorem X7p {v:Zu} (hb : -60000≤v.X∧v.X≤60000 ∧ -60000≤v.Y∧v.Y≤60000) (h0:¬ (v.X=0∧v.Y=0)):0≤(X46 v).1∧(X46 v).1≤24∧0≤(X46 v).2.X∧(X46 v).2.X≤60000∧0<(X46 v).2.Y∧(X46 v).2.Y≤60000:=by
 unfold X46
 split
 ·simp only;omega
 ·split
  ·simp only;omega
  ·split<;>simp only<;>omega

theorem X6O {γ:Type} (v:Zu) (hb : -60000≤v.X∧v.X≤60000 ∧ -60000≤v.Y∧v.Y≤60000) (h0:¬ (v.X=0∧v.Y=0)) (k:Int×Zu→Option γ) :
  Option.bind (X1r (0,v)) k=k (X46 v):=by
 obtain ⟨x,y⟩:=v
 simp only at hb h0
 have stop:∀ (n:Int) (x y:Int),0≤x→0<y→Option.bind (Z8S X8 (n,⟨x,y⟩)) k=k (n,⟨x,y⟩):=fun n x y hx hy=>by
  rw [X3n]
  have e1:decide (x<0)=false:=by simp;omega
  have e2:decide (y≤0)=false:=by simp;omega
  simp only [X8,Xu,e1,e2,cond_false,Option.bind_some,Sum.elim_inr]
 have go:∀ (n:Int) (x y:Int),0≤n→n≤24 → -60000≤x→x≤60000 → -60000≤y→y≤60000→(x<0∨y≤0)→Option.bind (Z8S X8 (n,⟨x,y⟩)) k=Option.bind (Z8S X8 (n+8,⟨-y,x⟩)) k:=fun n x y h1 h2 h3 h4 h5 h6 h7=>by
  rw [X3n]
  have w1:IntKind.wrap .i64 (n+8)=n+8:=by rw [w64]<;>omega
  have w2:IntKind.wrap .i64 (0-y) = -y:=by rw [w64]<;>omega
  by_cases e1:x<0
  ·simp only [X8,Xu,e1,decide_true,cond_true,Option.bind_some,Sum.elim_inl,w1,w2]
  ·have e2:y≤0:=by omega
   simp only [X8,Xu,e1,e2,decide_true,decide_false,cond_true,cond_false,Option.bind_some,Sum.elim_inl,w1,w2]
 unfold X1r X46
 simp only
 by_cases c1:0≤x∧0<y
 ·rw [if_pos c1];exact stop _ _ _ c1.1 c1.2
 ·rw [if_neg c1]
  by_cases c2:0<x∧y≤0
  ·rw [if_pos c2,go 0 x y (by omega) (by omega) (by omega) (by omega) (by omega) (by omega) (by omega)]
   exact stop _ _ _ (by omega) (by omega)
  ·rw [if_neg c2]
   by_cases c3:x≤0∧y<0
   ·rw [if_pos c3,go 0 x y (by omega) (by omega) (by omega) (by omega) (by omega) (by omega) (by omega),go _ _ _ (by omega) (by omega) (by omega) (by omega) (by omega) (by omega) (by omega)]
    exact stop _ _ _ (by omega) (by omega)
   ·rw [if_neg c3,go 0 x y (by omega) (by omega) (by omega) (by omega) (by omega) (by omega) (by omega),go _ _ _ (by omega) (by omega) (by omega) (by omega) (by omega) (by omega) (by omega),go _ _ _ (by omega) (by omega) (by omega) (by omega) (by omega) (by omega) (by omega)]
    rw [show (- - y:Int)=y by omega]
    exact stop _ _ _ (by omega) (by omega)

theorem X6P {γ:Type} (q:Nat→Zu) (hq:∀ i,(h:i<8)→q i=Xf[i]) (v:Zu) (hb:0≤v.X∧v.X≤60000∧0≤v.Y∧v.Y≤60000) (n:Int) (hn:0≤n∧n≤24) (k:Int→Option γ) :
  Option.bind (X2k q v (n,0)) k=k (n+(X6H v Xf:Nat)):=by
 refine (X4 (W0 q v) k 8 (fun i (b:Int)=>(b,(i:Int))) (fun i b=>0≤b∧b≤24+i) (fun i b=>k (b+(X6H v (Xf.drop i):Nat))) ?_ ?_ 0 n (by omega) (by omega)).trans (by simp)
 ·intro b _ R
  simp [W0,Wc,X6H,Xf]
 ·intro i b hi hP R hR
  simp only [W0,Wc]
  rw [List.drop_eq_getElem_cons (show i<Xf.length from hi)]
  have hw:IntKind.wrap .i64 ((i:Int)+1)=((i+1:Nat):Int):=by rw [w64]<;>omega
  have hwb:IntKind.wrap .i64 (b+1)=b+1:=by rw [w64]<;>omega
  have e1:decide ((i:Int)<8)=true:=by simp;omega
  have e2:decide ((0:Int)≤↑i)=true:=by simp
  have e3:decide ((i:Int)<((8:Nat):Int))=true:=by simp;omega
  have hqb:0≤(Xf[i]'hi).X∧(Xf[i]'hi).X≤1000∧0≤(Xf[i]'hi).Y∧(Xf[i]'hi).Y≤1000:=by
   have:i=0∨i=1∨i=2∨i=3∨i=4∨i=5∨i=6∨i=7:=by omega
   rcases this with rfl|rfl|rfl|rfl|rfl|rfl|rfl|rfl<;>simp [Xf]
  have b1:=X5E (a:=(Xf[i]'hi).X) (b:=v.Y) 1000 60000 (by omega) (by omega) (by omega) (by omega)
  have b2:=X5E (a:=(Xf[i]'hi).Y) (b:=v.X) 1000 60000 (by omega) (by omega) (by omega) (by omega)
  simp only [Int.toNat_natCast,hq i hi,hw,hwb]
  rw [w64 (x:=(Xf[i]'hi).X*v.Y) (by omega) (by omega),w64 (x:=(Xf[i]'hi).Y*v.X) (by omega) (by omega),w64 (x:=(Xf[i]'hi).X*v.Y-_) (by omega) (by omega)]
  simp only [e1,e2,e3,Bool.and_self,cond_true]
  unfold X6H at hR ⊢
  generalize Xf[i]'hi=Q at *
  by_cases h:Q.X*v.Y-Q.Y*v.X≤0
  ·rw [List.countP_cons_of_pos (by simpa using h)]
   simp only [h,decide_true,cond_true,Option.bind_some,Sum.elim_inl]
   rw [hR (b+1) (by omega)]
   congr 1
   push_cast
   omega
  ·rw [List.countP_cons_of_neg (by simpa using h)]
   simp only [h,decide_false,cond_false,Option.bind_some,Sum.elim_inl]
   exact hR b (by omega)

theorem X5D (v:Zu) (hb : -60000≤v.X∧v.X≤60000 ∧ -60000≤v.Y∧v.Y≤60000) (h0:¬ (v.X=0∧v.Y=0)):X3w v=some (X5F v):=by
 rw [X4F];unfold X1x
 have hq:=X7p hb h0
 rw [X6O v hb h0,X6P _ (fun i hi=>by
   have:i=0∨i=1∨i=2∨i=3∨i=4∨i=5∨i=6∨i=7:=by omega
   rcases this with rfl|rfl|rfl|rfl|rfl|rfl|rfl|rfl<;>rfl) _ (by omega) _ (by omega)]
 have hc:X6H (X46 v).2 Xf≤8:=List.countP_le_length (l:=Xf)
 unfold X5F
 rw [w64 (by omega) (by omega)]

theorem X7L {v:Zu} (hb : -60000≤v.X∧v.X≤60000 ∧ -60000≤v.Y∧v.Y≤60000) (h0:¬ (v.X=0∧v.Y=0)):0≤X5F v∧X5F v≤31:=by
 have hq:=X7p hb h0
 have hc:X6H (X46 v).2 Xf≤8:=List.countP_le_length (l:=Xf)
 have h1:1≤X6H (X46 v).2 Xf:=by
  unfold X6H Xf
  rw [List.countP_cons_of_pos (by simp;omega)]
  omega
 unfold X5F
 omega

def X6k (f:ZJ) (mark:Int) (p:Zu):Int×Int :=
 if W9 f mark=false then (0,9) else if X3a 30000 p then (0,7) else if (Z8y f mark).At=p then (0,8) else (X5F (XS (Z8y f mark).At p),0)
def X1U (f:ZJ) (mark:Int) (p:Zu):Int:=if (X6k f mark p).2≠0 then -1 else (X6k f mark p).1

theorem X7n {f:ZJ} (hg:X21 f) {mark:Int} (h0:0≤mark) (h1:mark<f.Chart.Marks.length):Bd 30000 (Z8y f mark).At:=by
 have hj:mark.toNat<f.Chart.Marks.length:=by omega
 have:=(hg.mark _ (List.getElem_mem hj)).1
 rw [X5Y] at this
 unfold Z8y
 rw [X0 _ _ _ hj];exact this

theorem X61 {f:ZJ} (hg:X21 f) (mark:Int) (h0:0≤mark) (h1:mark<f.Chart.Marks.length) (p:Zu):X4q f.Chart f.Day mark p=some (X6k f mark p):=by
 rw [X5e];unfold X26 X6k
 rw [X3X];unfold WU
 rw [X4i hg mark h0 h1]
 have hb:=X7n hg h0 h1
 unfold W9 Z8y at *
 generalize hM:f.Chart.Marks.getD mark.toNat ⟨ByteArray.empty,⟨0,0⟩,[]⟩=M at *
 simp only [Option.bind_some,beq_self_eq_true,cond_true]
 by_cases hp:X3O M f.Day=0
 ·simp [hp]
 ·simp only [X3z hp,cond_false,Option.bind_some,bne_self_eq_false,WS hp,Bool.true_eq_false,if_false]
  rw [X4r _ (by omega) _ (by simp)]
  simp only [Option.bind_some,List.any_cons,List.any_nil,Bool.or_false]
  cases hf:X3a 30000 p
  ·rw [X5Y] at hf
   unfold Bd at hb hf
   simp only [cond_false,Bool.false_eq_true,if_false,Bool.and_true]
   by_cases he:M.At=p
   ·subst he;simp
   ·have:(M.At.X==p.X&&M.At.Y==p.Y)=false:=by
     cases hc:(M.At.X==p.X&&M.At.Y==p.Y)
     ·rfl
     ·exfalso;simp at hc;exact he (Zu.ext hc.1 hc.2)
    rw [this,if_neg he]
    simp only [cond_false]
    rw [w64 (x:=M.At.X-p.X) (by omega) (by omega),w64 (x:=M.At.Y-p.Y) (by omega) (by omega)]
    have h00:¬ (M.At.X-p.X=0∧M.At.Y-p.Y=0):=fun q=>he (Zu.ext (by omega) (by omega))
    rw [X5D _ (by simp only;omega) h00]
    rfl
  ·simp

theorem X6N {f:ZJ} (hg:X21 f) {mark:Int} (h0:0≤mark) (h1:mark<f.Chart.Marks.length) (p:Zu) : -1≤X1U f mark p∧X1U f mark p≤31:=by
 have hb:=X7n hg h0 h1
 unfold X1U X6k
 by_cases h:W9 f mark=false
 ·simp [h]
 ·rw [if_neg h]
  by_cases h3:X3a 30000 p=true
  ·simp [h3]
  ·rw [if_neg h3]
   by_cases h4:(Z8y f mark).At=p
   ·simp [h4]
   ·rw [if_neg h4]
    simp only [Bool.not_eq_true] at h3
    rw [X5Y] at h3
    unfold Bd at hb h3
    have:=X7L (v:=XS (Z8y f mark).At p) (by unfold XS;simp only;omega) (fun q=>h4 (by unfold XS at q;simp only at q;exact Zu.ext (by omega) (by omega)))
    simp only [ne_eq,not_true,if_false]
    omega

theorem X4A (a b:Zh):Zh.eqb a b=true↔a=b:=by
 obtain ⟨m,⟨x,y⟩⟩:=a
 obtain ⟨m',⟨x',y'⟩⟩:=b
 simp [Zh.eqb]
theorem X5N {v:Int} (s k:Zh):∀ m:List (Zh×Int),Z8z Zh.eqb s (Zgh Zh.eqb k v m)=bif Zh.eqb s k then some v else Z8z Zh.eqb s m
 | []=>by
  simp only [Zgh,Z8z]
 | (a,b)::m=>by
  have ih:=X5N (v:=v) s k m
  simp only [Zgh]
  have sym:∀ x y,Zh.eqb x y=Zh.eqb y x:=fun x y=>by
   cases h:Zh.eqb y x with
   | true=>rw [(X4A _ _).1 h,(X4A x x).2 rfl]
   | false=>cases h2:Zh.eqb x y with
    | false=>rfl
    | true=>rw [(X4A _ _).1 h2,(X4A y y).2 rfl] at h;cases h
  cases e:Zh.eqb a k with
  | true =>
   have:=(X4A _ _).1 e
   subst this
   simp only [e,cond_true,Z8z]
   cases Zh.eqb s a<;>rfl
  | false =>
   have e6:Zh.eqb k a=false:=by rw [sym];exact e
   simp only [e,e6,cond_false,Z8z,ih]
   cases h:Zh.eqb s k with
   | true =>
    have:=(X4A _ _).1 h
    subst this
    simp [e,e6]
   | false=>rfl

def XT (f:ZJ) (m:List (Zh×Int)):Prop:=∀ (mark:Int) p n,0≤mark→mark<f.Chart.Marks.length→Z8z Zh.eqb ⟨mark,p⟩ m=some n→n=X1U f mark p
theorem X60 (f:ZJ):XT f []:=fun _ _ _ _ _ h=>by cases h

theorem X6o {f:ZJ} (hg:X21 f) {mark:Int} (h0:0≤mark) (h1:mark<f.Chart.Marks.length) (p:Zu) (l:List Zm) (kit:Nat→Nat) {m:List (Zh×Int)} (hm:XT f m) :
  ∃ m',XT f m'∧XQ (mark,p,f,l,kit,m)=some (X1U f mark p,f,l,kit,m'):=by
 rw [X2S];unfold Xz
 cases hf:Z8z Zh.eqb ⟨mark,p⟩ m with
 | some n=>exact ⟨m,hm,by simp only [hf,Option.isSome_some,Bool.not_true,cond_false,Option.getD_some];rw [hm _ _ _ h0 h1 hf]⟩
 | none =>
  simp only [hf,Option.isSome_none,Bool.not_false,cond_true]
  rw [X61 hg mark h0 h1]
  have put:∀ v,v=X1U f mark p→XT f (Zgh Zh.eqb ⟨mark,p⟩ v m):=fun v hv mk q n k0 k1 hq=>by
   rw [X5N] at hq
   cases e:Zh.eqb ⟨mk,q⟩ ⟨mark,p⟩ with
   | true =>
    rw [e] at hq
    cases (X4A _ _).1 e;cases hq;exact hv
   | false =>
    rw [e] at hq
    exact hm _ _ _ k0 k1 hq
  simp only [Option.bind_some]
  by_cases he:(X6k f mark p).2=0
  ·have hs:X1U f mark p=(X6k f mark p).1:=by unfold X1U;rw [if_neg (by simp [he])]
   refine ⟨_,put _ hs.symm,?_⟩
   simp only [he,bne_self_eq_false,cond_false,hs]
  ·have hs:X1U f mark p = -1:=by unfold X1U;rw [if_pos he]
   refine ⟨_,put _ hs.symm,?_⟩
   simp only [WS he,cond_true,hs]

def X7a (shown Z5R:Int):Int:=if (shown-Z5R+32) % 32>16 then (shown-Z5R+32) % 32-32 else (shown-Z5R+32) % 32
def X4w (a:Zt) (p:Zu):Bool := !X3 a.X.Lo a.X.Hi [p.X] && !X3 a.Y.Lo a.Y.Hi [p.Y]
def X7C (f:ZJ) (p:Zu):Option Zt:=f.Areas.find? fun a=>X4w a p
def X2n (f:ZJ) (p:Zu) (x:Zm):ZE×Bool :=
 if (We f x.Instrument).Lead then (match X7C f p with
  | none=>(⟨-20,20⟩,true)
  | some a=>(⟨x.Shown-a.Depth.Hi,x.Shown-a.Depth.Lo⟩,x.Ground==0||x.Ground==a.Ground))
 else (⟨X7a x.Shown (X1U f x.Mark p),X7a x.Shown (X1U f x.Mark p)⟩,decide (X1U f x.Mark p≥0))

theorem X6l {f:ZJ} {x:Zm} (h:X1p f x=0):(0≤x.Instrument∧x.Instrument<f.Instruments.length)∧((We f x.Instrument).Lead=true→0≤x.Shown∧x.Shown≤1000∧0≤x.Ground∧x.Ground≤4∧x.Mark=0) ∧
  ((We f x.Instrument).Lead=false→0≤x.Mark∧x.Mark<f.Chart.Marks.length∧W9 f x.Mark=true∧0≤x.Shown∧x.Shown≤31∧x.Ground=0):=by
 unfold X1p at h
 cases h1:X3 0 ((f.Instruments.length:Int)-1) [x.Instrument]
 ·rw [h1] at h
  simp only [Bool.false_eq_true,if_false] at h
  simp at h1
  refine ⟨by omega,fun hL => ?_,fun hL => ?_⟩
  ·rw [if_pos hL] at h
   cases h2:X3 0 1000 [x.Shown]
   ·cases h3:X3 0 4 [x.Ground]
    ·rw [h2,h3] at h
     simp at h h2 h3
     omega
    ·rw [h2,h3] at h;simp at h
   ·rw [h2] at h;simp at h
  ·rw [if_neg (by simp [hL])] at h
   cases h2:X3 0 ((f.Chart.Marks.length:Int)-1) [x.Mark]
   ·rw [h2] at h
    cases h3:W9 f x.Mark
    ·rw [h3] at h;simp at h
    ·cases h4:X3 0 31 [x.Shown]
     ·rw [h3,h4] at h
      simp at h h2 h4
      exact ⟨by omega,by omega,rfl,by omega,by omega,by omega⟩
     ·rw [h3,h4] at h;simp at h
   ·rw [h2] at h;simp at h
 ·rw [h1] at h;simp at h

theorem X6W {f:ZJ} (hg:X21 f) {x:Zm} (hx:X1p f x=0) (hL:(We f x.Instrument).Lead=false) (p:Zu) (l:List Zm) (kit:Nat→Nat) {m:List (Zh×Int)} (hm:XT f m) :
  ∃ m',XT f m'∧Xo (p,x,f,l,kit,m)=some ((X2n f p x).1,(X2n f p x).2,f,l,kit,m'):=by
 obtain ⟨h1,_,h3⟩:=X6l hx
 have h3:=h3 hL
 obtain ⟨m',hm',ht⟩:=X6o hg h3.1 h3.2.1 p l kit hm
 refine ⟨m',hm',?_⟩
 rw [X2U];unfold XA X2n X7a
 rw [ht,if_neg (by simp [hL])]
 have hs:=X6N hg h3.1 h3.2.1 p
 generalize X1U f x.Mark p=s at *
 simp only [Option.bind_some]
 rw [w64 (x:=x.Shown-s) (by omega) (by omega),w64 (x:=x.Shown-s+32) (by omega) (by omega)]
 have ht:(x.Shown-s+32).tmod 32=(x.Shown-s+32) % 32:=Int.tmod_eq_emod_of_nonneg (by omega)
 rw [ht]
 by_cases hc:(x.Shown-s+32) % 32>16
 ·have hw:IntKind.wrap .i64 ((x.Shown-s+32) % 32-32)=(x.Shown-s+32) % 32-32:=by rw [w64]<;>omega
  simp only [hc,decide_true,cond_true,if_true,hw]
 ·simp only [hc,decide_false,cond_false,if_false]

theorem X7O {a:Zt} (h:X3V a=0):0≤a.Depth.Lo∧a.Depth.Lo≤a.Depth.Hi∧a.Depth.Hi≤1000∧a.X.Lo≤a.X.Hi∧a.Y.Lo≤a.Y.Hi∧1≤a.Ground∧a.Ground≤4:=by
 unfold X3V at h
 cases h1:(X3 (-30000) 30000 [a.X.Lo,a.X.Hi,a.Y.Lo,a.Y.Hi]||X3 0 1000 [a.Depth.Lo,a.Depth.Hi]||X3 1 4 [a.Ground])
 ·rw [h1] at h
  simp at h h1
  omega
 ·rw [h1] at h;simp at h

theorem X7H {f:ZJ} (hg:X21 f) {x:Zm} (hx:X1p f x=0) (hL:(We f x.Instrument).Lead=true) (p:Zu) (l:List Zm) (kit:Nat→Nat) (m:List (Zh×Int)) :
  W1 (p,x,f,l,kit,m)=some ((X2n f p x).1,(X2n f p x).2,f,l,kit,m):=by
 obtain ⟨h1,h2,_⟩:=X6l hx
 have h2:=h2 hL
 rw [X3s];unfold Wd X2n
 rw [if_pos hL]
 have ha:=hg.areas
 refine (X4 (Xj (↑f.Areas.length) f.Areas p) _ f.Areas.length (fun i (_:Unit)=>(i:Int)) (fun _ _=>True) (fun i _=>match (f.Areas.drop i).find? fun a=>X4w a p with
   | none=>some (⟨-20,20⟩,true,f,l,kit,m)
   | some a=>some (⟨x.Shown-a.Depth.Hi,x.Shown-a.Depth.Lo⟩,x.Ground==0||x.Ground==a.Ground,f,l,kit,m)) ?_ ?_ 0 () (by omega) trivial).trans ?_
 ·intro b _ R
  simp [Xj,Xt]
 ·intro i b hi _ R hR
  have hR':=hR () trivial
  have hab:=X7O (hg.area _ (List.getElem_mem hi))
  simp only [Xj,Xt]
  rw [List.drop_eq_getElem_cons hi,List.find?_cons]
  have hw:IntKind.wrap .i64 ((i:Int)+1)=((i+1:Nat):Int):=by rw [w64]<;>omega
  simp only [Int.toNat_natCast,X0 _ _ _ hi,hw]
  rw [X1 _ _ _ (by simp),X1 _ _ _ (by simp)]
  have e1:decide ((i:Int)<↑f.Areas.length)=true:=by simp [hi]
  have e2:decide ((0:Int)≤↑i)=true:=by simp
  have e3:decide ((i:Int)<0)=false:=by simp
  simp only [e1,e2,Bool.and_self,cond_true,Option.bind_some]
  have w1:IntKind.wrap .i64 (x.Shown-f.Areas[i].Depth.Hi)=x.Shown-f.Areas[i].Depth.Hi:=by rw [w64]<;>omega
  have w2:IntKind.wrap .i64 (x.Shown-f.Areas[i].Depth.Lo)=x.Shown-f.Areas[i].Depth.Lo:=by rw [w64]<;>omega
  cases o1:X3 f.Areas[i].X.Lo f.Areas[i].X.Hi [p.X]
  ·cases o2:X3 f.Areas[i].Y.Lo f.Areas[i].Y.Hi [p.Y]
   ·have:X4w f.Areas[i] p=true:=by unfold X4w;rw [o1,o2];rfl
    simp only [this,Bool.not_false,cond_true,Option.bind_some,Sum.elim_inr,Sum.elim_inl,e3,cond_false,e1,e2,Bool.and_self,Int.toNat_natCast,X0 _ _ _ hi,w1,w2]
    by_cases hG:x.Ground=0
    ·simp [hG]
    ·simp [X3z hG]
   ·have:X4w f.Areas[i] p=false:=by unfold X4w;rw [o1,o2];rfl
    simp only [this,Bool.not_false,Bool.not_true,cond_true,cond_false,Option.bind_some,Sum.elim_inl]
    exact hR'
  ·have:X4w f.Areas[i] p=false:=by unfold X4w;rw [o1];rfl
   simp only [this,Bool.not_true,cond_false,Option.bind_some,Sum.elim_inl]
   exact hR'
 ·simp only [List.drop_zero,X7C]
  cases f.Areas.find? fun a=>X4w a p<;>rfl
end Nore
open Go Go.Ab
namespace Nore

def X6r (x k:Int):Bool:=IntKind.wrap IntKind.i64 (↑(BitVec.toNat (BitVec.ofInt (IntKind.bits IntKind.i64) (Int.fdiv x (2 ^ min (Int.toNat k) (IntKind.bits IntKind.i64))) &&& BitVec.ofInt (IntKind.bits IntKind.i64) 1)):Int)==1
theorem X7t (k:Int):X6r 0 k=false:=by
 unfold X6r
 rw [show Int.fdiv 0 (2 ^ min (Int.toNat k) (IntKind.bits IntKind.i64))=0 from Int.zero_fdiv _]
 decide

def X37 (f:ZJ) (ib mb:Int) (x:Zm):Bool:=X6r ib x.Instrument||(!(We f x.Instrument).Lead&&X6r mb x.Mark)
def X4s (n a:ZE):ZE:=⟨if a.Lo>n.Lo then a.Lo else n.Lo,if a.Hi<n.Hi then a.Hi else n.Hi⟩
def atL (f:ZJ) (p:Zu) (ib mb:Int):(Nat→ZE)→List Zm→(Nat→ZE)×Bool
 | s,[]=>(s,true)
 | s,x::l=>if X37 f ib mb x then atL f p ib mb s l else
  if (X2n f p x).2=false∨(X4s (X2n f p x).1 (s x.Instrument.toNat)).Lo>(X4s (X2n f p x).1 (s x.Instrument.toNat)).Hi then (s,false) else
  atL f p ib mb (fun j=>if j=x.Instrument.toNat then X4s (X2n f p x).1 (s x.Instrument.toNat) else s j) l
def X36 (f:ZJ) (i:Nat):ZE:=if h:i<f.Instruments.length then f.Instruments[i].Off else ⟨0,0⟩
def atN (f:ZJ) (l:List Zm) (p:Zu) (ib mb:Int):(Nat→ZE)×Bool:=atL f p ib mb (X36 f) l

theorem X7E {γ:Type} (f:ZJ) (hi4:f.Instruments.length≤4) (x0 x2:Int) (l:List Zm) (kit:Nat→Nat) (m:List (Zh×Int)) (p:Zu) (k:(Nat→ZE)→Option γ) :
  Option.bind (X1H (↑f.Instruments.length) x0 x2 f.Instruments f l kit m p (0,fun _=>⟨0,0⟩)) k=k (X36 f):=by
 refine (X4 (Xp (↑f.Instruments.length) x0 x2 f.Instruments f l kit m p) k f.Instruments.length (fun i (b:Nat→ZE)=>((i:Int),b)) (fun i b=>∀ j,b j=if j<i then X36 f j else ⟨0,0⟩) (fun _ _=>k (X36 f)) ?_ ?_ 0 _ (by omega) (fun j=>by simp))
 ·intro b hb R
  have:b=X36 f:=by
   funext j
   rw [hb]
   by_cases h:j<f.Instruments.length
   ·simp [h]
   ·simp [h,X36]
  simp [Xp,Xv,this]
 ·intro i b hi hb R hR
  have hw:IntKind.wrap .i64 ((i:Int)+1)=((i+1:Nat):Int):=by rw [w64]<;>omega
  have e1:decide ((i:Int)<↑f.Instruments.length)=true:=by simp [hi]
  have e2:decide ((0:Int)≤↑i)=true:=by simp
  have e3:decide ((i:Int)<((4:Nat):Int))=true:=by simp;omega
  have e3':decide ((i:Int)<(4:Int))=true:=by simp;omega
  have e4:Nat.blt i 4=true:=by rw [Tr.blt_dec];simp;omega
  simp only [Xp,Xv,Int.toNat_natCast,X0 _ _ _ hi,hw,e1,e2,e3,e3',e4,Bool.and_self,cond_true,Option.bind_some,Sum.elim_inl]
  refine hR _ fun j => ?_
  rw [Tr.beq_dec]
  by_cases e:j=i
  ·subst e;simp [X36,hi]
  ·simp only [e,decide_false,cond_false,hb j]
   by_cases h:j<i
   ·simp [h,show j<i+1 by omega]
   ·simp [h,show ¬ j<i+1 by omega]

theorem X7D {f:ZJ} (hg:X21 f) {l:List Zm} (hl:∀ x∈l,X1p f x=0) (hll:l.length≤8) {kit:Nat→Nat} (hk:Kit f kit) {m:List (Zh×Int)} (hm:XT f m) (p:Zu) (ib mb:Int) :
  ∃ m',XT f m'∧Ww (ib,p,mb,f,l,kit,m)=some ((atN f l p ib mb).1,(atN f l p ib mb).2,f,l,kit,m'):=by
 rw [X3H];unfold WB atN
 rw [X7E f hg.inst.2]
 have main:=X5b (Xq ib l mb (↑l.length) p) (fun o=>Sum.elim (fun (y:Bool×(Nat→ZE)×ZJ×List Zm×(Nat→Nat)×ZE×List (Zh×Int)×Zm)=>some (y.snd.fst,y.fst,y.snd.snd.fst,y.snd.snd.snd.fst,y.snd.snd.snd.snd.fst,y.snd.snd.snd.snd.snd.snd.fst)) (fun y=>Sum.elim (fun (y:Bool×(Nat→ZE)×ZJ×List Zm×(Nat→Nat)×ZE×List (Zh×Int)×Zm)=>some (y.snd.fst,y.fst,y.snd.snd.fst,y.snd.snd.snd.fst,y.snd.snd.snd.snd.fst,y.snd.snd.snd.snd.snd.snd.fst)) (fun (y:(Nat→ZE)×ZJ×List Zm×(Nat→Nat)×List (Zh×Int))=>some (y.fst,true,y.snd.fst,y.snd.snd.fst,y.snd.snd.snd.fst,y.snd.snd.snd.snd)) y) o) l.length
  (fun i (b:(Nat→ZE)×List (Zh×Int))=>((i:Int),b.1,f,l,kit,b.2)) (fun _ b=>XT f b.2) (fun i b r=>∃ m',XT f m'∧r=some ((atL f p ib mb b.1 (l.drop i)).1,(atL f p ib mb b.1 (l.drop i)).2,f,l,kit,m'))
  (by
   intro b hb R
   refine ⟨b.2,hb,?_⟩
   simp [Xq,Xw,atL])
  (by
   intro i b hi hb R hR
   have hx:=hl _ (List.getElem_mem hi)
   obtain ⟨x,hxd⟩:∃ x,l[i]=x:=⟨_,rfl⟩
   rw [hxd] at hx
   have hgd:l.getD i ⟨0,0,0,0⟩=x:=(X0 _ _ _ hi).trans hxd
   obtain ⟨h1,h2,h3⟩:=X6l hx
   have hi4:=hg.inst.2
   have hw:IntKind.wrap .i64 ((i:Int)+1)=((i+1:Nat):Int):=by rw [w64]<;>omega
   have e1:decide ((i:Int)<↑l.length)=true:=by simp [hi]
   have e2:decide ((0:Int)≤↑i)=true:=by simp
   simp only [Xq,Xw,Int.toNat_natCast,hgd,hw,e1,e2,Bool.and_self,cond_true]
   rw [List.drop_eq_getElem_cons hi,hxd]
   have hj:x.Instrument.toNat<f.Instruments.length:=by omega
   have i1:decide (0≤x.Instrument)=true:=by simp;omega
   have i2:decide (x.Instrument<((4:Nat):Int))=true:=by simp;omega
   have i2':decide (x.Instrument<(4:Int))=true:=by simp;omega
   have i3:Nat.blt x.Instrument.toNat 4=true:=by rw [Tr.blt_dec];simp;omega
   have i4:decide (x.Instrument<0)=false:=by simp;omega
   have hkk:=hk _ hj
   have hio:We f x.Instrument=f.Instruments[x.Instrument.toNat]:=X0 _ _ _ hj
   have hcut:∀ (n a:ZE),(⟨bif decide (a.Lo>n.Lo) then a.Lo else n.Lo,bif decide (a.Hi<n.Hi) then a.Hi else n.Hi⟩:ZE)=X4s n a:=fun n a=>by
    unfold X4s
    by_cases c1:a.Lo>n.Lo<;>by_cases c2:a.Hi<n.Hi<;>simp [c1,c2]
   have hcut1:∀ (n a:ZE),(bif decide (a.Lo>n.Lo) then a.Lo else n.Lo)=(X4s n a).Lo:=fun n a=>by rw [←hcut]
   have hcut2:∀ (n a:ZE),(bif decide (a.Hi<n.Hi) then a.Hi else n.Hi)=(X4s n a).Hi:=fun n a=>by rw [←hcut]
   have hfun:∀ (c:ZE) (s:Nat→ZE),(fun j=>bif Nat.beq j x.Instrument.toNat then c else s j)=fun j=>if j=x.Instrument.toNat then c else s j:=fun c s=>by
    funext j;rw [Tr.beq_dec];by_cases e:j=x.Instrument.toNat<;>simp [e]
   simp only [i1,i2,i2',i3,i4,Bool.and_self,cond_true,cond_false,atL]
   rcases Bool.eq_false_or_eq_true (We f x.Instrument).Lead with hL|hL
   rotate_left
   ·rw [←hio,hL] at hkk
    simp only [Bool.false_eq_true,if_false] at hkk
    have h3:=h3 hL
    have i5:decide (x.Mark<0)=false:=by simp;omega
    simp only [hkk,show Nat.beq 1 0=false from rfl,show Nat.beq 1 1=true from rfl,cond_false,cond_true,i5]
    have hib:(IntKind.wrap IntKind.i64 (↑(BitVec.toNat (BitVec.ofInt (IntKind.bits IntKind.i64) (Int.fdiv ib (2 ^ min (Int.toNat x.Instrument) (IntKind.bits IntKind.i64))) &&& BitVec.ofInt (IntKind.bits IntKind.i64) 1)):Int)==1)=X6r ib x.Instrument:=rfl
    have hmb:(IntKind.wrap IntKind.i64 (↑(BitVec.toNat (BitVec.ofInt (IntKind.bits IntKind.i64) (Int.fdiv mb (2 ^ min (Int.toNat x.Mark) (IntKind.bits IntKind.i64))) &&& BitVec.ofInt (IntKind.bits IntKind.i64) 1)):Int)==1)=X6r mb x.Mark:=rfl
    rw [hib,hmb]
    rcases Bool.eq_false_or_eq_true (X6r ib x.Instrument) with hb1|hb1
    rotate_left
    ·rcases Bool.eq_false_or_eq_true (X6r mb x.Mark) with hb2|hb2
     rotate_left
     ·have hsk:X37 f ib mb x=false:=by unfold X37;rw [hL,hb1,hb2];rfl
      simp only [hb1,hb2,cond_false,hsk,Bool.false_eq_true,if_false]
      obtain ⟨m',hm',hc⟩:=X6W hg hx hL p l kit hb
      rw [hc]
      simp only [Option.bind_some,hcut,hcut1,hcut2,hfun]
      cases ho:(X2n f p x).2
      ·exact ⟨m',hm',by simp⟩
      ·by_cases hc:(X4s (X2n f p x).1 (b.1 x.Instrument.toNat)).Lo>(X4s (X2n f p x).1 (b.1 x.Instrument.toNat)).Hi
       ·exact ⟨m',hm',by simp [hc]⟩
       ·simp only [Bool.not_true,cond_false,hc,decide_false,Option.bind_some,Sum.elim_inl,Bool.true_eq_false,or_self,if_false]
        exact hR (_,m') hm'
     ·have hsk:X37 f ib mb x=true:=by unfold X37;rw [hL,hb1,hb2];rfl
      simp only [hb1,hb2,cond_true,cond_false,Option.bind_some,Sum.elim_inl,hsk,if_true]
      exact hR b hb
    ·have hsk:X37 f ib mb x=true:=by unfold X37;rw [hb1];rfl
     simp only [hb1,cond_true,Option.bind_some,Sum.elim_inl,hsk,if_true]
     exact hR b hb
   ·rw [←hio,hL] at hkk
    simp only [if_true] at hkk
    have h2:=h2 hL
    simp only [hkk,show Nat.beq 2 0=false from rfl,show Nat.beq 2 1=false from rfl,show Nat.beq 2 (1+1)=true from rfl,cond_false,cond_true]
    have hib:(IntKind.wrap IntKind.i64 (↑(BitVec.toNat (BitVec.ofInt (IntKind.bits IntKind.i64) (Int.fdiv ib (2 ^ min (Int.toNat x.Instrument) (IntKind.bits IntKind.i64))) &&& BitVec.ofInt (IntKind.bits IntKind.i64) 1)):Int)==1)=X6r ib x.Instrument:=rfl
    rw [hib]
    rcases Bool.eq_false_or_eq_true (X6r ib x.Instrument) with hb1|hb1
    rotate_left
    ·have hsk:X37 f ib mb x=false:=by unfold X37;rw [hL,hb1];rfl
     simp only [hb1,cond_false,hsk,Bool.false_eq_true,if_false]
     rw [X7H hg hx hL p l kit]
     simp only [Option.bind_some,hcut,hcut1,hcut2,hfun]
     cases ho:(X2n f p x).2
     ·exact ⟨b.2,hb,by simp⟩
     ·by_cases hc:(X4s (X2n f p x).1 (b.1 x.Instrument.toNat)).Lo>(X4s (X2n f p x).1 (b.1 x.Instrument.toNat)).Hi
      ·exact ⟨b.2,hb,by simp [hc]⟩
      ·simp only [Bool.not_true,cond_false,hc,decide_false,Option.bind_some,Sum.elim_inl,Bool.true_eq_false,or_self,if_false]
       exact hR (_,b.2) hb
    ·have hsk:X37 f ib mb x=true:=by unfold X37;rw [hb1];rfl
     simp only [hb1,cond_true,Option.bind_some,Sum.elim_inl,hsk,if_true]
     exact hR b hb)
 have:=main 0 (X36 f,m) (by omega) hm
 unfold X1I
 simpa using this
end Nore
open Go Go.Ab
namespace Nore

def X2s (f:ZJ) (x y:Int):Nat→List Zu
 | 0=>[]
 | n+1=>⟨x*f.Step,y*f.Step⟩::X2s f x (y+1) n
def X16 (f:ZJ):Nat:=(2*f.Half+1).toNat
def X3h (f:ZJ) (x:Int):Nat→List Zu
 | 0=>[]
 | n+1=>X2s f x (-f.Half) (X16 f)++X3h f (x+1) n
def X6Y (f:ZJ):List Zu:=X3h f (-f.Half) (X16 f)
def X5 (f:ZJ) (l:List Zm):List Zu:=(X6Y f).filter fun p=>(atN f l p 0 0).2

theorem X57 (f:ZJ) (x:Int):∀ (n:Nat) (y:Int),(X2s f x y n).length=n
 | 0,_=>rfl
 | n+1,y=>by simp [X2s,X57 f x n]
structure X6x (f:ZJ) (l:List Zm):Prop where
 fix:X21 f
 len:l.length≤8
 each:∀ x∈l,X1p f x=0
theorem X6D (f:ZJ):∀ (l:List Zm) (i:Nat),(XU f i l).2=0→∀ x∈l,X1p f x=0
 | [],_,_,m,hm=>by cases hm
 | x::l,i,h,m,hm=>by
  simp only [XU] at h
  by_cases h0:X1p f x=0
  ·simp only [h0,if_true] at h
   rcases List.mem_cons.1 hm with e|e
   ·subst e;exact h0
   ·exact X6D f l _ h m e
  ·simp only [h0,if_false] at h
theorem X6m (f:ZJ):∀ (l:List Zm) (i:Nat),(∀ x∈l,X1p f x=0)→(XU f i l).2=0
 | [],_,_=>rfl
 | x::l,i,h=>by
  simp only [XU,h x (by simp),if_true]
  exact X6m f l _ fun y hy=>h y (by simp [hy])
theorem X50 {f:ZJ} {l:List Zm} (h:(W6 f l).2=0):X6x f l:=by
 unfold W6 at h
 by_cases h1:(X1s f).2.2=0
 ·simp only [h1,ne_eq,not_true,if_false] at h
  by_cases h8:8<l.length
  ·rw [if_pos h8] at h;simp at h
  ·rw [if_neg h8] at h
   exact ⟨X5y h1,by omega,X6D f l 0 h⟩
 ·rw [if_pos h1] at h;exact absurd h h1
theorem X79 {f:ZJ} {l:List Zm} (h1:(X1s f).2.2=0) (h2:l.length≤8) (h3:∀ x∈l,X1p f x=0):(W6 f l).2=0:=by
 unfold W6
 rw [if_neg (by simp [h1]),if_neg (by omega)]
 exact X6m f l 0 h3

theorem X6L {f:ZJ} {l:List Zm} (hg:X6x f l) {kit:Nat→Nat} (hk:Kit f kit) (x:Int) (hx : -8≤x∧x≤8) {m:List (Zh×Int)} (hm:XT f m) (acc:List Zu) (ha:acc.length≤1000000) {γ:Type} (k:_→Option γ) (Q:Option γ→Prop)
  (hQ:∀ m',XT f m'→Q (k (f,l,kit,m',acc++(X2s f x (-f.Half) (X16 f)).filter fun p=>(atN f l p 0 0).2))) :
  Q (Option.bind (XG x (-f.Half,f,l,kit,m,acc)) k):=by
 have hh:=hg.fix.half
 have hs:=hg.fix.step
 have hw0:(X16 f:Int)=2*f.Half+1:=by unfold X16;omega
 refine (X5b (X7 x) k (X16 f) (fun i (b:List (Zh×Int)×List Zu)=>(-f.Half+i,f,l,kit,b.1,b.2)) (fun i b=>XT f b.1∧b.2.length≤1000000+i∧b.2++((X2s f x (-f.Half+i) (X16 f-i)).filter fun p=>(atN f l p 0 0).2)=acc++(X2s f x (-f.Half) (X16 f)).filter fun p=>(atN f l p 0 0).2) (fun _ _ r=>Q r) ?_ ?_ 0 (m,acc) (by omega) ⟨hm,by simpa using ha,by simp⟩) |> fun h=>by simpa [XG] using h
 ·intro b hb R
  have e1:decide (-f.Half+(X16 f:Int)≤f.Half)=false:=by simp;omega
  simp only [X7,Xb,e1,cond_false,Option.bind_some,Sum.elim_inr]
  have h3:=hb.2.2
  simp only [Nat.sub_self,X2s,List.filter_nil,List.append_nil] at h3
  rw [h3]
  exact hQ _ hb.1
 ·intro i b hi hb R hR
  obtain ⟨hb1,hb2,hb3⟩:=hb
  have e1:decide (-f.Half+(i:Int)≤f.Half)=true:=by simp;omega
  have hw:IntKind.wrap .i64 (-f.Half+(i:Int)+1) = -f.Half+((i+1:Nat):Int):=by rw [w64]<;>omega
  have m1:=X5E (a:=x) (b:=f.Step) 8 500 (by omega) (by omega) (by omega) (by omega)
  have m2:=X5E (a := -f.Half+(i:Int)) (b:=f.Step) 8 500 (by omega) (by omega) (by omega) (by omega)
  simp only [X7,Xb,e1,cond_true]
  rw [w64 (x:=x*f.Step) (by omega) (by omega),w64 (x:=(-f.Half+(i:Int))*f.Step) (by omega) (by omega),hw]
  obtain ⟨m',hm',hc⟩:=X7D hg.fix hg.each hg.len hk hb1 ⟨x*f.Step,(-f.Half+(i:Int))*f.Step⟩ 0 0
  rw [hc]
  simp only [Option.bind_some]
  have hrow:X2s f x (-f.Half+(i:Int)) (X16 f-i)=⟨x*f.Step,(-f.Half+(i:Int))*f.Step⟩::X2s f x (-f.Half+((i+1:Nat):Int)) (X16 f-(i+1)):=by
   rw [show X16 f-i=(X16 f-(i+1))+1 by omega,X2s,show -f.Half+(i:Int)+1 = -f.Half+((i+1:Nat):Int) by push_cast;omega]
  rw [hrow] at hb3
  cases hat:(atN f l ⟨x*f.Step,(-f.Half+(i:Int))*f.Step⟩ 0 0).2
  ·simp only [cond_false,Option.bind_some,Sum.elim_inl]
   refine hR (m',b.2) ⟨hm',by simp only;omega,?_⟩
   rw [List.filter_cons_of_neg (by simp [hat])] at hb3
   exact hb3
  ·have e3:Nat.ble ((b.2.length+[(⟨x*f.Step,(-f.Half+(i:Int))*f.Step⟩:Zu)].length)*(16+1)) 200000000000000=true:=by
    apply Nat.ble_eq_true_of_le;simp only [List.length_cons,List.length_nil];have:=hh.2;omega
   simp only [cond_true,e3,Option.bind_some,Sum.elim_inl]
   refine hR (m',b.2++[⟨x*f.Step,(-f.Half+(i:Int))*f.Step⟩]) ⟨hm',by simp;omega,?_⟩
   rw [List.filter_cons_of_pos (by simp [hat])] at hb3
   rw [←hb3]
   simp

theorem X6K {f:ZJ} {l:List Zm} (hg:X6x f l) {kit:Nat→Nat} (hk:Kit f kit) {m:List (Zh×Int)} (hm:XT f m) {γ:Type} (k:_→Option γ) (Q:Option γ→Prop)
  (hQ:∀ m',XT f m'→Q (k (X5 f l,f,l,kit,m'))) :
  Q (Option.bind (XF (-f.Half,[],f,l,kit,m)) k):=by
 have hh:=hg.fix.half
 have hw0:(X16 f:Int)=2*f.Half+1:=by unfold X16;omega
 refine (X5b X6 k (X16 f) (fun i (b:List (Zh×Int)×List Zu)=>(-f.Half+i,b.2,f,l,kit,b.1)) (fun i b=>XT f b.1∧b.2.length≤i*100∧b.2++((X3h f (-f.Half+i) (X16 f-i)).filter fun p=>(atN f l p 0 0).2)=X5 f l) (fun _ _ r=>Q r) ?_ ?_ 0 (m,[]) (by omega) ⟨hm,by simp,by simp [X5,X6Y]⟩) |> fun h=>by simpa [XF] using h
 ·intro b hb R
  have e1:decide (-f.Half+(X16 f:Int)≤f.Half)=false:=by simp;omega
  simp only [X6,Xa,e1,cond_false,Option.bind_some,Sum.elim_inr]
  have h3:=hb.2.2
  simp only [Nat.sub_self,X3h,List.filter_nil,List.append_nil] at h3
  rw [h3]
  exact hQ _ hb.1
 ·intro i b hi hb R hR
  obtain ⟨hb1,hb2,hb3⟩:=hb
  have e1:decide (-f.Half+(i:Int)≤f.Half)=true:=by simp;omega
  have hw:IntKind.wrap .i64 (-f.Half+(i:Int)+1) = -f.Half+((i+1:Nat):Int):=by rw [w64]<;>omega
  have hw2:IntKind.wrap .i64 (0-f.Half) = -f.Half:=by rw [w64]<;>omega
  have hwl:X16 f≤17:=by omega
  simp only [X6,Xa,e1,cond_true,hw,hw2]
  rw [Option.bind_assoc]
  refine X6L hg hk _ (by omega) hb1 b.2 (by omega) _ Q fun m' hm' => ?_
  simp only [Option.bind_some,Sum.elim_inl]
  refine hR (m',_) ⟨hm',?_,?_⟩
  ·have:=List.length_filter_le (fun p=>(atN f l p 0 0).2) (X2s f (-f.Half+(i:Int)) (-f.Half) (X16 f))
   rw [X57] at this
   simp only [List.length_append]
   omega
  ·rw [←hb3,show X16 f-i=(X16 f-(i+1))+1 by omega,X3h,show -f.Half+(i:Int)+1 = -f.Half+((i+1:Nat):Int) by push_cast;omega]
   simp

theorem X6b {f:ZJ} {l:List Zm} (hg:X6x f l) {kit:Nat→Nat} (hk:Kit f kit) {m:List (Zh×Int)} (hm:XT f m):∃ m',XT f m'∧XP (f,l,kit,m)=some (f,l,kit,m',X5 f l):=by
 rw [X2M];unfold Xx
 have hh:=hg.fix.half
 have hw2:IntKind.wrap .i64 (0-f.Half) = -f.Half:=by rw [w64]<;>omega
 simp only [hw2]
 exact X6K hg hk hm _ (fun r=>∃ m',XT f m'∧r=some (f,l,kit,m',X5 f l)) fun m' hm'=>⟨m',hm',rfl⟩

theorem X4U (f:ZJ) (l:List Zm):X3E f l=some (if (W6 f l).2=0 then (X5 f l,0) else ([],(W6 f l).2)):=by
 rw [X5h];unfold X27
 rcases X6z f l with ⟨_,he,h0⟩|⟨kit,hg,h8,hk,he⟩
 ·rw [he]
  simp [h0,WS h0]
 ·rw [he]
  simp only [Option.bind_some,Sum.elim_inr]
  by_cases h0:(W6 f l).2=0
  ·obtain ⟨m',_,hp⟩:=X6b (X50 h0) hk (X60 f)
   simp only [h0,bne_self_eq_false,cond_false,if_true,hp,Option.bind_some]
  ·simp [h0,WS h0]

theorem X7k {f:ZJ} (hg:X21 f) (l:List Zm):(X5 f l).length≤289:=by
 have hh:=hg.half
 have hw0:(X16 f:Int)=2*f.Half+1:=by unfold X16;omega
 have hw1:X16 f≤17:=by omega
 have:∀ (n:Nat) (x:Int),(X3h f x n).length=n*X16 f:=fun n=>by
  induction n with
  | zero=>intro x;simp [X3h]
  | succ n ih=>intro x;simp only [X3h,List.length_append,X57,ih,Nat.succ_mul];omega
 have h2:=List.length_filter_le (fun p=>(atN f l p 0 0).2) (X6Y f)
 have h3:(X6Y f).length=X16 f*X16 f:=this _ _
 have h4:X16 f*X16 f≤17*17:=Nat.mul_le_mul hw1 hw1
 unfold X5
 omega

end Nore
open Go Go.Ab
namespace Nore

def inS (v:Int) (s:ZE):Prop:=s.Lo≤v∧v≤s.Hi
def X6q (f:ZJ) (p:Zu) (ib mb:Int) (s:Nat→ZE) (l:List Zm) (i:Nat) (v:Int):Prop :=
 inS v (s i)∧∀ x∈l,X37 f ib mb x=false→x.Instrument.toNat=i→(X2n f p x).2=true∧inS v (X2n f p x).1

theorem X64 (n a:ZE) (v:Int):inS v (X4s n a)↔inS v n∧inS v a:=by
 unfold inS X4s
 constructor
 ·rintro ⟨h1,h2⟩
  simp only at h1 h2
  split at h1<;>split at h2<;>omega
 ·rintro ⟨h1,h2⟩
  simp only
  constructor<;>split<;>omega

theorem X5a {f:ZJ} {p:Zu} {ib mb:Int} {s:Nat→ZE} {x:Zm} {l:List Zm} {i:Nat} {v:Int} :
  X6q f p ib mb s (x::l) i v↔X6q f p ib mb s l i v∧(X37 f ib mb x=false→x.Instrument.toNat=i→(X2n f p x).2=true∧inS v (X2n f p x).1):=by
 unfold X6q
 constructor
 ·rintro ⟨h1,h2⟩
  exact ⟨⟨h1,fun y hy=>h2 y (by simp [hy])⟩,h2 x (by simp)⟩
 ·rintro ⟨⟨h1,h2⟩,h3⟩
  refine ⟨h1,fun y hy => ?_⟩
  rcases List.mem_cons.1 hy with e|e
  ·subst e;exact h3
  ·exact h2 y e

theorem X4Q (f:ZJ) (p:Zu) (ib mb:Int):∀ (l:List Zm) (s:Nat→ZE),(∀ i,(s i).Lo≤(s i).Hi) →
  ((atL f p ib mb s l).2=true→(∀ i,((atL f p ib mb s l).1 i).Lo≤((atL f p ib mb s l).1 i).Hi)∧∀ i v,inS v ((atL f p ib mb s l).1 i)↔X6q f p ib mb s l i v) ∧
  ((atL f p ib mb s l).2=false→∃ x∈l,X37 f ib mb x=false∧∀ v,¬ X6q f p ib mb s l x.Instrument.toNat v)
 | [],s,hs=>by
  simp only [atL]
  exact ⟨fun _=>⟨hs,fun i v=>by simp [X6q]⟩,fun h=>by cases h⟩
 | x::l,s,hs=>by
  simp only [atL]
  by_cases hk:X37 f ib mb x=true
  ·rw [if_pos hk]
   obtain ⟨h1,h2⟩:=X4Q f p ib mb l s hs
   refine ⟨fun h=>⟨(h1 h).1,fun i v => ?_⟩,fun h => ?_⟩
   ·rw [(h1 h).2 i v,X5a]
    simp [hk]
   ·obtain ⟨y,hy,hy2,hy3⟩:=h2 h
    refine ⟨y,by simp [hy],hy2,fun v hv=>hy3 v ?_⟩
    exact (X5a.1 hv).1
  ·rw [if_neg hk]
   have hk':X37 f ib mb x=false:=by simpa using hk
   by_cases hc:(X2n f p x).2=false∨(X4s (X2n f p x).1 (s x.Instrument.toNat)).Lo>(X4s (X2n f p x).1 (s x.Instrument.toNat)).Hi
   ·rw [if_pos hc]
    refine ⟨fun h=>(by cases h),fun _=>⟨x,by simp,hk',fun v hv => ?_⟩⟩
    obtain ⟨h1,h2⟩:=X5a.1 hv
    obtain ⟨h3,h4⟩:=h2 hk' rfl
    rcases hc with hc|hc
    ·rw [hc] at h3;cases h3
    ·have:=(X64 (X2n f p x).1 (s x.Instrument.toNat) v).2 ⟨h4,h1.1⟩
     unfold inS at this;omega
   ·rw [if_neg hc]
    have hc1:(X2n f p x).2=true:=by
     cases h:(X2n f p x).2
     ·exact absurd (.inl h) hc
     ·rfl
    have hc2:(X4s (X2n f p x).1 (s x.Instrument.toNat)).Lo≤(X4s (X2n f p x).1 (s x.Instrument.toNat)).Hi:=Int.not_lt.1 fun q=>hc (.inr q)
    obtain ⟨h1,h2⟩:=X4Q f p ib mb l (fun j=>if j=x.Instrument.toNat then X4s (X2n f p x).1 (s x.Instrument.toNat) else s j) (fun i=>by
     by_cases e:i=x.Instrument.toNat
     ·simp only [e,if_true];exact hc2
     ·simp only [e,if_false];exact hs i)
    have key:∀ i v,X6q f p ib mb (fun j=>if j=x.Instrument.toNat then X4s (X2n f p x).1 (s x.Instrument.toNat) else s j) l i v↔X6q f p ib mb s (x::l) i v:=fun i v=>by
     rw [X5a]
     unfold X6q
     by_cases e:i=x.Instrument.toNat
     ·subst e
      simp only [if_true,X64,hk',hc1,true_and,forall_const]
      constructor
      ·rintro ⟨⟨a,b⟩,c⟩;exact ⟨⟨b,c⟩,a⟩
      ·rintro ⟨⟨b,c⟩,a⟩;exact ⟨⟨a,b⟩,c⟩
     ·simp only [e,if_false,hk',forall_const]
      constructor
      ·rintro ⟨a,b⟩;exact ⟨⟨a,b⟩,fun q=>absurd q.symm e⟩
      ·rintro ⟨⟨a,b⟩,_⟩;exact ⟨a,b⟩
    refine ⟨fun h=>⟨(h1 h).1,fun i v=>((h1 h).2 i v).trans (key i v)⟩,fun h => ?_⟩
    obtain ⟨y,hy,hy2,hy3⟩:=h2 h
    exact ⟨y,by simp [hy],hy2,fun v hv=>hy3 v ((key _ v).2 hv)⟩

theorem X69 {f:ZJ} (hg:X21 f) (i:Nat):(X36 f i).Lo≤(X36 f i).Hi:=by
 unfold X36
 split
 ·rename_i h
  exact (hg.off _ (List.getElem_mem h)).2.1
 ·simp

def Num (f:ZJ) (l:List Zm) (p:Zu) (ib mb:Int) (i:Nat) (v:Int):Prop:=X6q f p ib mb (X36 f) l i v

theorem X77 {f:ZJ} (hg:X21 f) (l:List Zm) (p:Zu) (ib mb:Int):(atN f l p ib mb).2=true↔∀ i,∃ v,Num f l p ib mb i v:=by
 obtain ⟨h1,h2⟩:=X4Q f p ib mb l (X36 f) (X69 hg)
 unfold atN
 constructor
 ·intro h i
  obtain ⟨h3,h4⟩:=h1 h
  exact ⟨_,(h4 i ((atL f p ib mb (X36 f) l).1 i).Lo).1 ⟨Int.le_refl _,h3 i⟩⟩
 ·intro h
  cases hb:(atL f p ib mb (X36 f) l).2
  ·obtain ⟨x,_,_,h3⟩:=h2 hb
   obtain ⟨v,hv⟩:=h x.Instrument.toNat
   exact absurd hv (h3 v)
  ·rfl
theorem X6E {f:ZJ} (hg:X21 f) {l:List Zm} {p:Zu} {ib mb:Int} (h:(atN f l p ib mb).2=true) (i:Nat):((atN f l p ib mb).1 i).Lo≤((atN f l p ib mb).1 i).Hi∧∀ v,inS v ((atN f l p ib mb).1 i)↔Num f l p ib mb i v :=
 ⟨((X4Q f p ib mb l (X36 f) (X69 hg)).1 h).1 i,((X4Q f p ib mb l (X36 f) (X69 hg)).1 h).2 i⟩

theorem X7o {f:ZJ} {l l':List Zm} (h:∀ x∈l,x∈l') {p:Zu} {ib mb:Int} {i:Nat} {v:Int} (hv:Num f l' p ib mb i v):Num f l p ib mb i v:=⟨hv.1,fun x hx=>hv.2 x (h x hx)⟩
theorem X7Q {f:ZJ} (hg:X21 f) {l l':List Zm} (h:∀ x∈l,x∈l') {p:Zu} {ib mb:Int} (hv:(atN f l' p ib mb).2=true):(atN f l p ib mb).2=true:=by
 rw [X77 hg] at hv ⊢
 intro i
 obtain ⟨v,hv⟩:=hv i
 exact ⟨v,X7o h hv⟩
theorem X7i {f:ZJ} {l:List Zm} {p:Zu}:p∈X5 f l↔p∈X6Y f∧(atN f l p 0 0).2=true:=by
 unfold X5;rw [List.mem_filter]
theorem X68 (f:ZJ) (l:List Zm):X4x f l=some (decide ((W6 f l).2=0)):=by
 rw [X5j];unfold X2a
 rw [X4P]
 simp only [Option.bind_some]
 by_cases h:(W6 f l).2=0<;>simp [h,X3z]
theorem X6g (l:List Zm) (x:Zm) (hl:l.length≤4400000000000):X4y l x=some (l++[x]):=by
 rw [X5n];unfold X2d
 have e1:Nat.ble ((0+l.length)*(32+1)) 200000000000000=true:=by apply Nat.ble_eq_true_of_le;omega
 have e2:Nat.ble ((([]++l).length+[x].length)*(32+1)) 200000000000000=true:=by apply Nat.ble_eq_true_of_le;simp;omega
 rw [e1,e2];rfl

end Nore
open Go Go.Ab
namespace Nore

def X7M:Nat→List Nat→List (List Nat)
 | 0,_=>[[]]
 | _+1,[]=>[]
 | n+1,t::l=>(X7M n l).map (t :: ·)++X7M (n+1) l

def X7F (ok:List Nat→Bool) (l:List Nat):Nat→Nat→Option (List Nat)
 | _,0=>none
 | n,k+1=>match (X7M n l).find? ok with
  | some s=>some s
  | none=>X7F ok l (n+1) k

def X4J (f:ZJ):Nat:=f.Chart.Marks.length
def X7T (f:ZJ) (s:List Nat) (x:Zm):Bool := !(s.contains (X4J f+x.Instrument.toNat))&&((We f x.Instrument).Lead || !(s.contains x.Mark.toNat))
def X7U (f:ZJ) (l:List Zm) (s:List Nat):List Zm:=l.filter (X7T f s)
def X7W (f:ZJ) (l:List Zm) (t:Nat):Bool:=l.any fun x=>decide (X4J f+x.Instrument.toNat=t)||(!(We f x.Instrument).Lead&&decide (x.Mark.toNat=t))
def X7N (f:ZJ) (l:List Zm):List Nat:=(List.range (X4J f+f.Instruments.length)).filter (X7W f l)
def okW (f:ZJ) (l:List Zm) (s:List Nat):Bool := !(X5 f (X7U f l s)).isEmpty
structure X7X (f:ZJ) (l:List Zm) (s:List Nat):Prop where
 ok:okW f l s=true
 sub:s.Sublist (X7N f l)
 least:∀ r,r.Sublist (X7N f l)→okW f l r=true→s.length≤r.length
 first:X7F (okW f l) (X7N f l) 0 (f.Instruments.length+1)=some s
end Nore
open Go Go.Ab
namespace Nore

theorem X7A (f:ZJ) (x:Zm):X37 f 0 0 x=false:=by unfold X37;simp [X7t]
end Nore
open Go Go.Ab
namespace Nore

end Nore
open Go Go.Ab
namespace Nore

abbrev PSt:=Int×Bool×ZJ×List Zm×(Nat→Nat)×Int×List (Zh×Int)
end Nore
open Go Go.Ab
namespace Nore

theorem X3U {β σ ω:Type} (st:σ→Option (σ⊕ω)) (n:Nat) (emb:Nat→β→σ) (P:Nat→β→Prop) (Q:ω→Prop)
  (hd:∀ b,P n b→∃ w,st (emb n b)=some (.inr w)∧Q w)
  (hn:∀ i b,i<n→P i b→(∃ w,st (emb i b)=some (.inr w)∧Q w)∨∃ b',st (emb i b)=some (.inl (emb (i+1) b'))∧P (i+1) b') :
  ∀ i b,i≤n→P i b→∃ w,Z8S st (emb i b)=some w∧Q w:=by
 intro i b hi hP
 induction hj:n-i generalizing i b with
 | zero =>
  have:i=n:=by omega
  subst this
  obtain ⟨w,h1,h2⟩:=hd b hP
  exact ⟨w,by rw [ZgX,h1];rfl,h2⟩
 | succ j ih =>
  rcases hn i b (by omega) hP with ⟨w,h1,h2⟩|⟨b',h1,h2⟩
  ·exact ⟨w,by rw [ZgX,h1];rfl,h2⟩
  ·obtain ⟨w,h3,h4⟩:=ih (i+1) b' (by omega) h2 (by omega)
   exact ⟨w,by rw [ZgX,h1];exact h3,h4⟩
theorem X7V {n:Int} (h:(Lit.int .u8 n).wf=true):0≤n∧n≤255:=by
 simp [Lit.wf,IntKind.has,IntKind.min,IntKind.max,IntKind.signed,IntKind.bits] at h
 omega

end Nore
open Go Go.Ab
namespace Nore

end Nore
open Go Go.Ab
namespace Nore

end Nore
open Go Go.Ab Go.Proofs.Ytehofdemanfenaa
namespace Nore

end Nore
open Go Go.Ab Go.Proofs.Ytehofdemanfenaa
namespace Nore

end Nore
open Go Go.Ab
namespace Nore

end Nore
open Go Go.Ab
namespace Nore

end Nore
open Go Go.Ab
namespace Nore

def X4O (a b:Int):Int:=if b>a then b else a
def X7h (l:List Int):Int:=l.foldl X4O 0
theorem X6A:∀ (l:List Int) (a:Int),a≤l.foldl X4O a∧(∀ x∈l,x≤l.foldl X4O a)∧(l.foldl X4O a=a∨l.foldl X4O a∈l)
 | [],a=>⟨Int.le_refl _,by simp,.inl rfl⟩
 | x::l,a=>by
  obtain ⟨h1,h2,h3⟩:=X6A l (X4O a x)
  have hm:a≤X4O a x∧x≤X4O a x∧(X4O a x=a∨X4O a x=x):=by unfold X4O;split<;>omega
  simp only [List.foldl_cons]
  refine ⟨by omega,fun y hy => ?_,?_⟩
  ·rcases List.mem_cons.1 hy with e|e
   ·subst e;omega
   ·exact h2 y e
  ·rcases h3 with h|h
   ·rcases hm.2.2 with g|g
    ·exact .inl (h.trans g)
    ·exact .inr (by rw [h,g];simp)
   ·exact .inr (by simp [h])

theorem X7P (x:Int) (l:List Int) (hx:0≤x) (hl:l.length<1000):X14 (x::l)=some (X7h (x::l)):=by
 rw [X38];unfold XO
 have e1:decide (((x::l).length:Int)<1)=false:=by simp only [List.length_cons];simp;omega
 have e2:decide ((0:Int)≤0)=true:=by simp
 have e3:decide ((0:Int)<((x::l).length:Int))=true:=by simp only [List.length_cons];simp
 simp only [e1,e3,cond_false,Int.le_refl,Nat.le_refl,decide_true,Bool.and_self,cond_true]
 obtain ⟨w,h1,h2⟩:=X3U (X9 (x::l)) l.length (fun i (b:Int)=>(b,((i+1:Nat):Int))) (fun i b=>(l.drop i).foldl X4O b=X7h (x::l)) (fun w=>w=X7h (x::l))
  (fun b hb=>⟨b,by simp [X9,Xg],by simpa using hb⟩)
  (fun i b hi hb=>by
   right
   have hi':i+1<(x::l).length:=by simp;omega
   have hw:IntKind.wrap .i64 (((i+1:Nat):Int)+1)=((i+1+1:Nat):Int):=by rw [w64]<;>omega
   have e4:decide (((i+1:Nat):Int)<((x::l).length:Int))=true:=by simp only [decide_eq_true_eq];omega
   have e5:decide ((0:Int)≤((i+1:Nat):Int))=true:=by simp only [decide_eq_true_eq];omega
   have hg:(x::l).getD (i+1) 0=l[i]:=by rw [X0 _ _ _ hi'];rfl
   rw [List.drop_eq_getElem_cons hi,List.foldl_cons] at hb
   refine ⟨X4O b l[i],?_,hb⟩
   simp only [X9,Xg,e4,e5,Bool.and_self,cond_true,Int.toNat_natCast,hg,hw]
   unfold X4O
   simp only [Bool.cond_decide]) 0 x (by omega) (by
   unfold X7h
   rw [List.drop_zero,List.foldl_cons]
   congr 1
   unfold X4O;split<;>omega)
 have h1':X18 (x::l) ((x::l).getD (Int.toNat 0) 0,1)=some w:=h1
 rw [h1',h2];rfl

def X4N (f:ZJ) (l:List Zm) (m:Int) (i:Nat) (j:Int) (p:Zu):Bool :=
 decide (0≤X1U f m p)&&decide ((j-X1U f m p-((atN f l p 0 0).1 i).Lo) % 32<((atN f l p 0 0).1 i).Hi-((atN f l p 0 0).1 i).Lo+1)
def W2 (f:ZJ) (l:List Zm) (m:Int) (i:Nat):Int:=X7h ((List.range 32).map fun j:Nat=>(((X5 f l).countP (X4N f l m i j):Nat):Int))

theorem X78 {f:ZJ} (hg:X21 f) {l:List Zm} {p:Zu} (h:(atN f l p 0 0).2=true) {i:Nat} (hi:i<f.Instruments.length) (hL:f.Instruments[i].Lead=false) : -4≤((atN f l p 0 0).1 i).Lo∧((atN f l p 0 0).1 i).Lo≤((atN f l p 0 0).1 i).Hi∧((atN f l p 0 0).1 i).Hi≤4:=by
 obtain ⟨h1,h2⟩:=X6E hg h i
 have a1:=((h2 ((atN f l p 0 0).1 i).Lo).1 ⟨Int.le_refl _,h1⟩).1
 have a2:=((h2 ((atN f l p 0 0).1 i).Hi).1 ⟨h1,Int.le_refl _⟩).1
 unfold X36 at a1 a2
 rw [dif_pos hi] at a1 a2
 have ho:=hg.off _ (List.getElem_mem hi)
 have hf:X4M f.Instruments[i]=4:=by unfold X4M;rw [hL];rfl
 unfold inS at a1 a2
 omega

theorem X7g {f:ZJ} (x0:Int) (hx0:0≤x0∧x0<4) (n:Nat) (hn:n≤9) (x2:Int) (x3:List Zu) (x5 x6 Z5R:Int) (x9:ZJ) (x10:List Zm) (x11:Nat→Nat) (x12:List (Zh×Int)) (s:Nat→ZE) (x14:Zu) (hs:0≤Z5R∧Z5R≤31) (hlo : -4≤(s x0.toNat).Lo∧(s x0.toNat).Lo≤4) (c:Nat→Int) (hc:∀ j,j<32→0≤c j∧c j≤1000) :
  ∃ c',X1n x0 (n:Int) x2 x3 x5 x6 Z5R x9 x10 x11 x12 s x14 (0,c)=some c'∧∀ j:Nat,j<32→c' j=c j+if ((j:Int)-Z5R-(s x0.toNat).Lo) % 32<n then 1 else 0:=by
 have i1:decide (0≤x0)=true:=by simp;omega
 have i2:decide (x0<((4:Nat):Int))=true:=by simp;omega
 have i2':decide (x0<(4:Int))=true:=by simp;omega
 have i3:Nat.blt x0.toNat 4=true:=by rw [Tr.blt_dec];simp;omega
 have main:=X3U (Xd x0 (n:Int) x2 x3 x5 x6 Z5R x9 x10 x11 x12 s x14) n (fun k (b:Nat→Int)=>((k:Int),b)) (fun k b=>∀ j:Nat,j<32→b j=c j+if ((j:Int)-Z5R-(s x0.toNat).Lo) % 32<k then 1 else 0) (fun w=>∀ j:Nat,j<32→w j=c j+if ((j:Int)-Z5R-(s x0.toNat).Lo) % 32<n then 1 else 0)
  (fun b hb=>⟨b,by simp [Xd,Xl],hb⟩)
  (fun k b hk hb=>by
   right
   have e1:decide ((k:Int)<(n:Int))=true:=by simp [hk]
   have hw:IntKind.wrap .i64 ((k:Int)+1)=((k+1:Nat):Int):=by rw [w64]<;>omega
   have w1:IntKind.wrap .i64 (Z5R+(s x0.toNat).Lo)=Z5R+(s x0.toNat).Lo:=by rw [w64]<;>omega
   have w2:IntKind.wrap .i64 (Z5R+(s x0.toNat).Lo+(k:Int))=Z5R+(s x0.toNat).Lo+(k:Int):=by rw [w64]<;>omega
   have w3:IntKind.wrap .i64 (Z5R+(s x0.toNat).Lo+(k:Int)+32)=Z5R+(s x0.toNat).Lo+(k:Int)+32:=by rw [w64]<;>omega
   have hm:Int.tmod (Z5R+(s x0.toNat).Lo+(k:Int)+32) 32=(Z5R+(s x0.toNat).Lo+(k:Int)+32) % 32:=Int.tmod_eq_emod_of_nonneg (by omega)
   obtain ⟨t,ht⟩:∃ t:Nat,(Z5R+(s x0.toNat).Lo+(k:Int)+32) % 32=(t:Int):=⟨((Z5R+(s x0.toNat).Lo+(k:Int)+32) % 32).toNat,by omega⟩
   have htl:t<32:=by omega
   have e2:decide ((0:Int)≤(t:Int))=true:=by simp
   have e3:decide ((t:Int)<((32:Nat):Int))=true:=by simp;omega
   have e3':decide ((t:Int)<(32:Int))=true:=by simp;omega
   have e4:Nat.blt t 32=true:=by rw [Tr.blt_dec];simpa using htl
   have hbt:=hb t htl
   have hct:=hc t htl
   have w4:IntKind.wrap .i64 (b t+1)=b t+1:=by rw [w64]<;>split at hbt<;>omega
   simp only [Xd,Xl,e1,i1,i2,i2',i3,hw,w1,w2,w3,hm,ht,e2,e3,e3',e4,Int.toNat_natCast,w4,Bool.and_self,cond_true]
   refine ⟨_,rfl,fun j hj => ?_⟩
   rw [Tr.beq_dec]
   by_cases c1:j=t
   ·subst c1
    simp only [decide_true,cond_true]
    rw [hbt,if_neg (by omega),if_pos (by omega)]
    omega
   ·simp only [c1,decide_false,cond_false]
    rw [hb j hj]
    by_cases c2:((j:Int)-Z5R-(s x0.toNat).Lo) % 32<k
    ·rw [if_pos c2,if_pos (by omega)]
    ·rw [if_neg c2,if_neg (by omega)]) 0 c (by omega) (fun j hj=>by rw [if_neg (by omega)];omega)
 exact main

theorem X7I {f:ZJ} {l:List Zm} (hg:X6x f l) {kit:Nat→Nat} (hk:Kit f kit) {m:List (Zh×Int)} (hm:XT f m) (mark:Int) (h0:0≤mark) (h1:mark<f.Chart.Marks.length) (i:Nat) (hi:i<f.Instruments.length) (hL:f.Instruments[i].Lead=false) :
  ∃ m',XT f m'∧X1i ((i:Int),X5 f l,mark,f,l,kit,m)=some (W2 f l mark i,f,l,kit,m'):=by
 rw [X3f];unfold XV
 have hI:=hg.fix.inst
 have hpl:=X7k hg.fix l
 obtain ⟨all,hall⟩:∃ all,X5 f l=all:=⟨_,rfl⟩
 have hmem:∀ p∈all,(atN f l p 0 0).2=true:=fun p hp=>by rw [←hall] at hp;exact (X7i.1 hp).2
 unfold W2
 simp only [hall] at hpl ⊢
 have main:=X5b (Xc (i:Int) (↑all.length) all mark) (fun o413=>Option.bind (X14 (List.drop 0 (List.take 32 (List.map o413.fst (List.range 32))))) fun r414↦some (r414,o413.snd.fst,o413.snd.snd.fst,o413.snd.snd.snd.fst,o413.snd.snd.snd.snd)) all.length
  (fun q (b:(Nat→Int)×List (Zh×Int))=>((q:Int),b.1,f,l,kit,b.2)) (fun q b=>XT f b.2∧∀ j:Nat,j<32→b.1 j=(((all.take q).countP (X4N f l mark i j):Nat):Int)) (fun _ _ r=>∃ m',XT f m'∧r=some (X7h ((List.range 32).map fun j:Nat=>((all.countP (X4N f l mark i j):Nat):Int)),f,l,kit,m'))
  (by
   intro b hb R
   refine ⟨b.2,hb.1,?_⟩
   have e:decide ((all.length:Int)<↑all.length)=false:=by simp
   simp only [Xc,Xk,e,cond_false,Option.bind_some,Sum.elim_inr]
   have hl:List.drop 0 (List.take 32 (List.map b.1 (List.range 32)))=(List.range 32).map fun j:Nat=>((all.countP (X4N f l mark i j):Nat):Int):=by
    rw [List.drop_zero,List.take_of_length_le (by simp)]
    apply List.map_congr_left
    intro j hj
    rw [hb.2 j (List.mem_range.1 hj),List.take_length]
   rw [hl]
   obtain ⟨x,r,hxr,hx0,hrl⟩:∃ x r,((List.range 32).map fun j:Nat=>((all.countP (X4N f l mark i j):Nat):Int))=x::r∧0≤x∧r.length<1000:=by
    refine ⟨((all.countP (X4N f l mark i 0):Nat):Int),((List.range 31).map fun j:Nat=>((all.countP (X4N f l mark i ((j+1:Nat):Int)):Nat):Int)),?_,by omega,by simp⟩
    rw [show (32:Nat)=31+1 from rfl,List.range_succ_eq_map,List.map_cons,List.map_map]
    rfl
   rw [hxr,X7P x r hx0 hrl]
   rfl)
  (by
   intro q b hq hb R hR
   obtain ⟨hb1,hb2⟩:=hb
   have hw:IntKind.wrap .i64 ((q:Int)+1)=((q+1:Nat):Int):=by rw [w64]<;>omega
   have e1:decide ((q:Int)<↑all.length)=true:=by simp [hq]
   have e2:decide ((0:Int)≤↑q)=true:=by simp
   have hp:=hmem _ (List.getElem_mem hq)
   obtain ⟨p,hpd⟩:∃ p,all[q]=p:=⟨_,rfl⟩
   rw [hpd] at hp
   have hgd:all.getD q ⟨0,0⟩=p:=(X0 _ _ _ hq).trans hpd
   obtain ⟨m1,hm1,hat⟩:=X7D hg.fix hg.each hg.len hk hb1 p 0 0
   obtain ⟨m2,hm2,hto⟩:=X6o hg.fix h0 h1 p l kit hm1
   have hsb:=X6N hg.fix h0 h1 p
   simp only [Xc,Xk,e1,e2,Bool.and_self,cond_true,Int.toNat_natCast,hgd,hw,hat,Option.bind_some,hto]
   have htk:all.take (q+1)=all.take q++[p]:=by rw [List.take_succ_eq_append_getElem hq,hpd]
   by_cases cs:X1U f mark p<0
   ·have e3:decide (X1U f mark p<0)=true:=by simpa using cs
    simp only [e3,cond_true,Option.bind_some,Sum.elim_inl]
    refine hR (b.1,m2) ⟨hm2,fun j hj => ?_⟩
    have hh:X4N f l mark i j p=false:=by unfold X4N;simp;omega
    rw [htk,List.countP_append,hb2 j hj,List.countP_cons]
    simp [hh]
   ·have e3:decide (X1U f mark p<0)=false:=by simpa using cs
    have i1:decide ((0:Int)≤(i:Int))=true:=by simp
    have i2:decide ((i:Int)<((4:Nat):Int))=true:=by simp;omega
    have i2':decide ((i:Int)<(4:Int))=true:=by simp;omega
    have i3:Nat.blt i 4=true:=by rw [Tr.blt_dec];simp;omega
    have ho:=X78 hg.fix hp hi hL
    obtain ⟨n,hn⟩:∃ n:Nat,((atN f l p 0 0).1 i).Hi-((atN f l p 0 0).1 i).Lo+1=(n:Int):=⟨(((atN f l p 0 0).1 i).Hi-((atN f l p 0 0).1 i).Lo+1).toNat,by omega⟩
    have hwn:IntKind.wrap .i64 (IntKind.wrap .i64 (((atN f l p 0 0).1 i).Hi-((atN f l p 0 0).1 i).Lo)+1)=(n:Int):=by
     rw [w64 (x:=((atN f l p 0 0).1 i).Hi-((atN f l p 0 0).1 i).Lo) (by omega) (by omega),hn,w64]<;>omega
    simp only [e3,cond_false,i1,i2,i2',i3,Bool.and_self,cond_true,hwn]
    obtain ⟨c',hc1,hc2⟩:=X7g (f:=f) (i:Int) (by omega) n (by omega) (↑all.length) all mark (q:Int) (X1U f mark p) f l kit m2 (atN f l p 0 0).1 p (by omega) (by rw [Int.toNat_natCast];omega) b.1 (fun j hj=>by
     rw [hb2 j hj]
     have:=List.countP_le_length (p:=X4N f l mark i j) (l:=all.take q)
     rw [List.length_take] at this
     omega)
    rw [hc1]
    simp only [Option.bind_some,Sum.elim_inl]
    refine hR (c',m2) ⟨hm2,fun j hj => ?_⟩
    simp only
    rw [hc2 j hj,hb2 j hj,htk,List.countP_append,List.countP_cons,Int.toNat_natCast]
    unfold X4N
    have e4:decide (0≤X1U f mark p)=true:=by simp;omega
    rw [e4,hn]
    by_cases c2:((j:Int)-X1U f mark p-((atN f l p 0 0).1 i).Lo) % 32<n
    ·simp [c2]
    ·simp [c2])
 have h:=main 0 (fun _=>0,m) (by omega) ⟨hm,fun j hj=>by simp⟩
 unfold X1m
 exact h
end Nore
open Go Go.Ab
namespace Nore

structure X76 where
 mark:Int
 inst:Int
 left:Int
 found:Bool
def X2G (f:ZJ) (m i:Nat):Bool := !(We f i).Lead&&W9 f m
def X1E (f:ZJ) (l:List Zm) (b:X76) (c:Nat×Nat):X76 :=
 if X2G f c.1 c.2 then (if !b.found||decide (W2 f l c.1 c.2<b.left) then ⟨c.1,c.2,W2 f l c.1 c.2,true⟩ else b) else b
def X6a (f:ZJ):List (Nat×Nat):=(List.range (X4J f)).flatMap fun m=>(List.range f.Instruments.length).map fun i=>(m,i)
def X2F (f:ZJ) (l:List Zm):X76:=(X6a f).foldl (X1E f l) ⟨0,0,0,false⟩

theorem X7r {f:ZJ} {l:List Zm} (hg:X6x f l) {kit:Nat→Nat} (hk:Kit f kit) (m:Nat) (hm:m<f.Chart.Marks.length) {bk:List (Zh×Int)} (hb:XT f bk) (b:X76) :
  ∃ bk',XT f bk'∧X3D (m:Int) (↑f.Instruments.length) (X5 f l) (b.inst,0,b.mark,b.found,b.left,bk,f,l,kit) =
   some ((((List.range f.Instruments.length).map fun i=>(m,i)).foldl (X1E f l) b).inst,(((List.range f.Instruments.length).map fun i=>(m,i)).foldl (X1E f l) b).mark,(((List.range f.Instruments.length).map fun i=>(m,i)).foldl (X1E f l) b).found,(((List.range f.Instruments.length).map fun i=>(m,i)).foldl (X1E f l) b).left,bk',f,l,kit):=by
 have hI:=hg.fix.inst
 have main:=X3U (X1W (m:Int) (↑f.Instruments.length) (X5 f l)) f.Instruments.length
  (fun i (s:X76×List (Zh×Int))=>(s.1.inst,(i:Int),s.1.mark,s.1.found,s.1.left,s.2,f,l,kit))
  (fun i s=>XT f s.2∧(((List.range f.Instruments.length).drop i).map fun i=>(m,i)).foldl (X1E f l) s.1=((List.range f.Instruments.length).map fun i=>(m,i)).foldl (X1E f l) b)
  (fun w=>∃ bk',XT f bk'∧w=((((List.range f.Instruments.length).map fun i=>(m,i)).foldl (X1E f l) b).inst,(((List.range f.Instruments.length).map fun i=>(m,i)).foldl (X1E f l) b).mark,(((List.range f.Instruments.length).map fun i=>(m,i)).foldl (X1E f l) b).found,(((List.range f.Instruments.length).map fun i=>(m,i)).foldl (X1E f l) b).left,bk',f,l,kit))
  (fun s hs=>by
   obtain ⟨h1,h2⟩:=hs
   rw [List.drop_of_length_le (by simp)] at h2
   simp only [List.map_nil,List.foldl_nil] at h2
   refine ⟨_,?_,s.2,h1,rfl⟩
   rw [←h2]
   simp [X1W,X1O])
  (fun i s hi hs=>by
   right
   obtain ⟨⟨bm,bi,bl,bf⟩,bk0⟩:=s
   obtain ⟨h1,h2⟩:=hs
   simp only at h1 h2
   have hdr:(List.range f.Instruments.length).drop i=i::(List.range f.Instruments.length).drop (i+1):=by
    rw [List.drop_eq_getElem_cons (by simpa using hi)];simp
   rw [hdr,List.map_cons,List.foldl_cons] at h2
   have e1:decide ((i:Int)<↑f.Instruments.length)=true:=by simp [hi]
   have hw:IntKind.wrap .i64 ((i:Int)+1)=((i+1:Nat):Int):=by rw [w64]<;>omega
   have i1:decide ((0:Int)≤(i:Int))=true:=by simp
   have i2:decide ((i:Int)<((4:Nat):Int))=true:=by simp;omega
   have i2':decide ((i:Int)<(4:Int))=true:=by simp;omega
   have i3:Nat.blt i 4=true:=by rw [Tr.blt_dec];simp;omega
   have hkk:=hk _ hi
   have hio:We f (i:Int)=f.Instruments[i]:=X0 _ _ _ hi
   simp only [X1W,X1O,e1,hw,i1,i2,i2',i3,Int.toNat_natCast,Bool.and_self,cond_true]
   cases hL:f.Instruments[i].Lead
   ·rw [hL] at hkk
    simp only [Bool.false_eq_true,if_false] at hkk
    simp only [hkk,show Nat.beq 1 0=false from rfl,show Nat.beq 1 1=true from rfl,cond_false,cond_true]
    rw [X6n hg.fix (m:Int) (by omega) (by omega)]
    simp only [Option.bind_some]
    cases hst:W9 f (m:Int)
    ·have hc:X2G f m i=false:=by unfold X2G;rw [hst,Bool.and_false]
     have hsb:X1E f l ⟨bm,bi,bl,bf⟩ (m,i)=⟨bm,bi,bl,bf⟩:=by unfold X1E;simp only [hc];simp
     rw [hsb] at h2
     exact ⟨(⟨bm,bi,bl,bf⟩,bk0),rfl,h1,h2⟩
    ·have hc:X2G f m i=true:=by unfold X2G;rw [hst,hio,hL];rfl
     obtain ⟨bk',hbk,hle⟩:=X7I hg hk h1 (m:Int) (by omega) (by omega) i hi hL
     simp only [Bool.not_true,cond_false]
     rw [hle]
     simp only [Option.bind_some]
     have hsb:X1E f l ⟨bm,bi,bl,bf⟩ (m,i)=if !bf||decide (W2 f l (m:Int) i<bl) then ⟨m,i,W2 f l m i,true⟩ else ⟨bm,bi,bl,bf⟩:=by
      unfold X1E;simp only [hc,if_true]
     rw [hsb] at h2
     clear hsb hle hdr
     cases bf
     ·simp only [Bool.not_false,cond_true]
      simp only [Bool.not_false,Bool.true_or,if_true] at h2
      exact ⟨(⟨m,i,W2 f l m i,true⟩,bk'),by dsimp only,hbk,h2⟩
     ·simp only [Bool.not_true,cond_false]
      simp only [Bool.not_true,Bool.false_or] at h2
      by_cases c:W2 f l (m:Int) i<bl
      ·simp only [c,decide_true,cond_true]
       simp only [c,decide_true,if_true] at h2
       exact ⟨(⟨m,i,W2 f l m i,true⟩,bk'),by dsimp only,hbk,h2⟩
      ·simp only [c,decide_false,cond_false]
       simp only [c,decide_false,Bool.false_eq_true,if_false] at h2
       exact ⟨(⟨bm,bi,bl,true⟩,bk'),rfl,hbk,h2⟩
   ·rw [hL] at hkk
    simp only [if_true] at hkk
    have hc:X2G f m i=false:=by unfold X2G;rw [hio,hL];rfl
    have hsb:X1E f l ⟨bm,bi,bl,bf⟩ (m,i)=⟨bm,bi,bl,bf⟩:=by unfold X1E;simp only [hc];simp
    rw [hsb] at h2
    simp only [hkk,show Nat.beq 2 0=false from rfl,show Nat.beq 2 1=false from rfl,show Nat.beq 2 (1+1)=true from rfl,cond_false,cond_true]
    exact ⟨(⟨bm,bi,bl,bf⟩,bk0),rfl,h1,h2⟩) 0 (b,bk) (by omega) ⟨hb,by simp⟩
 obtain ⟨w,h1,bk',h2,h3⟩:=main
 exact ⟨bk',h2,by rw [←h3];exact h1⟩

theorem X6X (f:ZJ) (l:List Zm):X5Z f l=some (if (W6 f l).2≠0 then (0,0,0,(W6 f l).2) else if l.length=8 then (0,0,0,3) else if X5 f l=[] then (0,0,0,9) else if (X2F f l).found then ((X2F f l).mark,(X2F f l).inst,(X2F f l).left,0) else (0,0,0,4)):=by
 rw [X65];unfold X3d
 rcases X6z f l with ⟨_,he,h0⟩|⟨kit,hg,h8,hk,he⟩
 ·rw [he]
  simp [h0,WS h0]
 ·rw [he]
  simp only [Option.bind_some,Sum.elim_inr]
  by_cases h0:(W6 f l).2=0
  ·have hs:=X50 h0
   simp only [h0,bne_self_eq_false,cond_false,ne_eq,not_true,if_false]
   by_cases h8':l.length=8
   ·have:((l.length:Int)==8)=true:=by simp;omega
    rw [this];simp [h8']
   ·have e8:((l.length:Int)==8)=false:=X3z (by omega)
    rw [e8,cond_false,if_neg h8']
    obtain ⟨m',hm',hp⟩:=X6b hs hk (X60 f)
    rw [hp]
    simp only [Option.bind_some]
    by_cases hn:X5 f l=[]
    ·rw [hn];simp
    ·have e0:(((X5 f l).length:Int)==0)=false:=X3z (fun h=>hn (List.eq_nil_of_length_eq_zero (by omega)))
     rw [e0,cond_false,if_neg hn]
     have hM:=hg.marks
     have main:=X3U (X1V (↑f.Chart.Marks.length) (X5 f l) f) f.Chart.Marks.length
      (fun i (s:X76×List (Zh×Int))=>((i:Int),s.1.inst,s.1.mark,s.1.found,s.1.left,s.2,f,l,kit))
      (fun i s=>XT f s.2∧((((List.range (X4J f)).drop i).flatMap fun m=>(List.range f.Instruments.length).map fun i=>(m,i))).foldl (X1E f l) s.1=X2F f l)
      (fun w=>∃ bk',w=((X2F f l).inst,(X2F f l).mark,(X2F f l).found,(X2F f l).left,bk',f,l,kit))
      (fun s hs=>by
       obtain ⟨h1,h2⟩:=hs
       rw [List.drop_of_length_le (by simp [X4J])] at h2
       simp only [List.flatMap_nil,List.foldl_nil] at h2
       refine ⟨_,?_,s.2,rfl⟩
       rw [←h2]
       simp [X1V,X1N])
      (fun i s hi hs'=>by
       right
       obtain ⟨h1,h2⟩:=hs'
       have hdr:(List.range (X4J f)).drop i=i::(List.range (X4J f)).drop (i+1):=by
        rw [List.drop_eq_getElem_cons (by simpa [X4J] using hi)];simp
       rw [hdr,List.flatMap_cons,List.foldl_append] at h2
       have e1:decide ((i:Int)<↑f.Chart.Marks.length)=true:=by simp [hi]
       have hw:IntKind.wrap .i64 ((i:Int)+1)=((i+1:Nat):Int):=by rw [w64]<;>omega
       obtain ⟨bk',hbk,hr⟩:=X7r hs hk i hi h1 s.1
       simp only [X1V,X1N,e1,hw,cond_true,hr,Option.bind_some]
       exact ⟨(_,bk'),rfl,hbk,h2⟩) 0 (⟨0,0,0,false⟩,m') (by omega) ⟨hm',by simp [X2F,X6a]⟩
     obtain ⟨w,h1,bk',h2⟩:=main
     have h1':X3C (↑f.Chart.Marks.length) (X5 f l) f (0,0,0,false,0,m',f,l,kit)=some w:=h1
     rw [h1',h2]
     simp only [Option.bind_some]
     cases (X2F f l).found<;>simp
  ·simp [h0,WS h0]

theorem X6y (f:ZJ) (l:List Zm):∀ (c:List (Nat×Nat)) (b:X76) (S:Nat×Nat→Prop),
  ((b.found=true→(∃ m i:Nat,S (m,i)∧X2G f m i=true∧b.mark=m∧b.inst=i∧b.left=W2 f l m i))∧∀ d,S d→X2G f d.1 d.2=true→b.found=true∧b.left≤W2 f l d.1 d.2) →
  (((c.foldl (X1E f l) b).found=true→(∃ m i:Nat,(S (m,i)∨(m,i)∈c)∧X2G f m i=true∧(c.foldl (X1E f l) b).mark=m∧(c.foldl (X1E f l) b).inst=i∧(c.foldl (X1E f l) b).left=W2 f l m i))∧∀ d,(S d∨d∈c)→X2G f d.1 d.2=true→(c.foldl (X1E f l) b).found=true∧(c.foldl (X1E f l) b).left≤W2 f l d.1 d.2)
 | [],b,S,h=>by simpa using h
 | e::c,b,S,h=>by
  obtain ⟨h1,h2⟩:=h
  have key:=X6y f l c (X1E f l b e) (fun d=>S d∨d=e) (by
   unfold X1E
   cases hc:X2G f e.1 e.2
   ·simp only [Bool.false_eq_true,if_false]
    refine ⟨fun hf => ?_,fun d hd hcd => ?_⟩
    ·obtain ⟨m,i,g1,g2⟩:=h1 hf
     exact ⟨m,i,.inl g1,g2⟩
    ·rcases hd with hd|hd
     ·exact h2 d hd hcd
     ·subst hd;rw [hc] at hcd;cases hcd
   ·simp only [if_true]
    cases hf:b.found
    ·simp only [Bool.not_false,Bool.true_or,if_true]
     refine ⟨fun _=>⟨e.1,e.2,.inr rfl,hc,by simp⟩,fun d hd hcd => ?_⟩
     rcases hd with hd|hd
     ·have:=(h2 d hd hcd).1;rw [hf] at this;cases this
     ·subst hd;simp
    ·simp only [Bool.not_true,Bool.false_or]
     by_cases cl:W2 f l e.1 e.2<b.left
     ·simp only [cl,decide_true,if_true]
      refine ⟨fun _=>⟨e.1,e.2,.inr rfl,hc,by simp⟩,fun d hd hcd => ?_⟩
      rcases hd with hd|hd
      ·have:=(h2 d hd hcd).2
       refine ⟨trivial,?_⟩
       show W2 f l e.1 e.2≤_
       omega
      ·subst hd;simp
     ·simp only [cl,decide_false,Bool.false_eq_true,if_false]
      refine ⟨fun _ => ?_,fun d hd hcd => ?_⟩
      ·obtain ⟨m,i,g1,g2⟩:=h1 hf
       exact ⟨m,i,.inl g1,g2⟩
      ·rcases hd with hd|hd
       ·exact h2 d hd hcd
       ·subst hd;exact ⟨hf,by omega⟩)
  rw [List.foldl_cons]
  refine ⟨fun hf => ?_,fun d hd hcd => ?_⟩
  ·obtain ⟨m,i,g1,g2⟩:=key.1 hf
   refine ⟨m,i,?_,g2⟩
   rcases g1 with (g1|g1)|g1
   ·exact .inl g1
   ·exact .inr (by simp [g1])
   ·exact .inr (by simp [g1])
  ·refine key.2 d ?_ hcd
   rcases hd with hd|hd
   ·exact .inl (.inl hd)
   ·rcases List.mem_cons.1 hd with hd|hd
    ·exact .inl (.inr hd)
    ·exact .inr hd
theorem X6B (f:ZJ) (m i:Nat):(m,i)∈X6a f↔m<X4J f∧i<f.Instruments.length:=by
 unfold X6a
 rw [List.mem_flatMap]
 constructor
 ·rintro ⟨a,h1,h2⟩
  obtain ⟨b,h3,h4⟩:=List.mem_map.1 h2
  cases h4
  exact ⟨List.mem_range.1 h1,List.mem_range.1 h3⟩
 ·rintro ⟨h1,h2⟩
  exact ⟨m,List.mem_range.2 h1,List.mem_map.2 ⟨i,List.mem_range.2 h2,rfl⟩⟩
theorem X7s (f:ZJ) (l:List Zm):((X2F f l).found=true→(∃ m i:Nat,m<X4J f∧i<f.Instruments.length∧X2G f m i=true∧(X2F f l).mark=m∧(X2F f l).inst=i∧(X2F f l).left=W2 f l m i))∧∀ m i:Nat,m<X4J f→i<f.Instruments.length→X2G f m i=true→(X2F f l).found=true∧(X2F f l).left≤W2 f l m i:=by
 obtain ⟨h1,h2⟩:=X6y f l (X6a f) ⟨0,0,0,false⟩ (fun _=>False) ⟨fun h=>(by cases h),fun _ h=>h.elim⟩
 refine ⟨fun hf => ?_,fun m i hm hi hc => ?_⟩
 ·obtain ⟨m,i,g1,g2⟩:=h1 hf
  rcases g1 with g1|g1
  ·exact g1.elim
  ·have:=(X6B f m i).1 g1
   exact ⟨m,i,this.1,this.2,g2⟩
 ·exact h2 (m,i) (.inr ((X6B f m i).2 ⟨hm,hi⟩)) hc

theorem X7c {f:ZJ} (hg:X21 f) {l:List Zm} (m:Int) (i:Nat) (hi:i<f.Instruments.length) (hL:f.Instruments[i].Lead=false) (j:Nat) (hj:j<32) (h0:0≤m) (h1:m<f.Chart.Marks.length):(X5 f (l++[⟨i,m,j,0⟩])).length=(X5 f l).countP (X4N f l m i j):=by
 rw [List.countP_eq_length_filter]
 congr 1
 unfold X5
 rw [List.filter_filter]
 apply List.filter_congr
 intro p _
 have hio:We f ((i:Nat):Int)=f.Instruments[i]:=X0 _ _ _ hi
 have hx:∀ v,((X2n f p ⟨i,m,j,0⟩).2=true∧inS v (X2n f p ⟨i,m,j,0⟩).1)↔0≤X1U f m p∧v=X7a j (X1U f m p):=fun v=>by
  unfold X2n
  rw [hio,hL]
  simp only [Bool.false_eq_true,if_false]
  unfold inS
  simp only [decide_eq_true_eq]
  omega
 have hsb:=X6N hg h0 h1 p
 rw [Bool.eq_iff_iff,Bool.and_eq_true]
 constructor
 ·intro h
  have hal:=X7Q hg (l:=l) (fun x hx=>by simp [hx]) h
  refine ⟨?_,hal⟩
  rw [X77 hg] at h
  obtain ⟨v,hv⟩:=h i
  have hv1:inS v ((atN f l p 0 0).1 i):=((X6E hg hal i).2 v).2 (X7o (fun x hx=>by simp [hx]) hv)
  have hv2:=(hx v).1 (hv.2 ⟨i,m,j,0⟩ (by simp) (X7A _ _) (by simp))
  have ho:=X78 hg hal hi hL
  unfold X4N
  unfold inS at hv1
  have hcm:=hv2.2
  unfold X7a at hcm
  simp only [Bool.and_eq_true,decide_eq_true_eq]
  refine ⟨hv2.1,?_⟩
  split at hcm<;>omega
 ·rintro ⟨hh,hal⟩
  have ho:=X78 hg hal hi hL
  unfold X4N at hh
  simp only [Bool.and_eq_true,decide_eq_true_eq] at hh
  rw [X77 hg]
  intro k
  obtain ⟨h2,h3⟩:=X6E hg hal k
  by_cases hki:k=i
  ·subst hki
   have hv:inS (X7a j (X1U f m p)) ((atN f l p 0 0).1 k):=by
    unfold inS X7a
    split<;>omega
   have hn:=(h3 _).1 hv
   refine ⟨_,hn.1,fun y hy hs he => ?_⟩
   rcases List.mem_append.1 hy with hy|hy
   ·exact hn.2 y hy hs he
   ·rw [List.mem_singleton] at hy
    subst hy
    exact (hx _).2 ⟨hh.1,rfl⟩
  ·have hn:=(h3 ((atN f l p 0 0).1 k).Lo).1 ⟨Int.le_refl _,h2⟩
   refine ⟨_,hn.1,fun y hy hs he => ?_⟩
   rcases List.mem_append.1 hy with hy|hy
   ·exact hn.2 y hy hs he
   ·rw [List.mem_singleton] at hy
    subst hy
    simp at he
    exact absurd he.symm hki
end Nore
open Go Go.Ab
namespace Nore

theorem X7K (f:ZJ) (l:List Zm) (m:Int) (i:Nat):0≤W2 f l m i∧W2 f l m i≤(X5 f l).length:=by
 unfold W2 X7h
 obtain ⟨h1,h2,h3⟩:=X6A ((List.range 32).map fun j:Nat=>(((X5 f l).countP (X4N f l m i j):Nat):Int)) 0
 refine ⟨h1,?_⟩
 rcases h3 with h|h
 ·rw [h];omega
 ·obtain ⟨j,_,hj⟩:=List.mem_map.1 h
  rw [←hj]
  have:=List.countP_le_length (p:=X4N f l m i j) (l:=X5 f l)
  omega

theorem X7q {M o m:Nat} (hm:m<M):∃ j,j<M∧(j+o) % M=m:=by
 refine ⟨(m+(M-o % M)) % M,Nat.mod_lt _ (by omega),?_⟩
 have hr:o % M<M:=Nat.mod_lt _ (by omega)
 have ho:=Nat.div_add_mod o M
 rw [Nat.mod_add_mod]
 have:m+(M-o % M)+o=m+M*(o / M+1):=by rw [Nat.mul_add];omega
 rw [this,Nat.add_mul_mod_self_left,Nat.mod_eq_of_lt hm]

theorem X6T {f:ZJ} (hg:X21 f) (y:Nat→Int) (hy:0≤y 0∧y 0≤255):∃ k:Int,X1Z y f (0,-1)=some k∧((k = -1∧∀ m:Nat,m<f.Chart.Marks.length→W9 f m=false)∨(0≤k∧k<f.Chart.Marks.length∧W9 f k=true)):=by
 have hM:=hg.marks
 obtain ⟨w,h1,h2⟩:=X3U (XD y f) f.Chart.Marks.length (fun i (b:Int)=>((i:Int),b)) (fun i b=>(b = -1∧∀ j,j<i→W9 f (((j+(y 0).toNat) % f.Chart.Marks.length:Nat):Int)=false)∨(0≤b∧b<f.Chart.Marks.length∧W9 f b=true))
  (fun k=>(k = -1∧∀ m:Nat,m<f.Chart.Marks.length→W9 f m=false)∨(0≤k∧k<f.Chart.Marks.length∧W9 f k=true))
  (fun b hb=>⟨b,by simp [XD,XK],by
   rcases hb with ⟨h,hb⟩|hb
   ·refine .inl ⟨h,fun m hm => ?_⟩
    obtain ⟨j,hj,he⟩:=X7q (o:=(y 0).toNat) hm
    rw [←he];exact hb j hj
   ·exact .inr hb⟩)
  (fun i b hi hb=>by
   right
   have e1:decide ((i:Int)<↑f.Chart.Marks.length)=true:=by simp [hi]
   have e0:((f.Chart.Marks.length:Int)==0)=false:=X3z (by omega)
   have hw:IntKind.wrap .i64 ((i:Int)+1)=((i+1:Nat):Int):=by rw [w64]<;>omega
   have hw1:IntKind.wrap .i64 (y 0)=y 0:=by rw [w64]<;>omega
   have hw2:IntKind.wrap .i64 ((i:Int)+y 0)=((i+(y 0).toNat:Nat):Int):=by rw [w64]<;>omega
   have hm:Int.tmod ((i+(y 0).toNat:Nat):Int) (f.Chart.Marks.length:Int)=(((i+(y 0).toNat) % f.Chart.Marks.length:Nat):Int):=rfl
   have hlt:(i+(y 0).toNat) % f.Chart.Marks.length<f.Chart.Marks.length:=Nat.mod_lt _ (by omega)
   generalize hq:(i+(y 0).toNat) % f.Chart.Marks.length=q at *
   have e2:decide ((0:Int)≤(q:Int))=true:=by simp
   have e3:decide ((q:Int)<(f.Chart.Marks.length:Int))=true:=by simp;omega
   have hmk:=(hg.mark _ (List.getElem_mem hlt)).2
   have hmo:f.Chart.Marks.getD q ⟨ByteArray.empty,⟨0,0⟩,[]⟩=f.Chart.Marks[q]:=X0 _ _ _ hlt
   have hst:W9 f (q:Int)=(X3O f.Chart.Marks[q] f.Day != 0):=by unfold W9 Z8y;rw [Int.toNat_natCast,hmo]
   simp only [XD,XK,e1,e0,hw,hw1,hw2,hm,e2,e3,show Int.toNat 0=0 from rfl,Int.toNat_natCast,hmo,Bool.and_self,cond_true,cond_false]
   rw [X48 _ _ (by omega)]
   simp only [Option.bind_some]
   rw [←hst]
   cases hs:W9 f (q:Int)
   ·simp only [cond_false]
    refine ⟨b,rfl,?_⟩
    rcases hb with ⟨h,hb⟩|hb
    ·refine .inl ⟨h,fun j hj => ?_⟩
     by_cases c:j=i
     ·subst c;rw [hq];exact hs
     ·exact hb j (by omega)
    ·exact .inr hb
   ·exact ⟨(q:Int),rfl,.inr ⟨by omega,by omega,hs⟩⟩) 0 (-1) (by omega) (.inl ⟨rfl,fun j hj=>by omega⟩)
 exact ⟨w,h1,h2⟩
theorem X6U {f:ZJ} (hg:X21 f) (y:Nat→Int) (hy:0≤y 1∧y 1≤255):∃ k:Int,X20 y f (0,-1)=some k∧((k = -1∧∀ m:Nat,m<f.Instruments.length→(We f m).Lead=true)∨(0≤k∧k<f.Instruments.length∧(We f k).Lead=false)):=by
 have hM:=hg.inst
 obtain ⟨w,h1,h2⟩:=X3U (XE y f) f.Instruments.length (fun i (b:Int)=>((i:Int),b)) (fun i b=>(b = -1∧∀ j,j<i→(We f (((j+(y 1).toNat) % f.Instruments.length:Nat):Int)).Lead=true)∨(0≤b∧b<f.Instruments.length∧(We f b).Lead=false))
  (fun k=>(k = -1∧∀ m:Nat,m<f.Instruments.length→(We f m).Lead=true)∨(0≤k∧k<f.Instruments.length∧(We f k).Lead=false))
  (fun b hb=>⟨b,by simp [XE,XM],by
   rcases hb with ⟨h,hb⟩|hb
   ·refine .inl ⟨h,fun m hm => ?_⟩
    obtain ⟨j,hj,he⟩:=X7q (o:=(y 1).toNat) hm
    rw [←he];exact hb j hj
   ·exact .inr hb⟩)
  (fun i b hi hb=>by
   right
   have e1:decide ((i:Int)<↑f.Instruments.length)=true:=by simp [hi]
   have e0:((f.Instruments.length:Int)==0)=false:=X3z (by omega)
   have hw:IntKind.wrap .i64 ((i:Int)+1)=((i+1:Nat):Int):=by rw [w64]<;>omega
   have hw1:IntKind.wrap .i64 (y 1)=y 1:=by rw [w64]<;>omega
   have hw2:IntKind.wrap .i64 ((i:Int)+y 1)=((i+(y 1).toNat:Nat):Int):=by rw [w64]<;>omega
   have hm:Int.tmod ((i+(y 1).toNat:Nat):Int) (f.Instruments.length:Int)=(((i+(y 1).toNat) % f.Instruments.length:Nat):Int):=rfl
   have hlt:(i+(y 1).toNat) % f.Instruments.length<f.Instruments.length:=Nat.mod_lt _ (by omega)
   generalize hq:(i+(y 1).toNat) % f.Instruments.length=q at *
   have e2:decide ((0:Int)≤(q:Int))=true:=by simp
   have e3:decide ((q:Int)<(f.Instruments.length:Int))=true:=by simp;omega
   have hgi:f.Instruments.getD q ⟨ByteArray.empty,false,⟨0,0⟩⟩=We f (q:Int):=rfl
   simp only [XE,XM,e1,e0,hw,hw1,hw2,hm,e2,e3,show Int.toNat 1=1 from rfl,Int.toNat_natCast,hgi,Bool.and_self,cond_true,cond_false]
   cases hs:(We f (q:Int)).Lead
   ·exact ⟨(q:Int),rfl,.inr ⟨by omega,by omega,hs⟩⟩
   ·simp only [Bool.not_true,cond_false]
    refine ⟨b,rfl,?_⟩
    rcases hb with ⟨h,hb⟩|hb
    ·refine .inl ⟨h,fun j hj => ?_⟩
     by_cases c:j=i
     ·subst c;rw [hq];exact hs
     ·exact hb j (by omega)
    ·exact .inr hb) 0 (-1) (by omega) (.inl ⟨rfl,fun j hj=>by omega⟩)
 exact ⟨w,h1,h2⟩

theorem X73 {f:ZJ} (hf:(X1s f).2.2=0) {l:List Zm} (hl:∀ x∈l,X1p f x=0) (hll:l.length<8) (m i:Nat) (hm:m<f.Chart.Marks.length) (hi:i<f.Instruments.length) (hc:X2G f m i=true):X3M f l (m:Int) (i:Int)=some (W2 f l m i):=by
 have hg:=X5y hf
 unfold X2G at hc
 have hio:We f ((i:Nat):Int)=f.Instruments[i]:=X0 _ _ _ hi
 rw [Bool.and_eq_true,hio] at hc
 have hL:f.Instruments[i].Lead=false:=by have:=hc.1;simpa using this
 have hsx:∀ j:Nat,j<32→X1p f ⟨i,m,j,0⟩=0:=fun j hj=>by
  unfold X1p
  have e1:X3 0 ((f.Instruments.length:Int)-1) [(i:Int)]=false:=by simp;omega
  have e2:X3 0 ((f.Chart.Marks.length:Int)-1) [(m:Int)]=false:=by simp;omega
  have e3:X3 0 31 [(j:Int)]=false:=by simp;omega
  simp only [e1,e2,e3,hio,hL,hc.2,Bool.false_eq_true,if_false,Bool.true_eq_false,ne_eq,not_true]
 rw [X5l];unfold X2b
 obtain ⟨w,h1,h2⟩:=X3U (WQ (i:Int) l (m:Int) f) 32 (fun j (b:Int)=>(b,(j:Int))) (fun j b=>(((List.range 32).drop j).map fun j:Nat=>(((X5 f l).countP (X4N f l m i j):Nat):Int)).foldl X4O b=W2 f l m i) (fun w=>w=W2 f l m i)
  (fun b hb=>⟨b,by simp [WQ,X11],by
   rw [List.drop_of_length_le (by simp)] at hb
   exact hb⟩)
  (fun j b hj hb=>by
   right
   have e1:decide ((j:Int)<32)=true:=by simp;omega
   have hw:IntKind.wrap .i64 ((j:Int)+1)=((j+1:Nat):Int):=by rw [w64]<;>omega
   have hck:(W6 f (l++[⟨i,m,j,0⟩])).2=0:=X79 hf (by simp;omega) fun x hx=>by
    rcases List.mem_append.1 hx with h|h
    ·exact hl x h
    ·rw [List.mem_singleton] at h;subst h;exact hsx j hj
   have hdr:(List.range 32).drop j=j::(List.range 32).drop (j+1):=by
    rw [List.drop_eq_getElem_cons (by simpa using hj)];simp
   rw [hdr,List.map_cons,List.foldl_cons] at hb
   simp only [WQ,X11,e1,hw,cond_true]
   rw [X6g _ _ (by omega)]
   simp only [Option.bind_some]
   rw [X4U]
   simp only [hck,if_true,Option.bind_some]
   rw [X7c hg (m:Int) i hi hL j hj (by omega) (by omega)]
   refine ⟨X4O b (((X5 f l).countP (X4N f l m i j):Nat):Int),?_,hb⟩
   unfold X4O
   simp only [Bool.cond_decide]) 0 0 (by omega) rfl
 have h1':X2Y (i:Int) l (m:Int) f (0,0)=some w:=h1
 rw [h1',h2];rfl

theorem X6p (f:ZJ) (l:List Zm) (y:Nat→Int) (hy':∀ j,j<2→(Lit.int .u8 (y j)).wf=true):X2X f l y=some true:=by
 have hy:∀ j,j<2→0≤y j∧y j≤255:=fun j hj=>X7V (hy' j hj)
 rw [X42];unfold X10
 rw [X6X,X68]
 simp only [Option.bind_some]
 by_cases hc:(W6 f l).2=0
 ·have hs:=X50 hc
  have hf:(X1s f).2.2=0:=by
   unfold W6 at hc
   by_cases h1:(X1s f).2.2=0
   ·exact h1
   ·rw [if_pos h1] at hc;exact absurd hc h1
  simp only [hc,decide_true,Bool.not_true,cond_false,ne_eq,not_true,if_false]
  by_cases h8:l.length=8
  ·have:((l.length:Int)==8)=true:=by simp;omega
   rw [this];simp [h8]
  ·have e8:((l.length:Int)==8)=false:=X3z (by omega)
   simp only [e8,cond_false,if_neg h8]
   rw [X4U]
   simp only [hc,if_true,Option.bind_some,bne_self_eq_false,cond_false]
   by_cases hn:X5 f l=[]
   ·simp [hn]
   ·have e0:(((X5 f l).length:Int)==0)=false:=X3z (fun h=>hn (List.eq_nil_of_length_eq_zero (by omega)))
    simp only [e0,cond_false,if_neg hn]
    obtain ⟨k,hk1,hk2⟩:=X6T hs.fix y (hy 0 (by omega))
    obtain ⟨n,hn1,hn2⟩:=X6U hs.fix y (hy 1 (by omega))
    rw [hk1,hn1]
    simp only [Option.bind_some]
    obtain ⟨b1,b2⟩:=X7s f l
    have hnf:(k = -1∨n = -1)→(X2F f l).found=false:=fun hkn=>by
     cases hfo:(X2F f l).found
     ·rfl
     ·exfalso
      obtain ⟨m,i,g1,g2,g3,_⟩:=b1 hfo
      unfold X2G at g3
      rw [Bool.and_eq_true] at g3
      rcases hkn with hkn|hkn
      ·rcases hk2 with ⟨_,hk2⟩|hk2
       ·have:=hk2 m g1;rw [this] at g3;simp at g3
       ·omega
      ·rcases hn2 with ⟨_,hn2⟩|hn2
       ·have:=hn2 i g2;rw [this] at g3;simp at g3
       ·omega
    by_cases ck:k<0
    ·have hkm:k = -1:=by rcases hk2 with h|h<;>omega
     rw [hnf (.inl hkm)]
     simp [ck]
    ·have ek:decide (k<0)=false:=by simpa using ck
     rw [ek,cond_false]
     by_cases cn:n<0
     ·have hkm:n = -1:=by rcases hn2 with h|h<;>omega
      rw [hnf (.inr hkm)]
      simp [cn]
     ·have en:decide (n<0)=false:=by simpa using cn
      rw [en,cond_false]
      obtain ⟨k0,rfl⟩:∃ k0:Nat,k=(k0:Int):=⟨k.toNat,by omega⟩
      obtain ⟨n0,rfl⟩:∃ n0:Nat,n=(n0:Int):=⟨n.toNat,by omega⟩
      have hk3:k0<f.Chart.Marks.length∧W9 f k0=true:=by
       rcases hk2 with h|h
       ·omega
       ·exact ⟨by omega,h.2.2⟩
      have hn3:n0<f.Instruments.length∧(We f n0).Lead=false:=by
       rcases hn2 with h|h
       ·omega
       ·exact ⟨by omega,h.2.2⟩
      have hcand:X2G f k0 n0=true:=by unfold X2G;rw [hk3.2,hn3.2];rfl
      obtain ⟨b3,b4⟩:=b2 k0 n0 hk3.1 hn3.1 hcand
      obtain ⟨m,i,g1,g2,g3,g4,g5,g6⟩:=b1 b3
      have hb:=X7K f l (m:Int) i
      rw [b3]
      simp only [if_true,bne_self_eq_false,cond_false]
      rw [g4,g5,g6]
      have d1:decide (W2 f l (m:Int) i<0)=false:=by simp;omega
      have d2:decide (W2 f l (m:Int) i>((X5 f l).length:Int))=false:=by simp;omega
      rw [d1,d2]
      simp only [cond_false]
      have hll:l.length<8:=by have:=hs.len;omega
      rw [X73 hf hs.each hll m i g1 g2 g3,X73 hf hs.each hll k0 n0 hk3.1 hn3.1 hcand]
      have d3:decide (W2 f l (k0:Int) n0≥W2 f l (m:Int) i)=true:=by simp;omega
      simp [d3]
 ·simp [hc,WS hc]
end Nore
