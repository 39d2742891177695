/- The plain functions of the program and of the document answer alike. -/
import Derived.Test.YtehofdemanfenaaD
import Derived.Test.YtehofdemanfenaaY
set_option linter.unusedSectionVars false
set_option linter.unusedVariables false
set_option linter.unusedSimpArgs false
open Go Go.Ab
namespace Nore

theorem w64 {x:Int} (h1 : -9223372036854775808≤x) (h2:x≤9223372036854775807):IntKind.wrap .i64 x=x:=by
 simp only [IntKind.wrap,IntKind.signed,IntKind.bits]
 simp
 omega

theorem X3x {σ ω γ:Type} (st:σ→Option (σ⊕ω)) (k:ω→Option γ) (s:σ):Option.bind (Z8S st s) k=Option.bind (st s) (Sum.elim (fun s'=>Option.bind (Z8S st s') k) k):=by
 rw [ZgX]
 cases st s with
 | none=>rfl
 | some r=>cases r<;>rfl

theorem X4 {β σ ω γ:Type} (st:σ→Option (σ⊕ω)) (k:ω→Option γ) (n:Nat) (emb:Nat→β→σ) (P:Nat→β→Prop) (nice:Nat→β→Option γ)
  (hd:∀ b,P n b→∀ R:σ→Option γ,Option.bind (st (emb n b)) (Sum.elim R k)=nice n b)
  (hn:∀ i b,i<n→P i b→∀ R:σ→Option γ,(∀ b',P (i+1) b'→R (emb (i+1) b')=nice (i+1) b')→Option.bind (st (emb i b)) (Sum.elim R k)=nice i b) :
  ∀ i b,i≤n→P i b→Option.bind (Z8S st (emb i b)) k=nice i b:=by
 intro i b hi hP
 induction hj:n-i generalizing i b with
 | zero =>
  have:i=n:=by omega
  subst this
  rw [X3x];exact hd b hP _
 | succ j ih =>
  rw [X3x]
  exact hn i b (by omega) hP _ fun b' hb'=>ih (i+1) b' (by omega) hb' (by omega)

theorem X2c {γ:Type} (o:Option γ):Option.bind o (fun x=>some x)=o:=by cases o<;>rfl

theorem X63 {β σ ω:Type} (st:σ→Option (σ⊕ω)) (n:Nat) (emb:Nat→β→σ) (P:Nat→β→Prop) (nice:Nat→β→Option ω)
  (hd:∀ b,P n b→∀ R:σ→Option ω,Option.bind (st (emb n b)) (Sum.elim R some)=nice n b)
  (hn:∀ i b,i<n→P i b→∀ R:σ→Option ω,(∀ b',P (i+1) b'→R (emb (i+1) b')=nice (i+1) b')→Option.bind (st (emb i b)) (Sum.elim R some)=nice i b)
  (i:Nat) (b:β) (hi:i≤n) (hP:P i b):Z8S st (emb i b)=nice i b:=by
 rw [←X2c (Z8S st (emb i b))]
 exact X4 st some n emb P nice hd hn i b hi hP

theorem X5M {a b:Int} (h:¬ a=b):(a==b)=false:=beq_eq_false_iff_ne.2 h
theorem X1r {a b:Int} (h:¬ a=b):(a != b)=true:=bne_iff_ne.2 h

theorem X0 {α:Type} (l:List α) (i:Nat) (d:α) (h:i<l.length):l.getD i d=l[i]:=by simp [List.getD,h]

def X1 (lo hi:Int) (l:List Int):Bool:=l.any fun n=>decide (n<lo)||decide (n>hi)
@[simp] theorem X5U (lo hi:Int):X1 lo hi []=false:=rfl
@[simp] theorem X3K (lo hi n:Int) (l:List Int):X1 lo hi (n::l)=(decide (n<lo)||decide (n>hi)||X1 lo hi l):=rfl
def inN (n lo hi:Int):Bool:=decide (lo≤n)&&decide (n≤hi)

theorem WJ (lo up:Int) (l:List Int) (hl:l.length<1000000):X1a lo up l=some (X1 lo up l):=by
 have key:=X4 (X1b (↑l.length) l up lo) (fun o3=>Sum.elim (fun y4:Int=>some (decide (y4≥0))) (fun _=>some (decide ((-1:Int)≥0))) o3) l.length (fun i (_:Unit)=>(i:Int)) (fun _ _=>True) (fun i _=>some (X1 lo up (l.drop i)))
  (by
   intro b _ R
   simp [X1b,X1g])
  (by
   intro i b hi _ R hR
   have hR':=hR () trivial
   simp only [X1b,X1g]
   rw [List.drop_eq_getElem_cons hi]
   simp only [Int.toNat_natCast,X0 _ _ _ hi,X3K]
   have hw:IntKind.wrap .i64 ((i:Int)+1)=((i+1:Nat):Int):=by rw [w64]<;>omega
   rw [hw]
   have h1:decide ((i:Int)<↑l.length)=true:=by simp [hi]
   have h2:decide ((0:Int)≤↑i)=true:=by simp
   simp only [h1,h2,Bool.and_self,cond_true]
   by_cases h3:l[i]<lo
   ·simp [h3]
   ·by_cases h4:l[i]>up
    ·simp [h3,h4]
    ·simp [h3,h4];exact hR')
 exact (key 0 () (by omega) trivial).trans (by simp)

theorem X1n (n lo hi:Int):X1F n lo hi=some (inN n lo hi):=by
 unfold X1F inN
 by_cases h:lo≤n<;>simp [h]
end Nore
open Go Go.Ab
namespace Nore

def X5d:Int→List UInt8→Option Int
 | last,[]=>some last
 | last,c::l=>if 97≤(c.toNat:Int)∧(c.toNat:Int)≤122 then X5d c.toNat l else if (c.toNat:Int)≠45∨last=45 then none else X5d c.toNat l
def X4d:Option Int→Bool
 | none=>false
 | some last=>last != 45
def X5e (s:ByteArray):Bool:=decide (s.size≤14)&&X4d (X5d 45 s.toList)

theorem X7J (s:ByteArray) (i:Nat) (h:(s.get! i).toNat<128):Utf8.decode s i=((s.get! i).toNat,1):=by
 unfold Utf8.decode;simp only [Nat.add_zero];rw [if_pos h]
theorem X7I (s:ByteArray) (i:Nat) (h:¬ (s.get! i).toNat<128):128≤(Utf8.decode s i).1:=by
 unfold Utf8.decode
 simp only [Nat.add_zero,Utf8.runeError]
 rw [if_neg h]
 repeat' split
 all_goals simp_all
 all_goals omega

theorem X1I (s:ByteArray):s.toList.length=s.size:=by rw [ByteArray.toList_eq];rfl
theorem X7t (s:ByteArray) (i:Nat) (h:i<s.toList.length):s.get! i=s.toList[i]:=by
 have hs:i<s.size:=by rw [←X1I];exact h
 simp only [ByteArray.toList_eq]
 show s.data[i]! = _
 have h2:i<s.data.size:=hs
 rw [getElem!_pos s.data i h2]
 rfl

theorem X4j (s:ByteArray):X2H s=some (X5e s):=by
 have key:=X4 (WM s s) (fun o0=>Sum.elim (fun y1:Bool×Nat=>some y1.fst) (fun y2:Int×Nat=>bif decide ((↑(ByteArray.size s):Int)≤14) then some (y2.fst != 45) else some false) o0) s.toList.length (fun i (b:Int)=>(b,i)) (fun _ _=>True) (fun i b=>some (decide (s.size≤14)&&X4d (X5d b (s.toList.drop i))))
  (by
   intro b _ R
   have hh:(decide ((↑s.size:Int)≤14))=decide (s.size≤14):=by rw [decide_eq_decide];omega
   have hd:s.toList.drop s.size=[]:=List.drop_eq_nil_of_le (by rw [X1I];exact Nat.le_refl _)
   simp only [hd,X5d,X4d,WM,WO,X1I,hh,Nat.lt_irrefl,decide_false,cond_false,Option.bind_some,Sum.elim_inr]
   cases decide (s.size≤14)<;>simp)
  (by
   intro i b hi _ R hR
   have hs:i<s.size:=by rw [←X1I];exact hi
   have hg:=X7t s i hi
   simp only [WM,WO]
   rw [List.drop_eq_getElem_cons hi]
   simp only [X5d]
   by_cases h:(s.get! i).toNat<128
   ·rw [X7J s i h]
    have hR':=hR ((s.get! i).toNat:Int) trivial
    rw [hg] at *
    generalize s.toList[i]=c at *
    simp only [hs,decide_true,cond_true]
    by_cases h1:97≤(c.toNat:Int)
    ·have q1:decide ((c.toNat:Int)≥97)=true:=decide_eq_true h1
     by_cases h2:(c.toNat:Int)≤122
     ·have q2:decide ((c.toNat:Int)≤122)=true:=decide_eq_true h2
      simp only [decide_true,decide_false,q1,q2,cond_true,Option.bind_some,Sum.elim_inl,h1,h2,and_self,if_true]
      exact hR'
     ·have q2:decide ((c.toNat:Int)≤122)=false:=decide_eq_false h2
      have h3:¬ ((c.toNat:Int)=45):=by omega
      have q3:((c.toNat:Int) != 45)=true:=bne_iff_ne.2 h3
      simp only [decide_true,decide_false,q1,q2,q3,cond_true,cond_false,Option.bind_some,Sum.elim_inl,Sum.elim_inr,h2,and_false,if_false,ne_eq,h3,not_false_iff,true_or,if_true,X4d,Bool.and_false]
    ·have q1:decide ((c.toNat:Int)≥97)=false:=decide_eq_false h1
     by_cases h3:(c.toNat:Int)=45
     ·have q3:((c.toNat:Int) != 45)=false:=by rw [h3];rfl
      by_cases h4:b=45
      ·have q4:(b==45)=true:=by rw [h4];rfl
       rw [q1,q3,q4,if_neg (fun hc=>h1 hc.1),if_pos (Or.inr h4)]
       simp [X4d]
      ·have q4:(b==45)=false:=beq_eq_false_iff_ne.2 h4
       simp only [decide_true,decide_false,q1,q3,q4,cond_true,cond_false,Option.bind_some,Sum.elim_inl,Sum.elim_inr,h1,false_and,if_false,h4,ne_eq,h3,not_true,or_self,if_true]
       rw [h3] at hR'
       exact hR'
     ·have q3:((c.toNat:Int) != 45)=true:=bne_iff_ne.2 h3
      simp only [decide_true,decide_false,q1,q3,cond_true,cond_false,Option.bind_some,Sum.elim_inl,Sum.elim_inr,h1,false_and,if_false,ne_eq,h3,not_false_iff,true_or,if_true,X4d,Bool.and_false]
   ·have h':=X7I s i h
    rw [hg] at h
    generalize s.toList[i]=c at *
    simp only [hs,decide_true,cond_true]
    generalize (Utf8.decode s i)=d at *
    have e1:((d.1:Nat):Int)≥97:=by omega
    have e2:¬ ((d.1:Nat):Int)≤122:=by omega
    have e3:¬ ((d.1:Nat):Int)=45:=by omega
    have e4:¬ ((c.toNat:Int)≤122):=by omega
    have e5:¬ ((c.toNat:Int)=45):=by omega
    have q1:decide (((d.1:Nat):Int)≥97)=true:=decide_eq_true e1
    have q2:decide (((d.1:Nat):Int)≤122)=false:=decide_eq_false e2
    have q3:(((d.1:Nat):Int) != 45)=true:=bne_iff_ne.2 e3
    simp only [decide_true,decide_false,q1,q2,q3,cond_true,cond_false,Option.bind_some,Sum.elim_inl,Sum.elim_inr,e4,and_false,if_false,ne_eq,e5,not_false_iff,true_or,if_true,X4d,Bool.and_false])
 exact (key 0 45 (by omega) trivial).trans (by simp [X5e])

theorem X6P (s:ByteArray):X42 s=some (X5e s):=by
 unfold X42
 rw [X1n]
 simp only [Option.bind_some]
 by_cases hsz:1≤s.size∧s.size≤14
 ·have e1:inN (↑s.size) 1 14=true:=by simp [inN];omega
  rw [e1]
  simp only [Bool.not_true,cond_false]
  have hl:=X1I s
  have key:=X4 (WN s) (fun o0=>Sum.elim (fun y76:Bool=>some y76) (fun _:Unit=>some true) o0) s.toList.length (fun i (_:Int)=>(i:Int)) (fun i b=>b=if i=0 then 45 else ((s.toList.getD (i-1) 0).toNat:Int)) (fun i b=>some (if i<s.toList.length then X4d (X5d b (s.toList.drop i)) else true))
   (by
    intro b _ R
    simp [WN,WV,X1I])
   (by
    intro i b hi hP R hR
    have hs:i<s.size:=by rw [←X1I];exact hi
    simp only [WN,WV]
    rw [List.drop_eq_getElem_cons hi]
    have hR':=hR ((s.toList[i]).toNat:Int) (by simp [List.getD,hi])
    have hw:IntKind.wrap .i64 ((i:Int)+1)=((i+1:Nat):Int):=by rw [w64]<;>omega
    have hw1:IntKind.wrap .i64 ((i:Int)-1)=((i:Int)-1):=by rw [w64]<;>omega
    have hw2:IntKind.wrap .i64 ((s.size:Int)-1)=((s.size:Int)-1):=by rw [w64]<;>omega
    simp only [X5d,Int.toNat_natCast,X0 _ _ _ hi,hw,hw1,hw2]
    have d1:decide ((i:Int)<↑s.size)=true:=by simp [hs]
    have d2:decide ((0:Int)≤↑i)=true:=by simp
    simp only [d1,d2,Bool.and_self,cond_true,hi,if_true]
    generalize hc:s.toList[i]=c at *
    by_cases h1:97≤(c.toNat:Int)∧(c.toNat:Int)≤122
    ·have q1:decide ((c.toNat:Int)≥97)=true:=decide_eq_true h1.1
     have q2:decide ((c.toNat:Int)≤122)=true:=decide_eq_true h1.2
     simp only [decide_true,decide_false,q1,q2,cond_true,Option.bind_some,Sum.elim_inl,h1,and_self,if_true]
     have hne:¬ ((c.toNat:Int)=45):=by omega
     rw [hR']
     by_cases hi2:i+1<s.toList.length
     ·simp [hi2]
     ·have:s.toList.drop (i+1)=[]:=List.drop_eq_nil_of_le (by omega)
      simp [hi2,this,X5d,X4d,hne]
    ·have g:(bif decide ((c.toNat:Int)≥97) then bif decide ((c.toNat:Int)≤122) then true else false else false)=false:=by
      by_cases a1:(c.toNat:Int)≥97
      ·by_cases a2:(c.toNat:Int)≤122
       ·exact absurd ⟨a1,a2⟩ h1
       ·simp [a1,a2]
      ·simp [a1]
     have g2:∀ (Z:Type) (x y:Z),(bif decide ((c.toNat:Int)≥97) then bif decide ((c.toNat:Int)≤122) then x else y else y)=y:=by
      intro Z x y
      by_cases a1:(c.toNat:Int)≥97
      ·by_cases a2:(c.toNat:Int)≤122
       ·exact absurd ⟨a1,a2⟩ h1
       ·simp [a1,a2]
      ·simp [a1]
     rw [g2,if_neg h1]
     by_cases h2:(c.toNat:Int)=45
     ·simp only [h2,bne_self_eq_false,cond_false]
      by_cases h3:i=0
      ·subst h3
       simp [hP,X4d]
      ·by_cases h4:i+1=s.size
       ·have:s.toList.drop (i+1)=[]:=List.drop_eq_nil_of_le (by omega)
        have e5:(i:Int)=(s.size:Int)-1:=by omega
        have e6:((s.size:Int)-1==0)=false:=by simp;omega
        simp only [e5,e6,this,X5d]
        by_cases h5:b=45<;>simp [h5,X4d]
       ·have e5:((i:Int)==(s.size:Int)-1)=false:=by simp;omega
        have e6:((i:Int)==0)=false:=by simp;omega
        have e7:(0:Int)≤(i:Int)-1:=by omega
        have e8:(i:Int)-1<(s.size:Int):=by omega
        have e9:((i:Int)-1).toNat=i-1:=by omega
        simp only [e5,e6,e7,e8,e9,cond_false,decide_true,Bool.and_self,cond_true]
        simp only [h3,if_false] at hP
        rw [←hP]
        by_cases h5:b=45
        ·simp [h5,X4d]
        ·have q5:(b==45)=false:=beq_eq_false_iff_ne.2 h5
         rw [h2] at hR'
         rw [q5]
         simp only [cond_false,Option.bind_some,Sum.elim_inl,ne_eq,not_true,false_or,h5,if_false]
         rw [hR']
         simp [show i+1<s.toList.length by omega]
     ·have:((c.toNat:Int) != 45)=true:=by simp [h2]
      simp [this,h2,X4d])
  have:=key 0 45 (by omega) (by simp)
  refine this.trans ?_
  simp [X5e,show 0<s.toList.length by omega,hsz.2]
 ·have e1:inN (↑s.size) 1 14=false:=by
   simp [inN];omega
  rw [e1]
  simp only [Bool.not_false,cond_true,X5e]
  by_cases h:s.size≤14
  ·have h0:s.toList=[]:=by
    apply List.eq_nil_of_length_eq_zero;rw [X1I];omega
   simp [h0,X5d,X4d]
  ·simp [h]

end Nore
open Go Go.Ab
namespace Nore

def X2b (m:Int) (p:Zu):Bool:=X1 (-m) m [p.X,p.Y]
def X4e:Int→List Zk→Int
 | _,[]=>0
 | last,p::l=>if X1 0 40000 [p.Day]||X1 0 4 [p.Colour] then 7 else if p.Day≤last then 2 else X4e p.Day l
def X3d (l:List Zk):Int:=if X1 1 4 [(l.length:Int)] then 3 else X4e (-1) l
def X5N (b:ZB) (m w:Int):Int:=if X1 (-m) m [b.X.Lo,b.X.Hi,b.Y.Lo,b.Y.Hi] then 7 else if X1 0 w [b.X.Hi-b.X.Lo,b.Y.Hi-b.Y.Lo] then 2 else 0

theorem X11 (n lo hi:Int):inN n lo hi = !X1 lo hi [n]:=by
 simp only [inN,X3K,X5U,Bool.or_false,Bool.not_or]
 congr 1<;>rw [←decide_not,decide_eq_decide]<;>omega

theorem X4B (m:Int) (hm:0≤m∧m≤1000000) (l:List Zu) (hl:l.length<1000000):X3J m l=some (l.any (X2b m)):=by
 have hm1:IntKind.wrap .i64 (0-m) = -m:=by rw [w64]<;>omega
 have key:=X4 (X19 (↑l.length) l m) (fun o7=>Sum.elim (fun y8:Int×Zu×(List Int)=>some (decide (y8.fst≥0))) (fun _=>some (decide ((-1:Int)≥0))) o7) l.length (fun i (_:Unit)=>(i:Int)) (fun _ _=>True) (fun i _=>some ((l.drop i).any (X2b m)))
  (by
   intro b _ R
   simp [X19,X1f])
  (by
   intro i b hi _ R hR
   have hR':=hR () trivial
   simp only [X19,X1f]
   rw [List.drop_eq_getElem_cons hi]
   have hw:IntKind.wrap .i64 ((i:Int)+1)=((i+1:Nat):Int):=by rw [w64]<;>omega
   simp only [Int.toNat_natCast,X0 _ _ _ hi,List.any_cons,hm1,hw]
   rw [WJ _ _ _ (by simp)]
   have h1:decide ((i:Int)<↑l.length)=true:=by simp [hi]
   have h2:decide ((0:Int)≤↑i)=true:=by simp
   simp only [h1,h2,Bool.and_self,cond_true,Option.bind_some]
   change Option.bind (bif X2b m l[i] then _ else _) _=_
   cases h3:X2b m l[i]
   ·simp;exact hR'
   ·simp)
 exact (key 0 () (by omega) trivial).trans (by simp)

theorem X4W (p:Zu) (m:Int) (hm:0≤m∧m≤1000000):X2r p m=some (!X2b m p):=by
 have hm1:IntKind.wrap .i64 (0-m) = -m:=by rw [w64]<;>omega
 unfold X2r
 rw [X1n,X1n,hm1,X11,X11]
 simp only [Option.bind_some,X2b,X3K,X5U,Bool.or_false]
 cases (decide (p.X < -m)||decide (p.X>m))<;>simp

theorem X6k (l:List Zk):X2W l=some (X3d l):=by
 unfold X2W X3d
 rw [WJ _ _ _ (by simp)]
 simp only [Option.bind_some]
 cases hb:X1 1 4 [(l.length:Int)]
 ·simp only [cond_false,Bool.false_eq_true,if_false]
  have hl:1≤l.length∧l.length≤4:=by simp at hb;omega
  exact X4 (XW (↑l.length) l [↑l.length]) _ l.length (fun i (b:Int)=>(b,(i:Int))) (fun _ _=>True) (fun i b=>some (X4e b (l.drop i)))
   (by
    intro b _ R
    simp [XW,W5,X4e])
   (by
    intro i b hi _ R hR
    have hR':=hR (l[i].Day) trivial
    simp only [XW,W5]
    rw [List.drop_eq_getElem_cons hi]
    have hw:IntKind.wrap .i64 ((i:Int)+1)=((i+1:Nat):Int):=by rw [w64]<;>omega
    simp only [Int.toNat_natCast,X0 _ _ _ hi,X4e,hw]
    rw [WJ _ _ _ (by simp),WJ _ _ _ (by simp)]
    have h1:decide ((i:Int)<↑l.length)=true:=by simp [hi]
    have h2:decide ((0:Int)≤↑i)=true:=by simp
    simp only [h1,h2,Bool.and_self,cond_true,Option.bind_some]
    cases h3:X1 0 40000 [l[i].Day]
    ·cases h4:X1 0 4 [l[i].Colour]
     ·by_cases h5:l[i].Day≤b
      ·simp [h5]
      ·simp [h5];exact hR'
     ·simp
    ·simp) 0 (-1) (by omega) trivial
 ·simp

theorem X6n (l:List Zk):X2s l=some (X3d l):=by
 unfold X2s X3d
 rw [X1n,X11]
 simp only [Option.bind_some]
 cases hb:X1 1 4 [(l.length:Int)]
 ·simp only [Bool.not_false,Bool.not_true,cond_false,Bool.false_eq_true,if_false]
  have hl:1≤l.length∧l.length≤4:=by simp at hb;omega
  exact X4 (W0 l) _ l.length (fun i (_:Int)=>(i:Int)) (fun i b=>b=if i=0 then -1 else (l.getD (i-1) ⟨0,0⟩).Day) (fun i b=>some (X4e b (l.drop i)))
   (by
    intro b _ R
    simp [W0,W9,X4e])
   (by
    intro i b hi hP R hR
    have hR':=hR (l[i].Day) (by simp [List.getD,hi])
    simp only [W0,W9]
    rw [List.drop_eq_getElem_cons hi]
    have hw:IntKind.wrap .i64 ((i:Int)+1)=((i+1:Nat):Int):=by rw [w64]<;>omega
    have hw1:IntKind.wrap .i64 ((i:Int)-1)=((i:Int)-1):=by rw [w64]<;>omega
    simp only [Int.toNat_natCast,X0 _ _ _ hi,X4e,hw,hw1]
    rw [X1n,X1n,X11,X11]
    have h1:decide ((i:Int)<↑l.length)=true:=by simp [hi]
    have h2:decide ((0:Int)≤↑i)=true:=by simp
    simp only [h1,h2,Bool.and_self,cond_true,Option.bind_some]
    cases h3:X1 0 40000 [l[i].Day]
    ·cases h4:X1 0 4 [l[i].Colour]
     ·by_cases h0:i=0
      ·subst h0
       simp at hP h3
       have h5:¬ l[0].Day≤b:=by omega
       simp [h5];simpa using hR'
      ·have e7:(0:Int)≤(i:Int)-1:=by omega
       have e8:(i:Int)-1<(l.length:Int):=by omega
       have e9:((i:Int)-1).toNat=i-1:=by omega
       have e10:(i:Int)>0:=by omega
       simp only [e7,e8,e9,e10,decide_true,Bool.and_self,cond_true]
       simp only [h0,if_false] at hP
       rw [←hP]
       by_cases h5:l[i].Day≤b
       ·simp [h5]
       ·simp [h5];exact hR'
     ·simp
    ·simp) 0 (-1) (by omega) (by simp)
 ·simp

theorem X6V (b:ZB) (m:Int) (hm:0≤m∧m≤1000000):X4l b m=some (X5N b m 40):=by
 have hm1:IntKind.wrap .i64 (0-m) = -m:=by rw [w64]<;>omega
 unfold X4l X5N
 rw [WJ _ _ _ (by simp),hm1]
 simp only [Option.bind_some]
 cases hb:X1 (-m) m [b.X.Lo,b.X.Hi,b.Y.Lo,b.Y.Hi]
 ·simp at hb
  have h1:IntKind.wrap .i64 (b.X.Hi-b.X.Lo)=b.X.Hi-b.X.Lo:=by rw [w64]<;>omega
  have h2:IntKind.wrap .i64 (b.Y.Hi-b.Y.Lo)=b.Y.Hi-b.Y.Lo:=by rw [w64]<;>omega
  rw [h1,h2,WJ _ _ _ (by simp)]
  simp only [Option.bind_some,cond_false,Bool.false_eq_true,if_false]
  cases X1 0 40 [b.X.Hi-b.X.Lo,b.Y.Hi-b.Y.Lo]<;>simp
 ·simp

def X2t (lo hi:Int):Int→List ZE→Int
 | e,[]=>e
 | e,s::l=>if X1 lo hi [s.Lo,s.Hi] then 7 else X2t lo hi (if s.Lo>s.Hi then 2 else e) l

theorem X2G (l:List ZE) (lo hi:Int) (hl:l.length<1000000):X1V l lo hi=some (X2t lo hi 0 l):=by
 unfold X1V
 exact X4 (XZ lo l hi) _ l.length (fun i (b:Int)=>(b,(i:Int))) (fun _ _=>True) (fun i b=>some (X2t lo hi b (l.drop i)))
   (by
    intro b _ R
    simp [XZ,W8,X2t])
   (by
    intro i b hi' _ R hR
    simp only [XZ,W8]
    rw [List.drop_eq_getElem_cons hi']
    have hw:IntKind.wrap .i64 ((i:Int)+1)=((i+1:Nat):Int):=by rw [w64]<;>omega
    simp only [Int.toNat_natCast,X0 _ _ _ hi',X2t,hw]
    rw [X1n,X1n,X11,X11]
    have h1:decide ((i:Int)<↑l.length)=true:=by simp [hi']
    have h2:decide ((0:Int)≤↑i)=true:=by simp
    simp only [h1,h2,Bool.and_self,cond_true,Option.bind_some]
    have hsplit:X1 lo hi [l[i].Lo,l[i].Hi]=(X1 lo hi [l[i].Lo]||X1 lo hi [l[i].Hi]):=by simp
    rw [hsplit]
    cases h3:X1 lo hi [l[i].Lo]
    ·cases h4:X1 lo hi [l[i].Hi]
     ·by_cases h5:l[i].Lo>l[i].Hi
      ·have:=hR 2 trivial
       simp only [h5];simp;simpa using this
      ·have:=hR b trivial
       simp only [h5];simp;simpa using this
     ·simp
    ·simp) 0 0 (by omega) trivial

theorem X7B (b:ZB) (m w:Int) (hw:0≤w):(let e:=X2t (-m) m 0 [b.X,b.Y];if e=0 then (if b.X.Hi-b.X.Lo>w then 2 else if b.Y.Hi-b.Y.Lo>w then 2 else 0) else e)=X5N b m w:=by
 simp only [X2t,X5N,X3K,X5U,Bool.or_false]
 generalize b.X.Lo=x,b.X.Hi=X,b.Y.Lo=y,b.Y.Hi=Y
 by_cases a1:x < -m∨x>m∨X < -m∨X>m
 ·have e1:(decide (x < -m)||decide (x>m)||(decide (X < -m)||decide (X>m)))=true:=by simp;omega
  have e2:(decide (x < -m)||decide (x>m)||(decide (X < -m)||decide (X>m)||(decide (y < -m)||decide (y>m)||(decide (Y < -m)||decide (Y>m)))))=true:=by simp;omega
  rw [e1,e2];simp
 ·have e1:(decide (x < -m)||decide (x>m)||(decide (X < -m)||decide (X>m)))=false:=by simp;omega
  rw [e1]
  by_cases a2:y < -m∨y>m∨Y < -m∨Y>m
  ·have e2:(decide (y < -m)||decide (y>m)||(decide (Y < -m)||decide (Y>m)))=true:=by simp;omega
   have e3:(decide (x < -m)||decide (x>m)||(decide (X < -m)||decide (X>m)||(decide (y < -m)||decide (y>m)||(decide (Y < -m)||decide (Y>m)))))=true:=by simp;omega
   rw [e3,e2];simp
  ·have e2:(decide (y < -m)||decide (y>m)||(decide (Y < -m)||decide (Y>m)))=false:=by simp;omega
   have e3:(decide (x < -m)||decide (x>m)||(decide (X < -m)||decide (X>m)||(decide (y < -m)||decide (y>m)||(decide (Y < -m)||decide (Y>m)))))=false:=by simp;omega
   rw [e3,e2]
   simp only [Bool.false_eq_true,if_false]
   by_cases b1:Y<y
   ·have e4:(decide (X-x<0)||decide (X-x>w)||(decide (Y-y<0)||decide (Y-y>w)))=true:=by simp;omega
    rw [e4]
    simp [b1]
   ·by_cases b2:X<x
    ·have e4:(decide (X-x<0)||decide (X-x>w)||(decide (Y-y<0)||decide (Y-y>w)))=true:=by simp;omega
     rw [e4]
     simp [b1,b2]
    ·simp only [gt_iff_lt,b1,b2,if_false]
     by_cases b3:X-x>w
     ·have e4:(decide (X-x<0)||decide (w<X-x)||(decide (Y-y<0)||decide (w<Y-y)))=true:=by simp;omega
      rw [e4];simp;omega
     ·by_cases b4:Y-y>w
      ·have e4:(decide (X-x<0)||decide (w<X-x)||(decide (Y-y<0)||decide (w<Y-y)))=true:=by simp;omega
       rw [e4];simp;omega
      ·have e4:(decide (X-x<0)||decide (w<X-x)||(decide (Y-y<0)||decide (w<Y-y)))=false:=by simp;omega
       rw [e4];simp;omega

theorem X7R (lo hi:Int) (b:ZB) (h:X2t lo hi 0 [b.X,b.Y]=0):lo≤b.X.Lo∧b.X.Hi≤hi∧b.X.Lo≤b.X.Hi∧lo≤b.Y.Lo∧b.Y.Hi≤hi∧b.Y.Lo≤b.Y.Hi:=by
 simp only [X2t,X3K,X5U,Bool.or_false] at h
 split at h
 ·simp at h
 ·split at h
  ·simp at h
  ·rename_i h1 h2
   simp at h1 h2
   split at h
   ·simp at h
   ·split at h
    ·simp at h
    ·omega

theorem X73 (b:ZB) (m:Int) (hm:0≤m∧m≤1000000):X4u b (-m) m=some (X5N b m 40):=by
 unfold X4u
 rw [X2G _ _ _ (by simp)]
 rw [←X7B b m 40 (by omega)]
 simp only [Option.bind_some]
 by_cases h:X2t (-m) m 0 [b.X,b.Y]=0
 ·have hb:=X7R _ _ _ h
  have h1:IntKind.wrap .i64 (b.X.Hi-b.X.Lo)=b.X.Hi-b.X.Lo:=by rw [w64]<;>omega
  have h2:IntKind.wrap .i64 (b.Y.Hi-b.Y.Lo)=b.Y.Hi-b.Y.Lo:=by rw [w64]<;>omega
  rw [h1,h2,h]
  by_cases h3:b.X.Hi-b.X.Lo>40
  ·simp [h3]
  ·by_cases h4:b.Y.Hi-b.Y.Lo>40<;>simp [h3,h4]
 ·have h':(X2t (-m) m 0 [b.X,b.Y]==0)=false:=beq_eq_false_iff_ne.2 h
  rw [h',if_neg h];rfl

end Nore
open Go Go.Ab
namespace Nore

theorem X5c {a b:Int} (A B:Int) (h1 : -A≤a) (h2:a≤A) (h3 : -B≤b) (h4:b≤B) : -(A*B)≤a*b∧a*b≤A*B:=by
 have p1:=Int.mul_nonneg (show 0≤A-a by omega) (show 0≤B+b by omega)
 have p2:=Int.mul_nonneg (show 0≤A+a by omega) (show 0≤B-b by omega)
 have p3:=Int.mul_nonneg (show 0≤A-a by omega) (show 0≤B-b by omega)
 have p4:=Int.mul_nonneg (show 0≤A+a by omega) (show 0≤B+b by omega)
 constructor<;>grind

def X2o (p:Nat→Bool):Nat→Nat→Bool
 | _,0=>true
 | i,k+1=>p i&&X2o p (i+1) k

theorem X66 (p:Nat→Bool) (k i:Nat):X2o p i k=true↔∀ j,i≤j→j<i+k→p j=true:=by
 induction k generalizing i with
 | zero=>simp [X2o];intro j h1 h2;omega
 | succ k ih =>
  simp only [X2o,Bool.and_eq_true,ih]
  constructor
  ·rintro ⟨h1,h2⟩ j h3 h4
   by_cases h:j=i
   ·subst h;exact h1
   ·exact h2 j (by omega) (by omega)
  ·intro h
   exact ⟨h i (by omega) (by omega),fun j h1 h2=>h j (by omega) (by omega)⟩

def Xc (a b:Zu):Zu:=⟨a.X-b.X,a.Y-b.Y⟩
def X13 (a b:Zu):Int:=a.X*b.Y-a.Y*b.X
def P0:Zu:=⟨0,0⟩
def X6K (l:List Zu) (i:Nat):Bool :=
 X2o (fun m=>m==i||m==(i+1) % l.length||decide (0<X13 (Xc (l.getD ((i+1) % l.length) P0) (l.getD i P0)) (Xc (l.getD m P0) (l.getD i P0)))) 0 l.length
def X3g (l:List Zu):Bool:=X2o (X6K l) 0 l.length
def X3z (s:CtSand):Int :=
 if X1 3 8 [(s.Corners.length:Int)] then 3 else if s.Corners.any (X2b 10000) then 7 else if X5N s.Moves 500 40=0 then (if X3g s.Corners then 0 else 9) else X5N s.Moves 500 40

def Bd (A:Int) (p:Zu):Prop := -A≤p.X∧p.X≤A ∧ -A≤p.Y∧p.Y≤A
theorem X4D (A:Int) (p:Zu):X2b A p=false↔Bd A p:=by
 simp [X2b,Bd];omega
theorem X5l {A:Int} {l:List Zu} (h:l.any (X2b A)=false) (i:Nat) (hi:i<l.length):Bd A l[i]:=by
 rw [List.any_eq_false] at h
 rw [←X4D]
 simpa using h l[i] (List.getElem_mem hi)

theorem X6i {a b:Int} (A:Int) (hA:A≤1000000) (h1 : -A≤a∧a≤A) (h2 : -A≤b∧b≤A):IntKind.wrap .i64 (a-b)=a-b:=by rw [w64]<;>omega
theorem X84 {a b c d:Int} (A:Int) (hA:A=2000000) (h1 : -A≤a∧a≤A) (h2 : -A≤b∧b≤A) (h3 : -A≤c∧c≤A) (h4 : -A≤d∧d≤A):IntKind.wrap .i64 (IntKind.wrap .i64 (a*b)-IntKind.wrap .i64 (c*d))=a*b-c*d:=by
 subst hA
 have p:=X5c _ _ h1.1 h1.2 h2.1 h2.2
 have q:=X5c _ _ h3.1 h3.2 h4.1 h4.2
 rw [w64 (x:=a*b),w64 (x:=c*d),w64]<;>omega

theorem X6S (l:List Zu) (hl:3≤l.length∧l.length≤8) (hf:l.any (X2b 10000)=false) (i:Nat) (hi:i<l.length) :
  X1W (i:Int) l (((i+1) % l.length:Nat):Int) 0=some (if X6K l i then .inr () else .inl false):=by
 have hk:(i+1) % l.length<l.length:=Nat.mod_lt _ (by omega)
 unfold X6K
 generalize hkk:(i+1) % l.length=k at *
 have key:=X63 (Wm (i:Int) l (k:Int)) l.length (fun j (_:Unit)=>(j:Int)) (fun _ _=>True) (fun j _=>some (if X2o (fun m=>m==i||m==k||decide (0<X13 (Xc (l.getD k P0) (l.getD i P0)) (Xc (l.getD m P0) (l.getD i P0)))) j (l.length-j) then .inr () else .inl false))
  (by
   intro b _ R
   simp [Wm,WF,X2o])
  (by
   intro m b hm _ R hR
   have hR':=hR () trivial
   rw [show l.length-m=(l.length-(m+1))+1 by omega]
   simp only [X2o]
   simp only [Wm,WF]
   have hw:IntKind.wrap .i64 ((m:Int)+1)=((m+1:Nat):Int):=by rw [w64]<;>omega
   simp only [Int.toNat_natCast,X0 _ _ _ hm,X0 _ _ _ hi,X0 _ _ _ hk,hw]
   have b1:=X5l hf m hm
   have b2:=X5l hf i hi
   have b3:=X5l hf k hk
   unfold Bd at b1 b2 b3
   rw [X6i 10000 (by omega) ⟨b3.1,b3.2.1⟩ ⟨b2.1,b2.2.1⟩,X6i 10000 (by omega) b1.2.2 b2.2.2,X6i 10000 (by omega) b3.2.2 b2.2.2,X6i 10000 (by omega) ⟨b1.1,b1.2.1⟩ ⟨b2.1,b2.2.1⟩]
   rw [X84 2000000 rfl (by omega) (by omega) (by omega) (by omega)]
   have d1:decide ((m:Int)<↑l.length)=true:=by simp [hm]
   have d2:decide ((0:Int)≤↑m)=true:=by simp
   have d3:decide ((i:Int)<↑l.length)=true:=by simp [hi]
   have d4:decide ((0:Int)≤↑i)=true:=by simp
   have d5:decide ((k:Int)<↑l.length)=true:=by simp [hk]
   have d6:decide ((0:Int)≤↑k)=true:=by simp
   simp only [d1,d2,d3,d4,d5,d6,Bool.and_self,cond_true]
   change Option.bind (bif ((m:Int) != ↑i) then bif ((m:Int) != ↑k) then bif decide (X13 (Xc l[k] l[i]) (Xc l[m] l[i])≤0) then _ else _ else _ else _) _=_
   by_cases e1:m=i
   ·have:((m:Int) != (i:Int))=false:=by simp [e1]
    rw [this];simp [e1];simpa [e1,hi,hk] using hR'
   ·have t1:((m:Int) != (i:Int))=true:=by simp;omega
    by_cases e2:m=k
    ·have:((m:Int) != (k:Int))=false:=by simp [e2]
     rw [t1,this];simp [e2];simpa [e2,hi,hk] using hR'
    ·have t2:((m:Int) != (k:Int))=true:=by simp;omega
     rw [t1,t2]
     by_cases e3:X13 (Xc l[k] l[i]) (Xc l[m] l[i])≤0
     ·have t3:¬ 0<X13 (Xc l[k] l[i]) (Xc l[m] l[i]):=by omega
      simp [e1,e2,e3,t3]
     ·have t3:0<X13 (Xc l[k] l[i]) (Xc l[m] l[i]):=by omega
      simp [e1,e2,e3,t3];simpa [hi,hk] using hR')
 have:=key 0 () (by omega) trivial
 simpa [X1W] using this

theorem X6F (l:List Zu) (hl:3≤l.length∧l.length≤8) (hf:l.any (X2b 10000)=false):X3u l=some (X3g l):=by
 unfold X3u X3g
 have key:=X4 (Wl l) (fun o103=>Sum.elim (fun y104:Bool=>some y104) (fun _:Unit=>some true) o103) l.length (fun i (_:Unit)=>(i:Int)) (fun _ _=>True) (fun i _=>some (X2o (X6K l) i (l.length-i)))
  (by
   intro b _ R
   simp [Wl,WE,X2o])
  (by
   intro i b hi _ R hR
   have hR':=hR () trivial
   rw [show l.length-i=(l.length-(i+1))+1 by omega]
   simp only [X2o]
   simp only [Wl,WE]
   have hw:IntKind.wrap .i64 ((i:Int)+1)=((i+1:Nat):Int):=by rw [w64]<;>omega
   have hm:Int.tmod ((i+1:Nat):Int) (l.length:Int)=(((i+1) % l.length:Nat):Int):=rfl
   have d1:decide ((i:Int)<↑l.length)=true:=by simp [hi]
   have d2:((l.length:Int)==0)=false:=by simp;intro h;simp [h] at hl
   simp only [hw,hm,d1,d2,cond_true,cond_false]
   rw [X6S l hl hf i hi]
   simp only [Option.bind_some]
   cases h:X6K l i
   ·simp
   ·simp;simpa using hR')
 exact (key 0 () (by omega) trivial).trans (by simp)

theorem X6Q (s:CtSand):X44 s=some (X3z s):=by
 unfold X44 X3z
 rw [X1n,X11]
 simp only [Option.bind_some]
 cases hb:X1 3 8 [(s.Corners.length:Int)]
 ·have hl:3≤s.Corners.length∧s.Corners.length≤8:=by simp at hb;omega
  simp only [Bool.not_false,Bool.not_true,cond_false,Bool.false_eq_true,if_false]
  have key:=X63 (W1 s) s.Corners.length (fun i (_:Unit)=>(i:Int)) (fun _ _=>True) (fun i _=>some (if (s.Corners.drop i).any (X2b 10000) then .inl 7 else .inr ()))
   (by
    intro b _ R
    simp [W1,WW])
   (by
    intro i b hi _ R hR
    have hR':=hR () trivial
    simp only [W1,WW]
    rw [List.drop_eq_getElem_cons hi]
    have hw:IntKind.wrap .i64 ((i:Int)+1)=((i+1:Nat):Int):=by rw [w64]<;>omega
    simp only [Int.toNat_natCast,X0 _ _ _ hi,List.any_cons,hw]
    rw [X4W _ _ (by omega)]
    have h1:decide ((i:Int)<↑s.Corners.length)=true:=by simp [hi]
    have h2:decide ((0:Int)≤↑i)=true:=by simp
    simp only [h1,h2,Bool.and_self,cond_true,Option.bind_some]
    by_cases h3:X2b 10000 s.Corners[i]=true
    ·simp [h3]
    ·simp [h3];simpa using hR')
  have k0:=key 0 () (by omega) trivial
  simp only [List.drop_zero,Int.natCast_zero] at k0
  unfold X3e
  have k0':Z8S (W1 s) 0=some (if s.Corners.any (X2b 10000) then .inl 7 else .inr ()):=k0
  rw [k0']
  simp only [Option.bind_some]
  cases hf:s.Corners.any (X2b 10000)
  ·simp only [Bool.false_eq_true,if_false,Sum.elim_inr]
   rw [X73 _ _ (by omega),X6F _ hl hf]
   simp only [Option.bind_some]
   by_cases h:X5N s.Moves 500 40=0
   ·rw [h]
    cases X3g s.Corners<;>simp
   ·simp [h,X5M h]
  ·simp
 ·simp

end Nore
open Go Go.Ab
namespace Nore

theorem X8z {α:Type} (P:α→Bool) (l:List α):l.countP P=0↔∀ m,(h:m<l.length)→P l[m]=false:=by
 rw [List.countP_eq_zero]
 constructor
 ·intro h m hm;simpa using h l[m] (List.getElem_mem hm)
 ·intro h a ha
  obtain ⟨m,hm,rfl⟩:=List.getElem_of_mem ha
  simp [h m hm]

theorem X8t {α:Type} (P:α→Bool) (l:List α):∀ i,(hi:i<l.length)→P l[i]=true→(l.countP P=1↔∀ m,(h:m<l.length)→m≠i→P l[m]=false):=by
 induction l with
 | nil=>intro i hi;simp at hi
 | cons a t ih =>
  intro i hi hP
  cases i with
  | zero =>
   simp only [List.getElem_cons_zero] at hP
   rw [List.countP_cons_of_pos hP]
   rw [show (t.countP P+1=1)↔t.countP P=0 by omega,X8z]
   constructor
   ·intro h m hm hne
    cases m with
    | zero=>exact absurd rfl hne
    | succ m=>simpa using h m (by simpa using hm)
   ·intro h m hm
    exact h (m+1) (by simpa using hm) (by omega)
  | succ i =>
   simp only [List.getElem_cons_succ] at hP
   have hi':i<t.length:=by simpa using hi
   have hpos:0<t.countP P:=by
    rw [List.countP_pos_iff];exact ⟨t[i],List.getElem_mem hi',hP⟩
   have ih':=ih i hi' hP
   cases ha:P a
   ·rw [List.countP_cons_of_neg (by simp [ha]),ih']
    constructor
    ·intro h m hm hne
     cases m with
     | zero=>simpa using ha
     | succ m=>simpa using h m (by simpa using hm) (by omega)
    ·intro h m hm hne
     exact h (m+1) (by simpa using hm) (by omega)
   ·rw [List.countP_cons_of_pos ha]
    constructor
    ·intro h;omega
    ·intro h
     have:=h 0 (by simp) (by omega)
     simp [ha] at this

theorem X8u {α:Type} (P:α→Bool) (l:List α):∀ i k,(hi:i<l.length)→(hk:k<l.length)→i<k→P l[i]=true→P l[k]=true→(l.countP P=2↔∀ m,(h:m<l.length)→m≠i→m≠k→P l[m]=false):=by
 induction l with
 | nil=>intro i k hi;simp at hi
 | cons a t ih =>
  intro i k hi hk hik hP hQ
  cases k with
  | zero=>omega
  | succ k =>
   simp only [List.getElem_cons_succ] at hQ
   have hk':k<t.length:=by simpa using hk
   cases i with
   | zero =>
    simp only [List.getElem_cons_zero] at hP
    rw [List.countP_cons_of_pos hP]
    rw [show (t.countP P+1=2)↔t.countP P=1 by omega,X8t P t k hk' hQ]
    constructor
    ·intro h m hm hne hne2
     cases m with
     | zero=>exact absurd rfl hne
     | succ m=>simpa using h m (by simpa using hm) (by omega)
    ·intro h m hm hne
     exact h (m+1) (by simpa using hm) (by omega) (by omega)
   | succ i =>
    simp only [List.getElem_cons_succ] at hP
    have hi':i<t.length:=by simpa using hi
    have ih':=ih i k hi' hk' (by omega) hP hQ
    cases ha:P a
    ·rw [List.countP_cons_of_neg (by simp [ha]),ih']
     constructor
     ·intro h m hm hne hne2
      cases m with
      | zero=>simpa using ha
      | succ m=>simpa using h m (by simpa using hm) (by omega) (by omega)
     ·intro h m hm hne hne2
      exact h (m+1) (by simpa using hm) (by omega) (by omega)
    ·have hpos:2≤t.countP P:=by
      have h1:=X8t P t i hi' hP
      have:0<t.countP P:=by
       rw [List.countP_pos_iff];exact ⟨t[i],List.getElem_mem hi',hP⟩
      by_cases e:t.countP P=1
      ·have:=h1.1 e k hk' (by omega)
       simp [hQ] at this
      ·omega
     rw [List.countP_cons_of_pos ha]
     constructor
     ·intro h;omega
     ·intro h
      have:=h 0 (by simp) (by omega) (by omega)
      simp [ha] at this

def X3U (l:List Zu) (a b:Zu):Bool :=
 (l.countP fun p=>decide (X13 (Xc b a) (Xc p a)≤0))==2 && !((b.X-a.X==0)&&(b.Y-a.Y==0))
def X4k (l:List Zu):Zu→List Zu→Bool
 | _,[]=>true
 | last,p::r=>X3U l last p&&X4k l p r

theorem X7M (a b:Zu):X13 (Xc b a) (Xc b a)=0:=by simp [X13,Int.mul_comm]
theorem X7N (a b:Zu):X13 (Xc b a) (Xc a a)=0:=by simp [X13,Xc]

theorem X6Y (l:List Zu) (hl:3≤l.length) (i k:Nat) (hi:i<l.length) (hk:k<l.length) (hne:i≠k) :
  X3U l l[i] l[k]=X2o (fun m=>m==i||m==k||decide (0<X13 (Xc (l.getD k P0) (l.getD i P0)) (Xc (l.getD m P0) (l.getD i P0)))) 0 l.length:=by
 rw [Bool.eq_iff_iff,X66]
 have hPi:decide (X13 (Xc l[k] l[i]) (Xc l[i] l[i])≤0)=true:=by rw [X7N];rfl
 have hPk:decide (X13 (Xc l[k] l[i]) (Xc l[k] l[i])≤0)=true:=by rw [X7M];rfl
 have hc:(l.countP fun p=>decide (X13 (Xc l[k] l[i]) (Xc p l[i])≤0))=2↔∀ m,(h:m<l.length)→m≠i→m≠k→decide (X13 (Xc l[k] l[i]) (Xc l[m] l[i])≤0)=false:=by
  by_cases hik:i<k
  ·exact X8u (fun p=>decide (X13 (Xc l[k] l[i]) (Xc p l[i])≤0)) l i k hi hk hik hPi hPk
  ·have:=X8u (fun p=>decide (X13 (Xc l[k] l[i]) (Xc p l[i])≤0)) l k i hk hi (by omega) hPk hPi
   rw [this]
   constructor
   ·intro h m hm h1 h2;exact h m hm h2 h1
   ·intro h m hm h1 h2;exact h m hm h2 h1
 simp only [X3U,Bool.and_eq_true,beq_iff_eq,hc]
 constructor
 ·rintro ⟨h,_⟩ m _ hm
  have hm':m<l.length:=by omega
  by_cases e1:m=i
  ·simp [e1]
  ·by_cases e2:m=k
   ·simp [e2]
   ·have:=h m hm' e1 e2
    simp only [X0 _ _ _ hm',X0 _ _ _ hi,X0 _ _ _ hk]
    simp at this
    simp [this]
 ·intro h
  have h':∀ m,(hm:m<l.length)→m≠i→m≠k→0<X13 (Xc l[k] l[i]) (Xc l[m] l[i]):=fun m hm e1 e2=>by
   have:=h m (by omega) (by omega)
   simp only [X0 _ _ _ hm,X0 _ _ _ hi,X0 _ _ _ hk] at this
   simpa [e1,e2] using this
  refine ⟨fun m hm e1 e2 => ?_,?_⟩
  ·have:=h' m hm e1 e2
   simp;omega
  ·have:∃ m,m<l.length∧m≠i∧m≠k:=by
    by_cases a0:0≠i∧0≠k
    ·exact ⟨0,by omega,a0⟩
    ·by_cases a1:1≠i∧1≠k
     ·exact ⟨1,by omega,a1⟩
     ·exact ⟨2,by omega,by omega,by omega⟩
   obtain ⟨m,hm,e1,e2⟩:=this
   have:=h' m hm e1 e2
   rw [Bool.not_eq_true',Bool.eq_false_iff]
   intro hz
   simp only [Bool.and_eq_true,beq_iff_eq] at hz
   simp [X13,Xc,hz.1,hz.2] at this

theorem X7A (l:List Zu):∀ k i,i+k=l.length→1≤i→(hi:i-1<l.length)→(X4k l l[i-1] (l.drop i)=true↔∀ j,(h1:i≤j)→(h2:j<l.length)→X3U l l[j-1] l[j]=true):=by
 intro k
 induction k with
 | zero =>
  intro i hk h1 hi
  rw [List.drop_eq_nil_of_le (by omega)]
  simp [X4k]
  intro j h1 h2;omega
 | succ k ih =>
  intro i hk h1 hi
  have hi2:i<l.length:=by omega
  rw [List.drop_eq_getElem_cons hi2]
  simp only [X4k,Bool.and_eq_true]
  have:=ih (i+1) (by omega) (by omega) (by omega)
  simp only [Nat.add_sub_cancel] at this
  rw [this]
  constructor
  ·rintro ⟨g,h⟩ j a b
   by_cases e:j=i
   ·subst e;exact g
   ·exact h j (by omega) b
  ·intro h
   exact ⟨h i (by omega) hi2,fun j a b=>h j (by omega) b⟩

theorem X7o (l:List Zu) (hl:3≤l.length):X4k l (l.getD (l.length-1) P0) l=X3g l:=by
 rw [Bool.eq_iff_iff]
 have e:X4k l (l.getD (l.length-1) P0) l=(X3U l l[l.length-1] l[0]&&X4k l l[1-1] (l.drop 1)):=by
  conv=>lhs;rw [show l=l[0]::l.drop 1 by rw [←List.drop_eq_getElem_cons (by omega)];rfl]
  rw [←show l=l[0]::l.drop 1 by rw [←List.drop_eq_getElem_cons (by omega)];rfl]
  rw [X0 _ _ _ (by omega)]
  conv=>lhs;arg 3;rw [show l=l[0]::l.drop 1 by rw [←List.drop_eq_getElem_cons (by omega)];rfl]
  rfl
 rw [e]
 simp only [Bool.and_eq_true]
 rw [X7A l (l.length-1) 1 (by omega) (by omega) (by omega)]
 unfold X3g
 rw [X66]
 have hside:∀ i,(hi:i<l.length)→X6K l i=X3U l l[i] (l[(i+1) % l.length]'(Nat.mod_lt _ (by omega))):=fun i hi=>by
  have hk:(i+1) % l.length<l.length:=Nat.mod_lt _ (by omega)
  have hne:i≠(i+1) % l.length:=by
   by_cases h:i+1<l.length
   ·rw [Nat.mod_eq_of_lt h];omega
   ·have:i+1=l.length:=by omega
    rw [this,Nat.mod_self];omega
  rw [X6Y l hl i _ hi hk hne]
  rfl
 constructor
 ·rintro ⟨h0,h⟩ i _ hi
  have hi':i<l.length:=by omega
  rw [hside i hi']
  by_cases hh:i+1<l.length
  ·have:=h (i+1) (by omega) hh
   simp only [Nat.mod_eq_of_lt hh]
   simpa using this
  ·have e1:i=l.length-1:=by omega
   subst e1
   simp only [show l.length-1+1=l.length by omega,Nat.mod_self]
   exact h0
 ·intro h
  constructor
  ·have:=h (l.length-1) (by omega) (by omega)
   rw [hside _ (by omega)] at this
   simpa only [show l.length-1+1=l.length by omega,Nat.mod_self] using this
  ·intro j h1 h2
   have:=h (j-1) (by omega) (by omega)
   rw [hside _ (by omega)] at this
   simpa only [show j-1+1=j by omega,Nat.mod_eq_of_lt h2] using this

theorem X6j (l:List Zu) (hl:l.length≤8) (hf:l.any (X2b 10000)=false) (x4:Z8) (x5:Bool) (x6:Int) (x7:Bool) (x8:Z8) (x9:Bool) (x10:Int) (x11:Z8) (s:Z6) (a b:Zu) (ha:Bd 10000 a) (hb:Bd 10000 b) (hs:s=⟨a,Xc b a⟩) :
  Wc (↑l.length) l x4 x5 x6 x7 x8 x9 x10 x11 s (0,0)=some ((l.countP fun p=>decide (X13 (Xc b a) (Xc p a)≤0):Nat):Int):=by
 subst hs
 unfold Bd at ha hb
 have key:=X63 (Xe (↑l.length) l x4 x5 x6 x7 x8 x9 x10 x11 ⟨a,Xc b a⟩) l.length (fun i (c:Nat)=>((c:Int),(i:Int))) (fun i c=>c≤i) (fun i c=>some (((c+(l.drop i).countP fun p=>decide (X13 (Xc b a) (Xc p a)≤0):Nat)):Int))
  (by
   intro b _ R
   simp [Xe,Xr])
  (by
   intro i c hi hc R hR
   simp only [Xe,Xr]
   rw [List.drop_eq_getElem_cons hi]
   have hw:IntKind.wrap .i64 ((i:Int)+1)=((i+1:Nat):Int):=by rw [w64]<;>omega
   have hw2:IntKind.wrap .i64 ((c:Int)+1)=((c+1:Nat):Int):=by rw [w64]<;>omega
   have bp:=X5l hf i hi
   unfold Bd at bp
   simp only [Int.toNat_natCast,X0 _ _ _ hi,hw,hw2,Xc]
   rw [X6i 10000 (by omega) bp.2.2 ha.2.2,X6i 10000 (by omega) ⟨bp.1,bp.2.1⟩ ⟨ha.1,ha.2.1⟩]
   rw [X84 2000000 rfl (by omega) (by omega) (by omega) (by omega)]
   have h1:decide ((i:Int)<↑l.length)=true:=by simp [hi]
   have h2:decide ((0:Int)≤↑i)=true:=by simp
   simp only [h1,h2,Bool.and_self,cond_true]
   change Option.bind (bif decide (X13 (Xc b a) (Xc l[i] a)≤0) then _ else _) _=_
   change _=some (((c+List.countP (fun p=>decide (X13 (Xc b a) (Xc p a)≤0)) (l[i]::List.drop (i+1) l):Nat)):Int)
   by_cases h:X13 (Xc b a) (Xc l[i] a)≤0
   ·rw [List.countP_cons_of_pos (by simpa using h)]
    simp only [h,decide_true,cond_true,Option.bind_some,Sum.elim_inl]
    rw [hR (c+1) (by omega)]
    congr 1
    show ((_:Nat):Int)=((_:Nat):Int)
    congr 1
    show c+1+_=c+(_+1)
    simp only [Xc]
    omega
   ·rw [List.countP_cons_of_neg (by simpa using h)]
    simp only [h,decide_false,cond_false,Option.bind_some,Sum.elim_inl]
    rw [hR c (by omega)])
 have:=key 0 0 (by omega) (by omega)
 simpa [Wc] using this

theorem X5p (s:Z8):X1y s=some (X3z s.CtSand):=by
 obtain ⟨s⟩:=s
 unfold X1y X3z
 rw [WJ _ _ _ (by simp)]
 simp only [Option.bind_some]
 cases hb:X1 3 8 [(s.Corners.length:Int)]
 ·have hl:3≤s.Corners.length∧s.Corners.length≤8:=by simp at hb;omega
  simp only [cond_false,Bool.false_eq_true,if_false]
  rw [X4B _ (by omega) _ (by omega)]
  simp only [Option.bind_some]
  cases hf:s.Corners.any (X2b 10000)
  ·simp only [cond_false,Bool.false_eq_true,if_false]
   rw [X6V _ _ (by omega)]
   simp only [Option.bind_some]
   by_cases h:X5N s.Moves 500 40=0
   ·have hw:IntKind.wrap .i64 ((s.Corners.length:Int)-1)=(s.Corners.length:Int)-1:=by rw [w64]<;>omega
    have ht:((s.Corners.length:Int)-1).toNat=s.Corners.length-1:=by omega
    have h1:decide ((0:Int)≤(s.Corners.length:Int)-1)=true:=by simp;omega
    have h2:decide ((s.Corners.length:Int)-1<(s.Corners.length:Int))=true:=by simp;omega
    simp only [h,hw,ht,h1,h2,bne_self_eq_false,cond_false,Bool.and_self,cond_true,if_true]
    rw [←X7o _ hl.1]
    have hlast:Bd 10000 (s.Corners.getD (s.Corners.length-1) P0):=by
     rw [X0 _ _ _ (by omega)];exact X5l hf _ (by omega)
    refine (X4 (Xd (↑s.Corners.length) s.Corners ⟨s⟩ false 0 false ⟨s⟩ false 0 ⟨s⟩ [(↑s.Corners.length:Int)]) _ s.Corners.length (fun i (b:Zu)=>((i:Int),b)) (fun _ b=>Bd 10000 b) (fun i b=>some (if X4k s.Corners b (s.Corners.drop i) then 0 else 9)) ?_ ?_ 0 _ (by omega) hlast).trans (by simp)
    ·intro b _ R
     simp [Xd,Xq,X4k]
    ·intro i b hi hP R hR
     have bp:=X5l hf i hi
     have hR':=hR s.Corners[i] bp
     simp only [Xd,Xq]
     rw [List.drop_eq_getElem_cons hi]
     have hw:IntKind.wrap .i64 ((i:Int)+1)=((i+1:Nat):Int):=by rw [w64]<;>omega
     simp only [Int.toNat_natCast,X0 _ _ _ hi,hw,X4k]
     have bp':=bp
     have hP':=hP
     unfold Bd at bp' hP'
     rw [X6i 10000 (by omega) bp'.2.2 hP'.2.2,X6i 10000 (by omega) ⟨bp'.1,bp'.2.1⟩ ⟨hP'.1,hP'.2.1⟩]
     rw [X6j s.Corners hl.2 hf _ _ _ _ _ _ _ _ ⟨⟨b.X,b.Y⟩,⟨s.Corners[i].X-b.X,s.Corners[i].Y-b.Y⟩⟩ b s.Corners[i] hP bp rfl]
     have h1:decide ((i:Int)<↑s.Corners.length)=true:=by simp [hi]
     have h2:decide ((0:Int)≤↑i)=true:=by simp
     simp only [h1,h2,Bool.and_self,cond_true,Option.bind_some]
     have hg:X3U s.Corners b s.Corners[i]=((s.Corners.countP fun p=>decide (X13 (Xc s.Corners[i] b) (Xc p b)≤0))==2 && !((s.Corners[i].X-b.X==0)&&(s.Corners[i].Y-b.Y==0))):=rfl
     generalize (s.Corners.countP fun p=>decide (X13 (Xc s.Corners[i] b) (Xc p b)≤0))=c at hg ⊢
     by_cases h3:c=2
     ·subst h3
      cases h4:(s.Corners[i].X-b.X==0)
      ·simp only [h4,Bool.false_and,Bool.not_false,Bool.and_true,beq_self_eq_true] at hg
       simp [hg];simpa using hR'
      ·cases h5:(s.Corners[i].Y-b.Y==0)
       ·simp only [h4,h5,Bool.and_false,Bool.not_false,Bool.and_true,beq_self_eq_true] at hg
        simp [hg];simpa using hR'
       ·simp only [h4,h5,Bool.and_self,Bool.not_true,Bool.and_false] at hg
        simp [hg]
     ·have h3':(((c:Nat):Int) != 2)=true:=by simp;omega
      have h3'':(c==2)=false:=by simp [h3]
      rw [h3'',Bool.false_and] at hg
      simp [h3',hg]
   ·rw [X1r h,if_neg h];rfl
  ·simp
 ·simp

end Nore
open Go Go.Ab
namespace Nore

theorem Z7X (a b:ByteArray):(a==b)=(a.data==b.data):=by cases a;cases b;rfl
instance:LawfulBEq ByteArray where
 rfl:=by intro a;rw [Z7X];simp
 eq_of_beq:=by
  intro a b h
  rw [Z7X] at h
  have:=eq_of_beq h
  cases a;cases b
  simp only at this
  rw [this]
instance:DecidableEq ByteArray:=fun a b=>if h:(a==b)=true then isTrue (eq_of_beq h) else isFalse (fun e=>h (by rw [e];simp))

theorem X5K {v:Int} (s k:ByteArray):∀ m:List (ByteArray×Int),Z8z (fun a b=>a==b) s (Zgh (fun a b=>a==b) k v m)=if s=k then some v else Z8z (fun a b=>a==b) s m
 | []=>by
  by_cases h:s=k
  ·simp [Zgh,Z8z,h]
  ·have h':(s==k)=false:=beq_eq_false_iff_ne.2 h
   simp [Zgh,Z8z,h,h']
 | (k',v')::m=>by
  have ih:=X5K s k m (v:=v)
  simp only [Zgh]
  by_cases h1:k=k'
  ·subst h1
   simp only [beq_self_eq_true,cond_true,Z8z]
   by_cases h:s=k
   ·simp [h]
   ·have h':(s==k)=false:=beq_eq_false_iff_ne.2 h
    simp [h,h']
  ·have:(k==k')=false:=by simp [h1]
   simp only [this,cond_false,Z8z]
   by_cases h2:s=k'
   ·subst h2
    have h3:s≠k:=fun h=>h1 h.symm
    simp [h3]
   ·have:(s==k')=false:=by simp [h2]
    simp only [this,cond_false,ih]

def WU (s:ByteArray) (names:List ByteArray):Int:=if X5e s then (if s∈names then 5 else 0) else 6

theorem X5L {a b:ByteArray} (h:a.toList=b.toList):a=b:=by
 cases a;cases b
 simp only [ByteArray.toList_eq] at h
 congr 1
 exact Array.ext' h

theorem X41 (s:ByteArray) (names:List ByteArray) (hl:names.length<1000000):X2m s names=some (WU s names):=by
 unfold X2m WU
 rw [X6P]
 simp only [Option.bind_some]
 cases X5e s
 ·simp
 ·simp only [Bool.not_true,cond_false,if_true]
  unfold X4g
  have key:=X4 (XO s names) (fun o78=>Option.bind (Sum.elim (fun y79:Int=>some y79) (fun _:Unit=>some (-1)) o78) fun r82=>bif decide (r82≥0) then some (5:Int) else some 0) names.length (fun i (_:Unit)=>(i:Int)) (fun _ _=>True) (fun i _=>some (if s∈names.drop i then 5 else 0))
   (by
    intro b _ R
    simp [XO,WD])
   (by
    intro i b hi _ R hR
    have hR':=hR () trivial
    simp only [XO,WD]
    rw [List.drop_eq_getElem_cons hi]
    have hw:IntKind.wrap .i64 ((i:Int)+1)=((i+1:Nat):Int):=by rw [w64]<;>omega
    simp only [Int.toNat_natCast,X0 _ _ _ hi,hw]
    have h1:decide ((i:Int)<↑names.length)=true:=by simp [hi]
    have h2:decide ((0:Int)≤↑i)=true:=by simp
    simp only [h1,h2,Bool.and_self,cond_true]
    by_cases h:names[i]=s
    ·simp [h]
    ·have h':(names[i].toList==s.toList)=false:=by
      simp only [beq_eq_false_iff_ne];intro hh;exact h (X5L hh)
     have h'':¬ s=names[i]:=fun hh=>h hh.symm
     simp only [h',cond_false,Option.bind_some,Sum.elim_inl,List.mem_cons,h'',false_or]
     exact hR')
  have:=key 0 () (by omega) trivial
  simp only [List.drop_zero] at this
  rw [←this]
  show Option.bind (Option.bind _ _) _=Option.bind _ _
  unfold X2K
  simp only [Int.natCast_zero]
  cases Z8S (XO s names) 0<;>rfl

def X2v (m:Zw) (names:List ByteArray):Int:=if WU m.Name names=0 then (if X2b 30000 m.At then 7 else X3d m.Paints) else WU m.Name names
def X3y (s:CtSand) (names:List ByteArray):Int:=if WU s.Name names=0 then X3z s else WU s.Name names
def X2N:Nat→List ByteArray→List CtSand→Int×Int×Int
 | _,_,[]=>(0,0,0)
 | i,names,s::l=>if X3y s names=0 then X2N (i+1) (names++[s.Name]) l else (2,(i:Int),X3y s names)
def X2k (sands:List CtSand):Nat→List ByteArray→List Zw→Int×Int×Int
 | _,names,[]=>if 4<sands.length then (2,0,3) else X2N 0 names sands
 | i,names,m::l=>if X2v m names=0 then X2k sands (i+1) (names++[m.Name]) l else (1,(i:Int),X2v m names)
def X2e (c:Zl):Int×Int×Int:=if 8<c.Marks.length then (1,0,3) else X2k c.Sands 0 [] c.Marks

def Z2P (m:List (ByteArray×Int)) (names:List ByteArray):Prop:=∀ s,Option.getD (Z8z (fun a b=>a==b) s m) 0=if s∈names then 1 else 0

theorem X7g {m:List (ByteArray×Int)} {names:List ByteArray} (h:Z2P m names) (s:ByteArray) (hs:s∉names):Z2P (Zgh (fun a b=>a==b) s (IntKind.wrap .i64 (Option.getD (Z8z (fun a b=>a==b) s m) 0+1)) m) (names++[s]):=by
 intro t
 rw [X5K,h s,if_neg hs]
 by_cases e:t=s
 ·simp [e];rfl
 ·simp [e];simpa using h t

theorem X6y {m:List (ByteArray×Int)} {names:List ByteArray} (h:Z2P m names) (s:ByteArray):decide (Option.getD (Z8z (fun a b=>a==b) s (Zgh (fun a b=>a==b) s (IntKind.wrap .i64 (Option.getD (Z8z (fun a b=>a==b) s m) 0+1)) m)) 0>1)=decide (s∈names):=by
 rw [X5K,h s]
 simp only [if_true,Option.getD_some]
 by_cases e:s∈names
 ·simp only [e,if_true];rfl
 ·simp only [e,if_false];rfl

theorem X7d (c:Zl) (hl:c.Sands.length≤4) (m:List (ByteArray×Int)) (names:List ByteArray) (hm:Z2P m names) (k:_→Option (Int×Int×Int))
  (hk:k=fun o56=>Sum.elim (fun (y57:Int×Int×Int×(List (ByteArray×Int))×CtSand)=>some (y57.snd.snd.fst,y57.fst,y57.snd.fst)) (fun y58=>Sum.elim (fun (y59:Int×Int×Int×(List (ByteArray×Int))×CtSand)=>some (y59.snd.snd.fst,y59.fst,y59.snd.fst)) (fun y60=>Sum.elim (fun (y61:Int×Int×Int×(List (ByteArray×Int))×CtSand)=>some (y61.snd.snd.fst,y61.fst,y61.snd.fst)) (fun (_:List (ByteArray×Int))=>some (0,0,0)) y60) y58) o56) :
  Option.bind (X1K (↑c.Sands.length) c.Sands c (0,m)) k=some (X2N 0 names c.Sands):=by
 subst hk
 unfold X1K
 exact X4 (Wb (↑c.Sands.length) c.Sands c) _ c.Sands.length (fun i (b:List (ByteArray×Int)×List ByteArray)=>((i:Int),b.1)) (fun _ b=>Z2P b.1 b.2) (fun i b=>some (X2N i b.2 (c.Sands.drop i)))
  (by
   intro b _ R
   simp [Wb,Wu,X2N])
  (by
   intro i b hi hP R hR
   simp only [Wb,Wu]
   rw [List.drop_eq_getElem_cons hi]
   have hw:IntKind.wrap .i64 ((i:Int)+1)=((i+1:Nat):Int):=by rw [w64]<;>omega
   simp only [Int.toNat_natCast,X0 _ _ _ hi,hw,X2N]
   rw [X4j,X5p,X6y hP]
   have h1:decide ((i:Int)<↑c.Sands.length)=true:=by simp [hi]
   have h2:decide ((0:Int)≤↑i)=true:=by simp
   simp only [h1,h2,Bool.and_self,cond_true,Option.bind_some]
   by_cases hn:X5e c.Sands[i].Name=true
   ·by_cases he:c.Sands[i].Name∈b.2
    ·have hE:X3y c.Sands[i] b.2=5:=by simp [X3y,WU,hn,he]
     simp [hn,he,hE]
    ·have e0:(⟨c.Sands[i].Name,c.Sands[i].Corners,c.Sands[i].Moves⟩:CtSand)=c.Sands[i]:=rfl
     have hE:X3y c.Sands[i] b.2=X3z c.Sands[i]:=by simp [X3y,WU,hn,he]
     rw [e0]
     simp only [hn,he,Bool.not_true,decide_false,cond_false,hE]
     by_cases hs:X3z c.Sands[i]=0
     ·simp only [hs,bne_self_eq_false,cond_false,if_true,Option.bind_some,Sum.elim_inl]
      exact hR (_,b.2++[c.Sands[i].Name]) (X7g hP _ he)
     ·simp [hs,X1r hs]
   ·have hE:X3y c.Sands[i] b.2=6:=by simp [X3y,WU,hn]
    simp [hn,hE]) 0 (m,names) (by omega) hm

theorem X4Z (c:Zl):X2P c=some (X2e c):=by
 unfold X2P X2e
 by_cases h8:8<c.Marks.length
 ·have:decide ((c.Marks.length:Int)>8)=true:=by simp;omega
  rw [this];simp [h8]
 ·have:decide ((c.Marks.length:Int)>8)=false:=by simp;omega
  rw [this]
  simp only [cond_false,h8,if_false]
  exact X4 (Wa (↑c.Marks.length) c.Marks c) _ c.Marks.length (fun i (b:List (ByteArray×Int)×List ByteArray)=>((i:Int),b.1)) (fun _ b=>Z2P b.1 b.2) (fun i b=>some (X2k c.Sands i b.2 (c.Marks.drop i)))
   (by
    intro b hP R
    simp only [Wa,Wt]
    have h1:decide ((c.Marks.length:Int)<↑c.Marks.length)=false:=by simp
    simp only [h1,cond_false,Option.bind_some,Sum.elim_inr,List.drop_length,X2k]
    by_cases h4:4<c.Sands.length
    ·have:decide ((c.Sands.length:Int)>4)=true:=by simp;omega
     rw [this];simp [h4]
    ·have:decide ((c.Sands.length:Int)>4)=false:=by simp;omega
     rw [this]
     simp only [cond_false,h4,if_false]
     exact X7d c (by omega) _ _ hP _ rfl)
   (by
    intro i b hi hP R hR
    simp only [Wa,Wt]
    rw [List.drop_eq_getElem_cons hi]
    have hw:IntKind.wrap .i64 ((i:Int)+1)=((i+1:Nat):Int):=by rw [w64]<;>omega
    simp only [Int.toNat_natCast,X0 _ _ _ hi,hw,X2k]
    rw [X4j,X6k,X6y hP,X4B _ (by omega) _ (by simp)]
    have h1:decide ((i:Int)<↑c.Marks.length)=true:=by simp [hi]
    have h2:decide ((0:Int)≤↑i)=true:=by simp
    simp only [h1,h2,Bool.and_self,cond_true,Option.bind_some,List.any_cons,List.any_nil,Bool.or_false]
    by_cases hn:X5e c.Marks[i].Name=true
    ·by_cases he:c.Marks[i].Name∈b.2
     ·have hE:X2v c.Marks[i] b.2=5:=by simp [X2v,WU,hn,he]
      simp [hn,he,hE]
     ·by_cases hfar:X2b 30000 c.Marks[i].At=true
      ·have hE:X2v c.Marks[i] b.2=7:=by simp [X2v,WU,hn,he,hfar]
       simp [hn,he,hfar,hE]
      ·have hE:X2v c.Marks[i] b.2=X3d c.Marks[i].Paints:=by simp [X2v,WU,hn,he,hfar]
       simp only [hn,he,hfar,Bool.not_true,decide_false,cond_false,hE]
       by_cases hs:X3d c.Marks[i].Paints=0
       ·simp only [hs,bne_self_eq_false,cond_false,if_true,Option.bind_some,Sum.elim_inl]
        exact hR (_,b.2++[c.Marks[i].Name]) (X7g hP _ he)
       ·simp [hs,X1r hs]
    ·have hE:X2v c.Marks[i] b.2=6:=by simp [X2v,WU,hn]
     simp [hn,hE]) 0 ([],[]) (by omega) (by intro s;simp [Z8z])

theorem X7l (c:Zl) (hl:c.Sands.length≤4) (names:List ByteArray) (hm:names.length≤8) (k:_→Option (Int×Int×Int))
  (hk:k=fun o134=>Sum.elim (fun (y135:Int×Int×Int×(List ByteArray)×(List ByteArray))=>some (y135.snd.snd.fst,y135.fst,y135.snd.fst)) (fun y136=>Sum.elim (fun (y137:Int×Int×Int×(List ByteArray)×(List ByteArray))=>some (y137.snd.snd.fst,y137.fst,y137.snd.fst)) (fun (_:List ByteArray)=>some (0,0,0)) y136) o134) :
  Option.bind (X1U c (0,names)) k=some (X2N 0 names c.Sands):=by
 subst hk
 unfold X1U
 exact X4 (Wk c) _ c.Sands.length (fun i (b:List ByteArray)=>((i:Int),b)) (fun i b=>b.length≤8+i) (fun i b=>some (X2N i b (c.Sands.drop i)))
  (by
   intro b _ R
   simp [Wk,WC,X2N])
  (by
   intro i b hi hP R hR
   simp only [Wk,WC]
   rw [List.drop_eq_getElem_cons hi]
   have hw:IntKind.wrap .i64 ((i:Int)+1)=((i+1:Nat):Int):=by rw [w64]<;>omega
   simp only [Int.toNat_natCast,X0 _ _ _ hi,hw,X2N]
   rw [X41 _ _ (by omega),X6Q]
   have h1:decide ((i:Int)<↑c.Sands.length)=true:=by simp [hi]
   have h2:decide ((0:Int)≤↑i)=true:=by simp
   have h3:Nat.ble ((b.length+[c.Sands[i].Name].length)*(16+1)) 200000000000000=true:=by
    rw [Nat.ble_eq];simp;omega
   simp only [h1,h2,h3,Bool.and_self,cond_true,Option.bind_some]
   by_cases hf:WU c.Sands[i].Name b=0
   ·have hE:X3y c.Sands[i] b=X3z c.Sands[i]:=by simp [X3y,hf]
    simp only [hf,hE,beq_self_eq_true,cond_true]
    by_cases hs:X3z c.Sands[i]=0
    ·simp only [hs,bne_self_eq_false,cond_false,if_true,Option.bind_some,Sum.elim_inl]
     exact hR (b++[c.Sands[i].Name]) (by simp;omega)
    ·simp [hs,X1r hs]
   ·have hE:X3y c.Sands[i] b=WU c.Sands[i].Name b:=by simp [X3y,hf]
    simp [hE,hf,X5M hf,X1r hf]) 0 names (by omega) (by omega)

theorem X6C (c:Zl):X3s c=some (X2e c):=by
 unfold X3s X2e
 by_cases h8:8<c.Marks.length
 ·have:decide ((c.Marks.length:Int)>8)=true:=by simp;omega
  rw [this];simp [h8]
 ·have:decide ((c.Marks.length:Int)>8)=false:=by simp;omega
  rw [this]
  simp only [cond_false,h8,if_false]
  exact X4 (Wj c) _ c.Marks.length (fun i (b:List ByteArray)=>((i:Int),b)) (fun i b=>b.length≤i) (fun i b=>some (X2k c.Sands i b (c.Marks.drop i)))
   (by
    intro b hP R
    simp only [Wj,WB]
    have h1:decide ((c.Marks.length:Int)<↑c.Marks.length)=false:=by simp
    simp only [h1,cond_false,Option.bind_some,Sum.elim_inr,List.drop_length,X2k]
    by_cases h4:4<c.Sands.length
    ·have:decide ((c.Sands.length:Int)>4)=true:=by simp;omega
     rw [this];simp [h4]
    ·have:decide ((c.Sands.length:Int)>4)=false:=by simp;omega
     rw [this]
     simp only [cond_false,h4,if_false]
     exact X7l c (by omega) _ (by omega) _ rfl)
   (by
    intro i b hi hP R hR
    simp only [Wj,WB]
    rw [List.drop_eq_getElem_cons hi]
    have hw:IntKind.wrap .i64 ((i:Int)+1)=((i+1:Nat):Int):=by rw [w64]<;>omega
    simp only [Int.toNat_natCast,X0 _ _ _ hi,hw,X2k]
    rw [X41 _ _ (by omega),X6n,X4W _ _ (by omega)]
    have h1:decide ((i:Int)<↑c.Marks.length)=true:=by simp [hi]
    have h2:decide ((0:Int)≤↑i)=true:=by simp
    have h3:Nat.ble ((b.length+[c.Marks[i].Name].length)*(16+1)) 200000000000000=true:=by
     rw [Nat.ble_eq];simp;omega
    simp only [h1,h2,h3,Bool.and_self,cond_true,Option.bind_some]
    by_cases hf:WU c.Marks[i].Name b=0
    ·by_cases hfar:X2b 30000 c.Marks[i].At=true
     ·have hE:X2v c.Marks[i] b=7:=by simp [X2v,hf,hfar]
      simp [hf,hfar,hE]
     ·have hE:X2v c.Marks[i] b=X3d c.Marks[i].Paints:=by simp [X2v,hf,hfar]
      simp only [hf,hfar,hE,Bool.not_false,Bool.not_true,cond_false,beq_self_eq_true,cond_true]
      by_cases hs:X3d c.Marks[i].Paints=0
      ·simp only [hs,bne_self_eq_false,cond_false,if_true,Option.bind_some,Sum.elim_inl]
       exact hR (b++[c.Marks[i].Name]) (by simp;omega)
      ·simp [hs,X1r hs]
    ·have hE:X2v c.Marks[i] b=WU c.Marks[i].Name b:=by simp [X2v,hf]
     simp [hE,hf,X5M hf,X1r hf]) 0 [] (by omega) (by simp)

end Nore
open Go Go.Ab
namespace Nore

theorem X2 (lo up:Int) (l:List Int) (hl:l.length<1000000):X3 lo up l=some (X1 lo up l):=by
 rw [X57];unfold X1Z
 have key:=X4 (Wi (↑l.length) l up lo) (fun o3=>Sum.elim (fun y4:Int=>some (decide (y4≥0))) (fun _=>some (decide ((-1:Int)≥0))) o3) l.length (fun i (_:Unit)=>(i:Int)) (fun _ _=>True) (fun i _=>some (X1 lo up (l.drop i)))
  (by
   intro b _ R
   simp [Wi,Wz])
  (by
   intro i b hi _ R hR
   have hR':=hR () trivial
   simp only [Wi,Wz]
   rw [List.drop_eq_getElem_cons hi]
   simp only [Int.toNat_natCast,X0 _ _ _ hi,X3K]
   have hw:IntKind.wrap .i64 ((i:Int)+1)=((i+1:Nat):Int):=by rw [w64]<;>omega
   rw [hw]
   have h1:decide ((i:Int)<↑l.length)=true:=by simp [hi]
   have h2:decide ((0:Int)≤↑i)=true:=by simp
   simp only [h1,h2,Bool.and_self,cond_true]
   by_cases h3:l[i]<lo
   ·simp [h3]
   ·by_cases h4:l[i]>up
    ·simp [h3,h4]
    ·simp [h3,h4];exact hR')
 exact (key 0 () (by omega) trivial).trans (by simp)

theorem W3 (n lo hi:Int):X1G n lo hi=some (inN n lo hi):=by
 rw [X6f];unfold X3f inN
 by_cases h:lo≤n<;>simp [h]

def X5q (x:Z5):Int:=if x.Lead then 20 else 4
theorem X6R (x:Z5):X4x x=some (X5q x):=by
 rw [X5X];unfold X2E X5q
 cases x.Lead<;>rfl

def X6a (x:Z5) (names:List ByteArray):Int :=
 if WU x.Name names≠0 then WU x.Name names else if X1 (-X5q x) (X5q x) [x.Off.Lo,x.Off.Hi] then 7 else if x.Off.Lo>x.Off.Hi then 2 else 0

theorem X7u (x:Z5) (l:List Z5) (hl:l.length<1000000) (k:(Int×Z5)⊕Unit→Option Int) (r1 r2:Option Int) (h1:∀ (i:Nat) y,k (.inl ((i:Int),y))=r1) (h2:k (.inr ())=r2) :
  Option.bind (X25 (↑l.length) l x 0) k=if x.Name∈l.map (·.Name) then r1 else r2:=by
 have key:=X4 (XA (↑l.length) l x) k l.length (fun i (_:Unit)=>(i:Int)) (fun _ _=>True) (fun i _=>if x.Name∈(l.drop i).map (·.Name) then r1 else r2)
  (by
   intro b _ R
   simp [XA,XM,h2])
  (by
   intro i b hi _ R hR
   have hR':=hR () trivial
   simp only [XA,XM]
   rw [List.drop_eq_getElem_cons hi]
   simp only [Int.toNat_natCast,X0 _ _ _ hi,List.map_cons,List.mem_cons]
   have hw:IntKind.wrap .i64 ((i:Int)+1)=((i+1:Nat):Int):=by rw [w64]<;>omega
   rw [hw]
   have e1:decide ((i:Int)<↑l.length)=true:=by simp [hi]
   have e2:decide ((0:Int)≤↑i)=true:=by simp
   simp only [e1,e2,Bool.and_self,cond_true]
   by_cases h3:l[i].Name.toList=x.Name.toList
   ·have h4:x.Name=l[i].Name:=X5L h3.symm
    simp [h3,h4,h1]
   ·have h4:¬ x.Name=l[i].Name:=fun e=>h3 (by rw [e])
    have h5:(l[i].Name.toList==x.Name.toList)=false:=beq_eq_false_iff_ne.2 h3
    simp only [h5,cond_false,h4,false_or]
    exact hR')
 exact (key 0 () (by omega) trivial).trans (by simp)

theorem X7v (x:Z5) (l:List Z5) (hl:l.length<1000000) (k:(Int×Z5)⊕Unit→Option Int) (r1 r2:Option Int) (h1:∀ (i:Nat) y,k (.inl ((i:Int),y))=r1) (h2:k (.inr ())=r2) :
  Option.bind (X26 (↑l.length) l x 0) k=if x.Name∈l.map (·.Name) then r1 else r2:=by
 have key:=X4 (XB (↑l.length) l x) k l.length (fun i (_:Unit)=>(i:Int)) (fun _ _=>True) (fun i _=>if x.Name∈(l.drop i).map (·.Name) then r1 else r2)
  (by
   intro b _ R
   simp [XB,XN,h2])
  (by
   intro i b hi _ R hR
   have hR':=hR () trivial
   simp only [XB,XN]
   rw [List.drop_eq_getElem_cons hi]
   simp only [Int.toNat_natCast,X0 _ _ _ hi,List.map_cons,List.mem_cons]
   have hw:IntKind.wrap .i64 ((i:Int)+1)=((i+1:Nat):Int):=by rw [w64]<;>omega
   rw [hw]
   have e1:decide ((i:Int)<↑l.length)=true:=by simp [hi]
   have e2:decide ((0:Int)≤↑i)=true:=by simp
   simp only [e1,e2,Bool.and_self,cond_true]
   by_cases h3:l[i].Name.toList=x.Name.toList
   ·have h4:x.Name=l[i].Name:=X5L h3.symm
    simp [h3,h4,h1]
   ·have h4:¬ x.Name=l[i].Name:=fun e=>h3 (by rw [e])
    have h5:(l[i].Name.toList==x.Name.toList)=false:=beq_eq_false_iff_ne.2 h3
    simp only [h5,cond_false,h4,false_or]
    exact hR')
 exact (key 0 () (by omega) trivial).trans (by simp)

theorem X5I (x:Z5) (l:List Z5) (hl:l.length<1000000):X3b x l=some (X6a x (l.map (·.Name))):=by
 rw [X49];unfold WT X6a WU X5q
 have hw20:IntKind.wrap .i64 (0-20) = -20:=by rw [w64]<;>omega
 have hw4:IntKind.wrap .i64 (0-4) = -4:=by rw [w64]<;>omega
 rw [X4j]
 simp only [Option.bind_some,hw20,hw4]
 cases hb:x.Lead
 ·simp only [cond_false,Bool.false_eq_true,if_false]
  cases hn:X5e x.Name
  ·simp
  ·simp only [Bool.not_true,cond_false,if_true]
   rw [X7v x l hl _ (some 5) (if X1 (-4) 4 [x.Off.Lo,x.Off.Hi] then some 7 else if x.Off.Lo>x.Off.Hi then some 2 else some 0) (fun i y=>by simp) (by
    simp only [Sum.elim_inr]
    rw [X2 _ _ _ (by simp)]
    simp only [Option.bind_some]
    cases X1 (-4) 4 [x.Off.Lo,x.Off.Hi]
    ·by_cases h:x.Off.Lo>x.Off.Hi<;>simp [h]
    ·simp)]
   by_cases hm:x.Name∈l.map (·.Name)
   ·simp [hm]
   ·simp only [hm,if_false,ne_eq,not_true]
    cases X1 (-4) 4 [x.Off.Lo,x.Off.Hi]
    ·by_cases h:x.Off.Lo>x.Off.Hi<;>simp [h]
    ·simp
 ·simp only [cond_true,if_true]
  cases hn:X5e x.Name
  ·simp
  ·simp only [Bool.not_true,cond_false,if_true]
   rw [X7u x l hl _ (some 5) (if X1 (-20) 20 [x.Off.Lo,x.Off.Hi] then some 7 else if x.Off.Lo>x.Off.Hi then some 2 else some 0) (fun i y=>by simp) (by
    simp only [Sum.elim_inr]
    rw [X2 _ _ _ (by simp)]
    simp only [Option.bind_some]
    cases X1 (-20) 20 [x.Off.Lo,x.Off.Hi]
    ·by_cases h:x.Off.Lo>x.Off.Hi<;>simp [h]
    ·simp)]
   by_cases hm:x.Name∈l.map (·.Name)
   ·simp [hm]
   ·simp only [hm,if_false,ne_eq,not_true]
    cases X1 (-20) 20 [x.Off.Lo,x.Off.Hi]
    ·by_cases h:x.Off.Lo>x.Off.Hi<;>simp [h]
    ·simp

def X2U (a:Zt):Int:=if X1 (-30000) 30000 [a.X.Lo,a.X.Hi,a.Y.Lo,a.Y.Hi]||X1 0 1000 [a.Depth.Lo,a.Depth.Hi]||X1 1 4 [a.Ground] then 7 else if a.X.Lo>a.X.Hi∨a.Y.Lo>a.Y.Hi∨a.Depth.Lo>a.Depth.Hi then 2 else 0

theorem X6W (a:Zt):X5Q a=some (X2U a):=by
 rw [X67];unfold X2Y X2U
 rw [X2 _ _ _ (by simp),X2 _ _ _ (by simp),X2 _ _ _ (by simp)]
 simp only [Option.bind_some]
 cases X1 (-30000) 30000 [a.X.Lo,a.X.Hi,a.Y.Lo,a.Y.Hi]
 ·cases X1 0 1000 [a.Depth.Lo,a.Depth.Hi]
  ·cases X1 1 4 [a.Ground]
   ·by_cases h1:a.X.Lo>a.X.Hi
    ·simp [h1]
    ·by_cases h2:a.Y.Lo>a.Y.Hi
     ·simp [h1,h2]
     ·by_cases h3:a.Depth.Lo>a.Depth.Hi<;>simp [h1,h2,h3]
   ·simp
  ·simp
 ·simp

theorem X6m (i:Int) (a:Zt):X3q i a=some (X2U a):=by
 rw [X50];unfold X1X
 rw [X6W];rfl

theorem X8A (lo hi a b c d:Int):X1 lo hi [a,b,c,d]=(X1 lo hi [a,b]||X1 lo hi [c,d]):=by simp [Bool.or_assoc]

theorem X6G (a:Zt):X4L a=some (X2U a):=by
 rw [X5E];unfold X2n X2U X2T
 rw [X2G _ _ _ (by simp),X2G _ _ _ (by simp),W3,X11,X8A]
 simp only [Option.bind_some,X2t]
 cases X1 (-30000) 30000 [a.X.Lo,a.X.Hi]
 ·cases X1 (-30000) 30000 [a.Y.Lo,a.Y.Hi]
  ·cases X1 0 1000 [a.Depth.Lo,a.Depth.Hi]
   ·cases X1 1 4 [a.Ground]
    ·by_cases h1:a.X.Lo>a.X.Hi<;>by_cases h2:a.Y.Lo>a.Y.Hi<;>by_cases h3:a.Depth.Lo>a.Depth.Hi<;>simp [h1,h2,h3]
    ·by_cases h1:a.X.Lo>a.X.Hi<;>by_cases h2:a.Y.Lo>a.Y.Hi<;>by_cases h3:a.Depth.Lo>a.Depth.Hi<;>simp [h1,h2,h3]
   ·by_cases h1:a.X.Lo>a.X.Hi<;>by_cases h2:a.Y.Lo>a.Y.Hi<;>simp [h1,h2]
  ·simp
 ·simp

def X1E:Nat→List ByteArray→List Z5→Int×Int×Int
 | _,_,[]=>(0,0,0)
 | i,names,x::l=>if X6a x names=0 then X1E (i+1) (names++[x.Name]) l else (3,(i:Int),X6a x names)
def X24:Nat→List Zt→Int×Int×Int
 | _,[]=>(0,0,0)
 | i,a::l=>if X2U a=0 then X24 (i+1) l else (4,(i:Int),X2U a)
def WY (f:ZJ):Int×Int×Int :=
 if (X2e f.Chart).2.2≠0 then (1,0,(X2e f.Chart).2.2) else
 if X1 0 40000 [f.Day]||X1 1 500 [f.Step]||X1 0 8 [f.Half] then (2,0,7) else
 if X1 1 4 [(f.Instruments.length:Int)] then (3,0,3) else
 if (X1E 0 [] f.Instruments).2.2≠0 then X1E 0 [] f.Instruments else
 if 6<f.Areas.length then (4,0,3) else X24 0 f.Areas

theorem X77 (l:List Zt) (hl:l.length≤6) (k:(Int×Int×Zt)⊕Unit→Option (Int×Int×Int)) (h1:∀ (i e:Int) y,e≠0→k (.inl (e,i,y))=some (4,i,e)) (h2:k (.inr ())=some (0,0,0)) :
  Option.bind (X3o l (↑l.length) 0) k=some (X24 0 l):=by
 have key:=X4 (X1d l (↑l.length)) k l.length (fun i (_:Unit)=>(i:Int)) (fun _ _=>True) (fun i _=>some (X24 i (l.drop i)))
  (by
   intro b _ R
   simp [X1d,X1i,h2,X24])
  (by
   intro i b hi _ R hR
   have hR':=hR () trivial
   simp only [X1d,X1i]
   rw [List.drop_eq_getElem_cons hi]
   simp only [Int.toNat_natCast,X0 _ _ _ hi,X24]
   have hw:IntKind.wrap .i64 ((i:Int)+1)=((i+1:Nat):Int):=by rw [w64]<;>omega
   rw [hw,X6m]
   have e1:decide ((i:Int)<↑l.length)=true:=by simp [hi]
   have e2:decide ((0:Int)≤↑i)=true:=by simp
   simp only [e1,e2,Bool.and_self,cond_true,Option.bind_some]
   by_cases h3:X2U l[i]=0
   ·simp only [h3,bne_self_eq_false,cond_false,Option.bind_some,Sum.elim_inl,if_true]
    exact hR'
   ·simp [h3,X1r h3,h1])
 exact (key 0 () (by omega) trivial).trans (by simp)
theorem X78 (l:List Zt) (hl:l.length≤6) (k:(Int×Int×Zt)⊕Unit→Option (Int×Int×Int)) (h1:∀ (i e:Int) y,e≠0→k (.inl (e,i,y))=some (4,i,e)) (h2:k (.inr ())=some (0,0,0)) :
  Option.bind (X2p l (↑l.length) 0) k=some (X24 0 l):=X77 l hl k h1 h2

theorem X7w (f:ZJ) (hl:f.Instruments.length≤4) (k:(Int×Int×Z5×Z5)⊕Unit→Option (Int×Int×Int)) (r:Option (Int×Int×Int)) (h1:∀ (i e:Int) y y',e≠0→k (.inl (e,i,y,y'))=some (3,i,e)) (h2:k (.inr ())=r) :
  Option.bind (X3n f.Instruments (↑f.Instruments.length) f 0) k=if (X1E 0 [] f.Instruments).2.2≠0 then some (X1E 0 [] f.Instruments) else r:=by
 have key:=X4 (X1c f.Instruments (↑f.Instruments.length) f) k f.Instruments.length (fun i (_:Unit)=>(i:Int)) (fun _ _=>True) (fun i _=>if (X1E i ((f.Instruments.take i).map (·.Name)) (f.Instruments.drop i)).2.2≠0 then some (X1E i ((f.Instruments.take i).map (·.Name)) (f.Instruments.drop i)) else r)
  (by
   intro b _ R
   simp [X1c,X1h,h2,X1E])
  (by
   intro i b hi _ R hR
   have hR':=hR () trivial
   simp only [X1c,X1h]
   rw [List.drop_eq_getElem_cons hi]
   rw [←List.take_concat_get hi] at hR'
   simp only [List.concat_eq_append,List.map_append,List.map_cons,List.map_nil] at hR'
   simp only [Int.toNat_natCast,X0 _ _ _ hi,X1E,List.drop_zero]
   have hw:IntKind.wrap .i64 ((i:Int)+1)=((i+1:Nat):Int):=by rw [w64]<;>omega
   rw [hw,X5I _ _ (by simp;omega)]
   have e1:decide ((i:Int)<↑f.Instruments.length)=true:=by simp [hi]
   have e2:decide ((0:Int)≤↑i)=true:=by simp
   have e3:decide ((i:Int)≤↑f.Instruments.length)=true:=by simp;omega
   simp only [e1,e2,e3,Bool.and_self,cond_true,Option.bind_some]
   by_cases h3:X6a f.Instruments[i] ((f.Instruments.take i).map (·.Name))=0
   ·simp only [h3,bne_self_eq_false,cond_false,Option.bind_some,Sum.elim_inl,if_true]
    exact hR'
   ·simp only [X1r h3,cond_true,Option.bind_some,Sum.elim_inr,h1 _ _ _ _ h3,if_neg h3]
    rw [if_pos h3])
 exact (key 0 () (by omega) trivial).trans (by simp)

theorem X6N (f:ZJ):X5m f=some (WY f):=by
 rw [X5O];unfold X2A WY
 rw [X4Z,X2 _ _ _ (by simp),X2 _ _ _ (by simp),X2 _ _ _ (by simp),X2 _ _ _ (by simp)]
 simp only [Option.bind_some]
 by_cases h1:(X2e f.Chart).2.2=0
 ·simp only [h1,bne_self_eq_false,cond_false,ne_eq,not_true,if_false]
  cases X1 0 40000 [f.Day]
  ·cases X1 1 500 [f.Step]
   ·cases X1 0 8 [f.Half]
    ·cases hi:X1 1 4 [(f.Instruments.length:Int)]
     ·have hl:f.Instruments.length≤4:=by simp at hi;omega
      simp only [cond_false,Bool.or_self,Bool.false_eq_true,if_false]
      have ha:(bif decide ((f.Areas.length:Int)>6) then some (4,0,3) else Option.bind (X2p f.Areas (↑f.Areas.length) 0) fun o257↦Sum.elim (fun y258↦bif y258.fst != 0 then some (4,y258.snd.fst,y258.fst) else some ((0:Int),(0:Int),(0:Int))) (fun y259↦some (0,0,0)) o257)=(some (if 6<f.Areas.length then (4,0,3) else X24 0 f.Areas):Option (Int×Int×Int)):=by
       by_cases h6:6<f.Areas.length
       ·have:decide ((f.Areas.length:Int)>6)=true:=by simp;omega
        rw [this];simp [h6]
       ·have:decide ((f.Areas.length:Int)>6)=false:=by simp;omega
        rw [this]
        simp only [cond_false,h6,if_false]
        exact X78 _ (by omega) _ (fun i e y he=>by simp [X1r he]) rfl
      rw [X7w f hl _ _ (fun i e y y' he=>by simp [X1r he]) (by simp only [Sum.elim_inr];exact ha)]
      by_cases h3:(X1E 0 [] f.Instruments).2.2=0<;>simp [h3]
     ·simp
    ·simp
   ·simp
  ·simp
 ·simp [h1,X1r h1]

theorem X6I (f:ZJ) (hl:f.Instruments.length≤4) (k:(Int×Int×Int×List ByteArray×List ByteArray×Z5)⊕((Int×Int×Int×List ByteArray×List ByteArray×Z5)⊕List ByteArray)→Option (Int×Int×Int)) (r:Option (Int×Int×Int))
  (h1:∀ (i e:Int) y y' z,k (.inl (i,e,3,y,y',z))=some (3,i,e)) (h1':∀ (i e:Int) y y' z,k (.inr (.inl (i,e,3,y,y',z)))=some (3,i,e)) (h2:∀ l,k (.inr (.inr l))=r) :
  Option.bind (X2L f (0,[])) k=if (X1E 0 [] f.Instruments).2.2≠0 then some (X1E 0 [] f.Instruments) else r:=by
 have key:=X4 (Wn f) k f.Instruments.length (fun i (b:List ByteArray)=>((i:Int),b)) (fun i b=>b=(f.Instruments.take i).map (·.Name)) (fun i b=>if (X1E i b (f.Instruments.drop i)).2.2≠0 then some (X1E i b (f.Instruments.drop i)) else r)
  (by
   intro b _ R
   simp [Wn,WG,h2,X1E])
  (by
   intro i b hi hb R hR
   have hR':=hR (b++[f.Instruments[i].Name]) (by rw [hb,←List.take_concat_get hi,List.concat_eq_append,List.map_append];rfl)
   have hbl:b.length≤4:=by rw [hb];simp;omega
   simp only [Wn,WG]
   rw [List.drop_eq_getElem_cons hi]
   simp only [Int.toNat_natCast,X0 _ _ _ hi,X1E]
   have hw:IntKind.wrap .i64 ((i:Int)+1)=((i+1:Nat):Int):=by rw [w64]<;>omega
   rw [hw,X41 _ _ (by omega),X6R]
   have e1:decide ((i:Int)<↑f.Instruments.length)=true:=by simp [hi]
   have e2:decide ((0:Int)≤↑i)=true:=by simp
   have e3:Nat.ble ((b.length+[f.Instruments[i].Name].length)*(16+1)) 200000000000000=true:=by
    apply Nat.ble_eq_true_of_le;simp;omega
   have hf:IntKind.wrap .i64 (0-X5q f.Instruments[i]) = -X5q f.Instruments[i]:=by unfold X5q;split<;>(rw [w64]<;>omega)
   simp only [e1,e2,e3,Bool.and_self,cond_true,Option.bind_some,hf,X2T]
   rw [X2G _ _ _ (by simp)]
   unfold X6a
   by_cases h3:WU f.Instruments[i].Name b=0
   ·simp only [h3,beq_self_eq_true,cond_true,ne_eq,not_true,if_false,Option.bind_some,X2t]
    cases ho:X1 (-X5q f.Instruments[i]) (X5q f.Instruments[i]) [f.Instruments[i].Off.Lo,f.Instruments[i].Off.Hi]
    ·by_cases h4:f.Instruments[i].Off.Lo>f.Instruments[i].Off.Hi
     ·simp [h4,h1]
     ·simp only [h4,Bool.false_eq_true,if_false,bne_self_eq_false,cond_false,Option.bind_some,Sum.elim_inl,if_true]
      exact hR'
    ·simp [h1]
   ·have h5:=X1r h3
    simp [h3,X5M h3,h5,h1'])
 exact (key 0 [] (by omega) (by simp)).trans (by simp)

theorem X6H (f:ZJ) (hl:f.Areas.length≤6) (k:(Int×Int×Int)⊕Unit→Option (Int×Int×Int)) (h1:∀ (i e:Int),k (.inl (i,e,4))=some (4,i,e)) (h2:k (.inr ())=some (0,0,0)) :
  Option.bind (X2M f 0) k=some (X24 0 f.Areas):=by
 have key:=X4 (Wo f) k f.Areas.length (fun i (_:Unit)=>(i:Int)) (fun _ _=>True) (fun i _=>some (X24 i (f.Areas.drop i)))
  (by
   intro b _ R
   simp [Wo,WH,h2,X24])
  (by
   intro i b hi _ R hR
   have hR':=hR () trivial
   simp only [Wo,WH]
   rw [List.drop_eq_getElem_cons hi]
   simp only [Int.toNat_natCast,X0 _ _ _ hi,X24]
   have hw:IntKind.wrap .i64 ((i:Int)+1)=((i+1:Nat):Int):=by rw [w64]<;>omega
   rw [hw,X6G]
   have e1:decide ((i:Int)<↑f.Areas.length)=true:=by simp [hi]
   have e2:decide ((0:Int)≤↑i)=true:=by simp
   simp only [e1,e2,Bool.and_self,cond_true,Option.bind_some]
   by_cases h3:X2U f.Areas[i]=0
   ·simp only [h3,bne_self_eq_false,cond_false,Option.bind_some,Sum.elim_inl,if_true]
    exact hR'
   ·simp [h3,X1r h3,h1])
 exact (key 0 () (by omega) trivial).trans (by simp)

theorem X6o (f:ZJ):X4h f=some (WY f):=by
 rw [X5g];unfold X21 WY
 rw [X6C,W3,W3,W3,W3,X11,X11,X11,X11]
 simp only [Option.bind_some,Bool.not_not]
 by_cases h1:(X2e f.Chart).2.2=0
 ·simp only [h1,bne_self_eq_false,cond_false,ne_eq,not_true,if_false]
  cases X1 0 40000 [f.Day]
  ·cases X1 1 500 [f.Step]
   ·cases X1 0 8 [f.Half]
    ·cases hi:X1 1 4 [(f.Instruments.length:Int)]
     ·have hl:f.Instruments.length≤4:=by simp at hi;omega
      simp only [cond_false,Bool.or_self,Bool.false_eq_true,if_false]
      rw [X6I f hl _ (some (if 6<f.Areas.length then (4,0,3) else X24 0 f.Areas)) (fun i e y y' z=>rfl) (fun i e y y' z=>rfl) (fun l=>by
       simp only [Sum.elim_inr]
       by_cases h6:6<f.Areas.length
       ·have:decide ((f.Areas.length:Int)>6)=true:=by simp;omega
        rw [this];simp [h6]
       ·have:decide ((f.Areas.length:Int)>6)=false:=by simp;omega
        rw [this]
        simp only [cond_false,h6,if_false]
        exact X6H f (by omega) _ (fun i e=>rfl) rfl)]
      by_cases h3:(X1E 0 [] f.Instruments).2.2=0<;>simp [h3]
     ·simp
    ·simp
   ·simp
  ·simp
 ·simp [h1,X1r h1]
end Nore
open Go Go.Ab
namespace Nore

def X3Z (d:Int):Int→List Zk→Int
 | c,[]=>c
 | c,p::l=>X3Z d (if p.Day≤d then p.Colour else c) l
def X4t (m:Zw) (d:Int):Int:=X3Z d 0 m.Paints

theorem X6e (d:Int) (p:Zk):∀ (l:List Zk) (c:Int),X3Z d c (l++[p])=if p.Day≤d then p.Colour else X3Z d c l
 | [],c=>rfl
 | q::l,c=>by simp only [List.cons_append,X3Z,X6e d p l]

theorem X5W (m:Zw) (d:Int) (hl:m.Paints.length<1000000):X3p m d=some (X4t m d):=by
 rw [X4v];unfold X1m X4t
 have key:=X4 (XR d m) (fun o=>some o) m.Paints.length (fun i (b:Int)=>(b,(i:Int))) (fun _ _=>True) (fun i b=>some (X3Z d b (m.Paints.drop i)))
  (by
   intro b _ R
   simp [XR,XT,X3Z])
  (by
   intro i b hi _ R hR
   simp only [XR,XT]
   rw [List.drop_eq_getElem_cons hi]
   simp only [Int.toNat_natCast,X0 _ _ _ hi,X3Z]
   have hw:IntKind.wrap .i64 ((i:Int)+1)=((i+1:Nat):Int):=by rw [w64]<;>omega
   rw [hw]
   have e1:decide ((i:Int)<↑m.Paints.length)=true:=by simp [hi]
   have e2:decide ((0:Int)≤↑i)=true:=by simp
   simp only [e1,e2,Bool.and_self,cond_true]
   by_cases h3:m.Paints[i].Day≤d
   ·simp only [h3,decide_true,cond_true,Option.bind_some,Sum.elim_inl,if_true]
    exact hR _ trivial
   ·simp only [h3,decide_false,cond_false,Option.bind_some,Sum.elim_inl,if_false]
    exact hR _ trivial)
 exact key 0 0 (by omega) trivial

theorem X7h (d:Int) (l:List Zk) (hl:l.length<1000000) (k:(Zk×Int×Int)⊕Unit→Option (Zw×Int×Int)) (mk:Zw) (h1:∀ p c e,k (.inl (p,c,e))=some (mk,c,e)) (h2:k (.inr ())=some (mk,0,0)) :
  Option.bind (X1s d l ((l.length:Int)-1)) k=some (mk,X3Z d 0 l,0):=by
 have key:=X4 (XV d l) k l.length (fun i (_:Unit)=>(l.length:Int)-1-i) (fun _ _=>True) (fun i _=>some (mk,X3Z d 0 (l.take (l.length-i)),0))
  (by
   intro b _ R
   have:decide ((l.length:Int)-1-l.length≥0)=false:=by simp;omega
   simp only [XV,W4,this,cond_false,Option.bind_some,Sum.elim_inr,h2]
   simp [X3Z])
  (by
   intro i b hi _ R hR
   have hR':=hR () trivial
   have ht:((l.length:Int)-1-i).toNat=l.length-1-i:=by omega
   have hj:l.length-1-i<l.length:=by omega
   simp only [XV,W4,ht,X0 _ _ _ hj]
   have e1:decide ((l.length:Int)-1-i≥0)=true:=by simp;omega
   have e2:decide ((0:Int)≤(l.length:Int)-1-i)=true:=by simp;omega
   have e3:decide ((l.length:Int)-1-i<l.length)=true:=by simp;omega
   have hw:IntKind.wrap .i64 ((l.length:Int)-1-i-1)=(l.length:Int)-1-((i+1:Nat):Int):=by rw [w64]<;>omega
   simp only [e1,e2,e3,Bool.and_self,cond_true,hw]
   have hs:l.take (l.length-i)=l.take (l.length-(i+1))++[l[l.length-1-i]]:=by
    have:=List.take_concat_get hj
    rw [show l.length-i=l.length-1-i+1 by omega,←this,List.concat_eq_append,show l.length-(i+1)=l.length-1-i by omega]
   rw [hs,X6e]
   by_cases h3:l[l.length-1-i].Day≤d
   ·simp [h3,h1]
   ·simp only [h3,decide_false,cond_false,Option.bind_some,Sum.elim_inl,if_false]
    exact hR')
 have:=key 0 () (by omega) trivial
 unfold X1s
 simpa using this

theorem X7x (l:List Zk) (h:X3d l=0):l.length≤4:=by
 unfold X3d at h
 cases ho:X1 1 4 [(l.length:Int)]
 ·simp at ho;omega
 ·rw [ho] at h;simp at h

theorem X7i (sands:List CtSand):∀ (l:List Zw) (i:Nat) (names:List ByteArray),(X2k sands i names l).2.2=0→∀ m∈l,X2b 30000 m.At=false∧m.Paints.length≤4
 | [],_,_,_,m,hm=>by cases hm
 | x::l,i,names,h,m,hm=>by
  simp only [X2k] at h
  by_cases h0:X2v x names=0
  ·simp only [h0,if_true] at h
   rcases List.mem_cons.1 hm with e|e
   ·subst e
    unfold X2v at h0
    by_cases h1:WU m.Name names=0
    ·simp only [h1,if_true] at h0
     cases hf:X2b 30000 m.At
     ·rw [hf] at h0
      exact ⟨rfl,X7x _ (by simpa using h0)⟩
     ·rw [hf] at h0;simp at h0
    ·simp only [h1,if_false] at h0
   ·exact X7i sands l _ _ h m e
  ·simp only [h0,if_false] at h

structure X12 (f:ZJ):Prop where
 chart:(X2e f.Chart).2.2=0
 marks:f.Chart.Marks.length≤8
 mark:∀ m∈f.Chart.Marks,X2b 30000 m.At=false∧m.Paints.length≤4
 day:0≤f.Day∧f.Day≤40000
 step:1≤f.Step∧f.Step≤500
 half:0≤f.Half∧f.Half≤8
 inst:1≤f.Instruments.length∧f.Instruments.length≤4
 off:∀ x∈f.Instruments,-X5q x≤x.Off.Lo∧x.Off.Lo≤x.Off.Hi∧x.Off.Hi≤X5q x
 areas:f.Areas.length≤6
 area:∀ a∈f.Areas,X2U a=0

theorem X7f:∀ (l:List Z5) (i:Nat) (names:List ByteArray),(X1E i names l).2.2=0→∀ x∈l,-X5q x≤x.Off.Lo∧x.Off.Lo≤x.Off.Hi∧x.Off.Hi≤X5q x
 | [],_,_,_,m,hm=>by cases hm
 | x::l,i,names,h,m,hm=>by
  simp only [X1E] at h
  by_cases h0:X6a x names=0
  ·simp only [h0,if_true] at h
   rcases List.mem_cons.1 hm with e|e
   ·subst e
    unfold X6a at h0
    by_cases h1:WU m.Name names=0
    ·simp only [h1,ne_eq,not_true,if_false] at h0
     cases ho:X1 (-X5q m) (X5q m) [m.Off.Lo,m.Off.Hi]
     ·rw [ho] at h0
      simp at ho h0
      omega
     ·rw [ho] at h0;simp at h0
    ·simp only [ne_eq,h1,not_false_eq_true,if_true] at h0
   ·exact X7f l _ _ h m e
  ·simp only [h0,if_false] at h
theorem X79:∀ (l:List Zt) (i:Nat),(X24 i l).2.2=0→∀ x∈l,X2U x=0
 | [],_,_,m,hm=>by cases hm
 | x::l,i,h,m,hm=>by
  simp only [X24] at h
  by_cases h0:X2U x=0
  ·simp only [h0,if_true] at h
   rcases List.mem_cons.1 hm with e|e
   ·subst e;exact h0
   ·exact X79 l _ h m e
  ·simp only [h0,if_false] at h

theorem X5R {f:ZJ} (h:(WY f).2.2=0):X12 f:=by
 unfold WY at h
 by_cases h1:(X2e f.Chart).2.2=0
 ·simp only [h1,ne_eq,not_true,if_false] at h
  cases h2:(X1 0 40000 [f.Day]||X1 1 500 [f.Step]||X1 0 8 [f.Half])
  ·rw [h2] at h
   cases h3:X1 1 4 [(f.Instruments.length:Int)]
   ·rw [h3] at h
    simp only [Bool.false_eq_true,if_false] at h
    by_cases h4:(X1E 0 [] f.Instruments).2.2=0
    ·simp only [h4,ne_eq,not_true,if_false] at h
     by_cases h5:6<f.Areas.length
     ·rw [if_pos h5] at h;simp at h
     ·rw [if_neg h5] at h
      simp at h2 h3
      have hm:¬ 8<f.Chart.Marks.length:=fun q=>by unfold X2e at h1;rw [if_pos q] at h1;simp at h1
      have h1':=h1
      unfold X2e at h1'
      rw [if_neg hm] at h1'
      exact ⟨h1,by omega,X7i _ _ _ _ h1',by omega,by omega,by omega,by omega,X7f _ _ _ h4,by omega,X79 _ _ h⟩
    ·exfalso
     rw [if_pos h4] at h;exact h4 h
   ·rw [h3] at h;simp at h
  ·rw [h2] at h;simp at h
 ·rw [if_pos h1] at h;exact absurd h h1

theorem X4n {f:ZJ} (hg:X12 f) (mark:Int) (h0:0≤mark) (h1:mark<f.Chart.Marks.length) :
  X2V f.Chart f.Day mark=some (f.Chart.Marks.getD mark.toNat ⟨ByteArray.empty,⟨0,0⟩,[]⟩,X4t (f.Chart.Marks.getD mark.toNat ⟨ByteArray.empty,⟨0,0⟩,[]⟩) f.Day,0):=by
 rw [X4Q];unfold X1x
 have hm:=hg.marks
 have hd:=hg.day
 have hj:mark.toNat<f.Chart.Marks.length:=by omega
 have hp:=(hg.mark _ (List.getElem_mem hj)).2
 have hw:IntKind.wrap .i64 ((f.Chart.Marks.length:Int)-1)=(f.Chart.Marks.length:Int)-1:=by rw [w64]<;>omega
 rw [X4Z,WJ _ _ _ (by simp),WJ _ _ _ (by simp),hw]
 have o1:X1 0 40000 [f.Day]=false:=by simp;omega
 have o2:X1 0 ((f.Chart.Marks.length:Int)-1) [mark]=false:=by simp;omega
 have e1:decide (0≤mark)=true:=by simp [h0]
 have e2:decide (mark<(f.Chart.Marks.length:Int))=true:=by simp [h1]
 simp only [Option.bind_some,hg.chart,bne_self_eq_false,cond_false,o1,o2,e1,e2,Bool.and_self,cond_true,X0 _ _ _ hj]
 have hw2:IntKind.wrap .i64 ((f.Chart.Marks[mark.toNat].Paints.length:Int)-1)=(f.Chart.Marks[mark.toNat].Paints.length:Int)-1:=by rw [w64]<;>omega
 rw [hw2]
 exact X7h f.Day _ (by omega) _ _ (fun p c e=>rfl) rfl

def Z8y (f:ZJ) (mark:Int):Zw:=f.Chart.Marks.getD mark.toNat ⟨ByteArray.empty,⟨0,0⟩,[]⟩
def X2u (f:ZJ) (mark:Int):Bool:=X4t (Z8y f mark) f.Day != 0

theorem X7C {f:ZJ} (hg:X12 f) (mark:Int) (h0:0≤mark) (h1:mark<f.Chart.Marks.length) (l:List Zm) (kit:Nat→Nat) (m:List (Zh×Int)) :
  XP (mark,f,l,kit,m)=some (X2u f mark,f,l,kit,m):=by
 rw [X33];unfold Xx
 rw [X4O];unfold X1w
 rw [X4n hg mark h0 h1]
 rfl

def Kit (f:ZJ) (kit:Nat→Nat):Prop:=∀ i,(h:i<f.Instruments.length)→kit i=if f.Instruments[i].Lead then 2 else 1
def X17 (f:ZJ) (i:Int):Z5:=f.Instruments.getD i.toNat ⟨ByteArray.empty,false,⟨0,0⟩⟩

def Ws (f:ZJ) (x:Zm):Int :=
 if X1 0 ((f.Instruments.length:Int)-1) [x.Instrument] then 4 else
 if (X17 f x.Instrument).Lead then (if X1 0 1000 [x.Shown]||X1 0 4 [x.Ground] then 7 else if x.Mark≠0 then 2 else 0)
 else if X1 0 ((f.Chart.Marks.length:Int)-1) [x.Mark] then 4 else if X2u f x.Mark=false then 9 else if X1 0 31 [x.Shown] then 7 else if x.Ground≠0 then 7 else 0

theorem X7Q {f:ZJ} (hg:X12 f) (x:Zm) (l:List Zm) {kit:Nat→Nat} (hk:Kit f kit) (m:List (Zh×Int)) :
  WQ (x,f,l,kit,m)=some (Ws f x,f,l,kit,m):=by
 rw [X3j];unfold XK Ws
 have hm:=hg.marks
 have hi:=hg.inst
 have hw:IntKind.wrap .i64 ((f.Chart.Marks.length:Int)-1)=(f.Chart.Marks.length:Int)-1:=by rw [w64]<;>omega
 have hw2:IntKind.wrap .i64 ((f.Instruments.length:Int)-1)=(f.Instruments.length:Int)-1:=by rw [w64]<;>omega
 simp only [hw,hw2]
 rw [X2 _ _ _ (by simp),X2 _ _ _ (by simp),X2 _ _ _ (by simp),X2 _ _ _ (by simp),X2 _ _ _ (by simp)]
 simp only [Option.bind_some]
 cases ho:X1 0 ((f.Instruments.length:Int)-1) [x.Instrument]
 ·simp at ho
  have hj:x.Instrument.toNat<f.Instruments.length:=by omega
  have e1:decide (0≤x.Instrument)=true:=by simp;omega
  have e2:decide (x.Instrument<((4:Nat):Int))=true:=by simp;omega
  have e3:Nat.blt x.Instrument.toNat 4=true:=by rw [Tr.blt_dec];simp;omega
  have hkk:=hk _ hj
  have hio:X17 f x.Instrument=f.Instruments[x.Instrument.toNat]:=X0 _ _ _ hj
  rw [hio]
  have e2':decide (x.Instrument<(4:Int))=true:=by simp;omega
  simp only [cond_false,Bool.false_eq_true,if_false,e1,e2,e2',e3,Bool.and_self,cond_true]
  cases hL:f.Instruments[x.Instrument.toNat].Lead
  ·rw [hL] at hkk
   simp only [Bool.false_eq_true,if_false] at hkk
   simp only [hkk,show Nat.beq 1 0=false from rfl,show Nat.beq 1 1=true from rfl,cond_false,cond_true,Bool.false_eq_true,if_false]
   cases hmk:X1 0 ((f.Chart.Marks.length:Int)-1) [x.Mark]
   ·simp at hmk
    simp only [cond_false,Bool.false_eq_true,if_false]
    rw [X7C hg x.Mark (by omega) (by omega)]
    simp only [Option.bind_some]
    cases X2u f x.Mark
    ·simp
    ·cases X1 0 31 [x.Shown]
     ·by_cases h5:x.Ground=0<;>simp [h5,X1r]
     ·simp
   ·simp
  ·rw [hL] at hkk
   simp only [if_true] at hkk
   simp only [hkk,show Nat.beq 2 0=false from rfl,show Nat.beq 2 1=false from rfl,show Nat.beq 2 (1+1)=true from rfl,cond_false,cond_true,if_true]
   cases X1 0 1000 [x.Shown]
   ·cases X1 0 4 [x.Ground]
    ·by_cases h5:x.Mark=0<;>simp [h5,X1r]
    ·simp
   ·simp
 ·simp

theorem X6p {f:ZJ} (hg:X12 f) (x:Zm):X4i f x=some (Ws f x):=by
 rw [X5i];unfold X22 Ws
 have hm:=hg.marks
 have hi:=hg.inst
 have hw:IntKind.wrap .i64 ((f.Chart.Marks.length:Int)-1)=(f.Chart.Marks.length:Int)-1:=by rw [w64]<;>omega
 have hw2:IntKind.wrap .i64 ((f.Instruments.length:Int)-1)=(f.Instruments.length:Int)-1:=by rw [w64]<;>omega
 simp only [hw,hw2]
 rw [W3,W3,W3,W3,W3,X11,X11,X11,X11,X11]
 simp only [Option.bind_some,Bool.not_not]
 cases ho:X1 0 ((f.Instruments.length:Int)-1) [x.Instrument]
 ·simp at ho
  have hj:x.Instrument.toNat<f.Instruments.length:=by omega
  have e1:decide (0≤x.Instrument)=true:=by simp;omega
  have e2:decide (x.Instrument<(f.Instruments.length:Int))=true:=by simp;omega
  have hio:X17 f x.Instrument=f.Instruments[x.Instrument.toNat]:=X0 _ _ _ hj
  rw [hio]
  simp only [cond_false,Bool.false_eq_true,if_false,e1,e2,Bool.and_self,cond_true,X0 _ _ _ hj]
  cases hL:f.Instruments[x.Instrument.toNat].Lead
  ·simp only [cond_false,Bool.false_eq_true,if_false]
   cases hmk:X1 0 ((f.Chart.Marks.length:Int)-1) [x.Mark]
   ·simp at hmk
    have hj2:x.Mark.toNat<f.Chart.Marks.length:=by omega
    have e3:decide (0≤x.Mark)=true:=by simp;omega
    have e4:decide (x.Mark<(f.Chart.Marks.length:Int))=true:=by simp;omega
    have hp:=(hg.mark _ (List.getElem_mem hj2)).2
    simp only [cond_false,Bool.false_eq_true,if_false,e3,e4,Bool.and_self,cond_true,X0 _ _ _ hj2]
    rw [X5W _ _ (by omega)]
    unfold X2u Z8y
    rw [X0 _ _ _ hj2]
    simp only [Option.bind_some]
    by_cases h0:X4t f.Chart.Marks[x.Mark.toNat] f.Day=0
    ·simp [h0]
    ·simp only [X5M h0,X1r h0,cond_false,Bool.true_eq_false,if_false]
     cases X1 0 31 [x.Shown]
     ·by_cases h5:x.Ground=0<;>simp [h5,X1r]
     ·simp
   ·simp
  ·simp only [cond_true,if_true]
   cases X1 0 1000 [x.Shown]
   ·cases X1 0 4 [x.Ground]
    ·by_cases h5:x.Mark=0<;>simp [h5,X1r]
    ·simp
   ·simp
 ·simp

def XS (f:ZJ):Nat→List Zm→Int×Int
 | _,[]=>(0,0)
 | i,x::l=>if Ws f x=0 then XS f (i+1) l else ((i:Int),Ws f x)
def WZ (f:ZJ) (l:List Zm):Int×Int:=if (WY f).2.2≠0 then (0,(WY f).2.2) else if 8<l.length then (0,3) else XS f 0 l

theorem X4X (f:ZJ) (l:List Zm):X2a f l=some (WZ f l):=by
 rw [X3v];unfold XU WZ
 rw [X6o]
 simp only [Option.bind_some]
 by_cases h:(WY f).2.2=0
 ·have hg:=X5R h
  simp only [h,beq_self_eq_true,cond_true,bne_self_eq_false,cond_false,ne_eq,not_true,if_false]
  by_cases h8:8<l.length
  ·have:decide ((l.length:Int)>8)=true:=by simp;omega
   rw [this];simp [h8]
  ·have:decide ((l.length:Int)>8)=false:=by simp;omega
   rw [this]
   simp only [cond_false,h8,if_false]
   exact X4 (Xb l f) _ l.length (fun i (_:Unit)=>(i:Int)) (fun _ _=>True) (fun i _=>some (XS f i (l.drop i)))
    (by
     intro b _ R
     simp [Xb,Xg,XS])
    (by
     intro i b hi _ R hR
     have hR':=hR () trivial
     simp only [Xb,Xg]
     rw [List.drop_eq_getElem_cons hi]
     have hw:IntKind.wrap .i64 ((i:Int)+1)=((i+1:Nat):Int):=by rw [w64]<;>omega
     simp only [Int.toNat_natCast,X0 _ _ _ hi,hw,XS]
     rw [X6p hg]
     have h1:decide ((i:Int)<↑l.length)=true:=by simp [hi]
     have h2:decide ((0:Int)≤↑i)=true:=by simp
     simp only [h1,h2,Bool.and_self,cond_true,Option.bind_some]
     by_cases he:Ws f l[i]=0
     ·simp only [he,bne_self_eq_false,cond_false,Option.bind_some,Sum.elim_inl,if_true]
      exact hR'
     ·simp [he,X1r he]) 0 () (by omega) trivial
 ·simp [h,X1r h,X5M h]

theorem X82 (f:ZJ) (hi:f.Instruments.length≤4):∃ kit,X2I f.Instruments (↑f.Instruments.length) (0,fun _=>0)=some kit∧Kit f kit:=by
 have key:∀ j i (b:Nat→Nat),f.Instruments.length-i=j→i≤f.Instruments.length→(∀ q,(h:q<f.Instruments.length)→q<i→b q=if f.Instruments[q].Lead then 2 else 1) →
   ∃ kit,Z8S (Wg f.Instruments (↑f.Instruments.length)) ((i:Int),b)=some kit∧Kit f kit:=fun j=>by
  induction j with
  | zero =>
   intro i b hj hil hb
   have:i=f.Instruments.length:=by omega
   subst this
   refine ⟨b,?_,fun q hq=>hb q hq hq⟩
   rw [←X2c (Z8S _ _),X3x]
   simp [Wg,Wx]
  | succ j ih =>
   intro i b hj hil hb
   have hlt:i<f.Instruments.length:=by omega
   have hw:IntKind.wrap .i64 ((i:Int)+1)=((i+1:Nat):Int):=by rw [w64]<;>omega
   have e1:decide ((i:Int)<↑f.Instruments.length)=true:=by simp [hlt]
   have e2:decide ((0:Int)≤↑i)=true:=by simp
   have e3:decide ((i:Int)<((4:Nat):Int))=true:=by simp;omega
   have e3':decide ((i:Int)<(4:Int))=true:=by simp;omega
   have e4:Nat.blt i 4=true:=by rw [Tr.blt_dec];simp;omega
   obtain ⟨kit,h1,h2⟩:=ih (i+1) (fun q=>if q=i then (if f.Instruments[i].Lead then 2 else 1) else b q) (by omega) (by omega) (fun q hq hq2=>by
    by_cases e:q=i
    ·subst e;simp
    ·simp only [e,if_false];exact hb q hq (by omega))
   refine ⟨kit,?_,h2⟩
   rw [←X2c (Z8S _ _),X3x]
   simp only [Wg,Wx,Int.toNat_natCast,X0 _ _ _ hlt,hw,e1,e2,e3,e3',e4,Bool.and_self,cond_true]
   have hfun:(fun j=>bif Nat.beq j i then 1+1 else bif Nat.beq j i then 1 else b j)=fun q=>if q=i then 2 else b q:=by
    funext q;rw [Tr.beq_dec];by_cases e:q=i<;>simp [e]
   have hfun2:(fun j=>bif Nat.beq j i then 1 else b j)=fun q=>if q=i then 1 else b q:=by
    funext q;rw [Tr.beq_dec];by_cases e:q=i<;>simp [e]
   rw [hfun,hfun2]
   cases hL:f.Instruments[i].Lead
   ·rw [hL] at h1
    simp only [Bool.false_eq_true,if_false] at h1
    simp only [cond_false,Option.bind_some,Sum.elim_inl]
    rw [X2c];exact h1
   ·rw [hL] at h1
    simp only [if_true] at h1
    simp only [cond_true,Option.bind_some,Sum.elim_inl]
    rw [X2c];exact h1
 exact key _ 0 _ rfl (by omega) (fun q _ h=>by omega)

theorem X7O {f:ZJ} (hg:X12 f) (l:List Zm) (h8:l.length≤8) {kit:Nat→Nat} (hk:Kit f kit) {γ:Type} (k:_→Option γ) :
  Option.bind (X2J l (↑l.length) (0,f,l,kit,[])) k=if (XS f 0 l).2=0 then k (.inr (f,l,kit,[])) else k (.inl ((XS f 0 l).2,(XS f 0 l).1,f,l,kit,l.getD (XS f 0 l).1.toNat ⟨0,0,0,0⟩,l.getD (XS f 0 l).1.toNat ⟨0,0,0,0⟩,[])):=by
 refine (X4 (Wh l (↑l.length)) k l.length (fun i (_:Unit)=>((i:Int),f,l,kit,[])) (fun _ _=>True) (fun i _=>if (XS f i (l.drop i)).2=0 then k (.inr (f,l,kit,[])) else k (.inl ((XS f i (l.drop i)).2,(XS f i (l.drop i)).1,f,l,kit,l.getD (XS f i (l.drop i)).1.toNat ⟨0,0,0,0⟩,l.getD (XS f i (l.drop i)).1.toNat ⟨0,0,0,0⟩,[])))
  (by
   intro b _ R
   simp [Wh,Wy,XS])
  (by
   intro i b hi _ R hR
   have hR':=hR () trivial
   simp only [Wh,Wy]
   rw [List.drop_eq_getElem_cons hi]
   have hw:IntKind.wrap .i64 ((i:Int)+1)=((i+1:Nat):Int):=by rw [w64]<;>omega
   simp only [Int.toNat_natCast,X0 _ _ _ hi,hw,XS]
   rw [X7Q hg _ _ hk]
   have h1:decide ((i:Int)<↑l.length)=true:=by simp [hi]
   have h2:decide ((0:Int)≤↑i)=true:=by simp
   simp only [h1,h2,Bool.and_self,cond_true,Option.bind_some]
   by_cases he:Ws f l[i]=0
   ·simp only [he,bne_self_eq_false,cond_false,Option.bind_some,Sum.elim_inl,if_true]
    exact hR'
   ·simp only [X1r he,cond_true,Option.bind_some,Sum.elim_inr,if_neg he]
    rw [show ((i:Int)).toNat=i from rfl,X0 _ _ _ hi]) 0 () (by omega) trivial).trans (by simp)

theorem X7K (f:ZJ) (l:List Zm):((WY f).2.2≠0∨8<l.length)∧X2q (l,f)=some (.inl (WZ f l).2)∧(WZ f l).2≠0 ∨
  ∃ kit,X12 f∧l.length≤8∧Kit f kit∧X2q (l,f)=some (.inr ((WZ f l).2,f,l,kit,[])):=by
 rw [X4U];unfold X1C
 rw [X55];unfold X1Y
 rw [X6N]
 unfold WZ
 simp only [Option.bind_some]
 by_cases h:(WY f).2.2=0
 ·have hg:=X5R h
  simp only [h,bne_self_eq_false,cond_false,ne_eq,not_true,if_false]
  by_cases h8:8<l.length
  ·have:decide ((l.length:Int)>8)=true:=by simp;omega
   rw [this];simp [h8]
  ·have:decide ((l.length:Int)>8)=false:=by simp;omega
   rw [this]
   simp only [cond_false,h8,if_false]
   obtain ⟨kit,hk1,hk2⟩:=X82 f hg.inst.2
   refine .inr ⟨kit,hg,by omega,hk2,?_⟩
   rw [hk1,Option.bind_some]
   rw [X7O hg l (by omega) hk2]
   by_cases he:(XS f 0 l).2=0<;>simp [he]
 ·left
  simp [h,X1r h]
end Nore
open Go Go.Ab
namespace Nore

theorem X64 {β σ ω γ:Type} (st:σ→Option (σ⊕ω)) (k:ω→Option γ) (n:Nat) (emb:Nat→β→σ) (P:Nat→β→Prop) (Q:Nat→β→Option γ→Prop)
  (hd:∀ b,P n b→∀ R:σ→Option γ,Q n b (Option.bind (st (emb n b)) (Sum.elim R k)))
  (hn:∀ i b,i<n→P i b→∀ R:σ→Option γ,(∀ b',P (i+1) b'→Q (i+1) b' (R (emb (i+1) b')))→Q i b (Option.bind (st (emb i b)) (Sum.elim R k))) :
  ∀ i b,i≤n→P i b→Q i b (Option.bind (Z8S st (emb i b)) k):=by
 intro i b hi hP
 induction hj:n-i generalizing i b with
 | zero =>
  have:i=n:=by omega
  subst this
  rw [X3x];exact hd b hP _
 | succ j ih =>
  rw [X3x]
  exact hn i b (by omega) hP _ fun b' hb'=>ih (i+1) b' (by omega) hb' (by omega)

instance decPoint:DecidableEq Zu:=fun a b=>decidable_of_iff (a.X=b.X∧a.Y=b.Y) ⟨fun h=>Zu.ext h.1 h.2,fun h=>by subst h;exact ⟨rfl,rfl⟩⟩

def X20 (v:Zu):Int×Zu :=
 if 0≤v.X∧0<v.Y then (0,v) else if 0<v.X∧v.Y≤0 then (8,⟨-v.Y,v.X⟩) else if v.X≤0∧v.Y<0 then (16,⟨-v.X,-v.Y⟩) else (24,⟨v.Y,-v.X⟩)
def X5:List Zu:=[⟨0,1000⟩,⟨195,981⟩,⟨383,924⟩,⟨556,831⟩,⟨707,707⟩,⟨831,556⟩,⟨924,383⟩,⟨981,195⟩]
def X6l (v:Zu) (l:List Zu):Nat:=l.countP fun q=>decide (q.X*v.Y-q.Y*v.X≤0)
def X4K (v:Zu):Int:=(X20 v).1+(X6l (X20 v).2 X5:Nat)-1

theorem X72 {v:Zu} (hb : -60000≤v.X∧v.X≤60000 ∧ -60000≤v.Y∧v.Y≤60000) (h0:¬ (v.X=0∧v.Y=0)):0≤(X20 v).1∧(X20 v).1≤24∧0≤(X20 v).2.X∧(X20 v).2.X≤60000∧0<(X20 v).2.Y∧(X20 v).2.Y≤60000:=by
 unfold X20
 split
 ·simp only;omega
 ·split
  ·simp only;omega
  ·split<;>simp only<;>omega

theorem X75 {γ:Type} (v:Zu) (hb : -60000≤v.X∧v.X≤60000 ∧ -60000≤v.Y∧v.Y≤60000) (h0:¬ (v.X=0∧v.Y=0)) (k:Int×Zu→Option γ) :
  Option.bind (X1t (0,v)) k=k (X20 v):=by
 obtain ⟨x,y⟩:=v
 simp only at hb h0
 have stop:∀ (n:Int) (x y:Int),0≤x→0<y→Option.bind (Z8S X8 (n,⟨x,y⟩)) k=k (n,⟨x,y⟩):=fun n x y hx hy=>by
  rw [X3x]
  have e1:decide (x<0)=false:=by simp;omega
  have e2:decide (y≤0)=false:=by simp;omega
  simp only [X8,Xt,e1,e2,cond_false,Option.bind_some,Sum.elim_inr]
 have go:∀ (n:Int) (x y:Int),0≤n→n≤24 → -60000≤x→x≤60000 → -60000≤y→y≤60000→(x<0∨y≤0)→Option.bind (Z8S X8 (n,⟨x,y⟩)) k=Option.bind (Z8S X8 (n+8,⟨-y,x⟩)) k:=fun n x y h1 h2 h3 h4 h5 h6 h7=>by
  rw [X3x]
  have w1:IntKind.wrap .i64 (n+8)=n+8:=by rw [w64]<;>omega
  have w2:IntKind.wrap .i64 (0-y) = -y:=by rw [w64]<;>omega
  by_cases e1:x<0
  ·simp only [X8,Xt,e1,decide_true,cond_true,Option.bind_some,Sum.elim_inl,w1,w2]
  ·have e2:y≤0:=by omega
   simp only [X8,Xt,e1,e2,decide_true,decide_false,cond_true,cond_false,Option.bind_some,Sum.elim_inl,w1,w2]
 unfold X1t X20
 simp only
 by_cases c1:0≤x∧0<y
 ·rw [if_pos c1];exact stop _ _ _ c1.1 c1.2
 ·rw [if_neg c1]
  by_cases c2:0<x∧y≤0
  ·rw [if_pos c2,go 0 x y (by omega) (by omega) (by omega) (by omega) (by omega) (by omega) (by omega)]
   exact stop _ _ _ (by omega) (by omega)
  ·rw [if_neg c2]
   by_cases c3:x≤0∧y<0
   ·rw [if_pos c3,go 0 x y (by omega) (by omega) (by omega) (by omega) (by omega) (by omega) (by omega),go _ _ _ (by omega) (by omega) (by omega) (by omega) (by omega) (by omega) (by omega)]
    exact stop _ _ _ (by omega) (by omega)
   ·rw [if_neg c3,go 0 x y (by omega) (by omega) (by omega) (by omega) (by omega) (by omega) (by omega),go _ _ _ (by omega) (by omega) (by omega) (by omega) (by omega) (by omega) (by omega),go _ _ _ (by omega) (by omega) (by omega) (by omega) (by omega) (by omega) (by omega)]
    rw [show (- - y:Int)=y by omega]
    exact stop _ _ _ (by omega) (by omega)

theorem X76 {γ:Type} (q:Nat→Zu) (hq:∀ i,(h:i<8)→q i=X5[i]) (v:Zu) (hb:0≤v.X∧v.X≤60000∧0≤v.Y∧v.Y≤60000) (n:Int) (hn:0≤n∧n≤24) (k:Int→Option γ) :
  Option.bind (X2x q v (n,0)) k=k (n+(X6l v X5:Nat)):=by
 refine (X4 (XX q v) k 8 (fun i (b:Int)=>(b,(i:Int))) (fun i b=>0≤b∧b≤24+i) (fun i b=>k (b+(X6l v (X5.drop i):Nat))) ?_ ?_ 0 n (by omega) (by omega)).trans (by simp)
 ·intro b _ R
  simp [XX,W6,X6l,X5]
 ·intro i b hi hP R hR
  simp only [XX,W6]
  rw [List.drop_eq_getElem_cons (show i<X5.length from hi)]
  have hw:IntKind.wrap .i64 ((i:Int)+1)=((i+1:Nat):Int):=by rw [w64]<;>omega
  have hwb:IntKind.wrap .i64 (b+1)=b+1:=by rw [w64]<;>omega
  have e1:decide ((i:Int)<8)=true:=by simp;omega
  have e2:decide ((0:Int)≤↑i)=true:=by simp
  have e3:decide ((i:Int)<((8:Nat):Int))=true:=by simp;omega
  have hqb:0≤(X5[i]'hi).X∧(X5[i]'hi).X≤1000∧0≤(X5[i]'hi).Y∧(X5[i]'hi).Y≤1000:=by
   have:i=0∨i=1∨i=2∨i=3∨i=4∨i=5∨i=6∨i=7:=by omega
   rcases this with rfl|rfl|rfl|rfl|rfl|rfl|rfl|rfl<;>simp [X5]
  have b1:=X5c (a:=(X5[i]'hi).X) (b:=v.Y) 1000 60000 (by omega) (by omega) (by omega) (by omega)
  have b2:=X5c (a:=(X5[i]'hi).Y) (b:=v.X) 1000 60000 (by omega) (by omega) (by omega) (by omega)
  simp only [Int.toNat_natCast,hq i hi,hw,hwb]
  rw [w64 (x:=(X5[i]'hi).X*v.Y) (by omega) (by omega),w64 (x:=(X5[i]'hi).Y*v.X) (by omega) (by omega),w64 (x:=(X5[i]'hi).X*v.Y-_) (by omega) (by omega)]
  simp only [e1,e2,e3,Bool.and_self,cond_true]
  unfold X6l at hR ⊢
  generalize X5[i]'hi=Q at *
  by_cases h:Q.X*v.Y-Q.Y*v.X≤0
  ·rw [List.countP_cons_of_pos (by simpa using h)]
   simp only [h,decide_true,cond_true,Option.bind_some,Sum.elim_inl]
   rw [hR (b+1) (by omega)]
   congr 1
   push_cast
   omega
  ·rw [List.countP_cons_of_neg (by simpa using h)]
   simp only [h,decide_false,cond_false,Option.bind_some,Sum.elim_inl]
   exact hR b (by omega)

theorem X62 (v:Zu) (hb : -60000≤v.X∧v.X≤60000 ∧ -60000≤v.Y∧v.Y≤60000) (h0:¬ (v.X=0∧v.Y=0)):X3I v=some (X4K v):=by
 rw [X4S];unfold X1z
 have hq:=X72 hb h0
 rw [X75 v hb h0,X76 _ (fun i hi=>by
   have:i=0∨i=1∨i=2∨i=3∨i=4∨i=5∨i=6∨i=7:=by omega
   rcases this with rfl|rfl|rfl|rfl|rfl|rfl|rfl|rfl<;>rfl) _ (by omega) _ (by omega)]
 have hc:X6l (X20 v).2 X5≤8:=List.countP_le_length (l:=X5)
 unfold X4K
 rw [w64 (by omega) (by omega)]

theorem X7k {v:Zu} (hb : -60000≤v.X∧v.X≤60000 ∧ -60000≤v.Y∧v.Y≤60000) (h0:¬ (v.X=0∧v.Y=0)):0≤X4K v∧X4K v≤31:=by
 have hq:=X72 hb h0
 have hc:X6l (X20 v).2 X5≤8:=List.countP_le_length (l:=X5)
 have h1:1≤X6l (X20 v).2 X5:=by
  unfold X6l X5
  rw [List.countP_cons_of_pos (by simp;omega)]
  omega
 unfold X4K
 omega

def X6h (f:ZJ) (mark:Int) (p:Zu):Int×Int :=
 if X2u f mark=false then (0,9) else if X2b 30000 p then (0,7) else if (Z8y f mark).At=p then (0,8) else (X4K (Xc (Z8y f mark).At p),0)
def X1H (f:ZJ) (mark:Int) (p:Zu):Int:=if (X6h f mark p).2≠0 then -1 else (X6h f mark p).1

theorem X6Z {f:ZJ} (hg:X12 f) {mark:Int} (h0:0≤mark) (h1:mark<f.Chart.Marks.length):Bd 30000 (Z8y f mark).At:=by
 have hj:mark.toNat<f.Chart.Marks.length:=by omega
 have:=(hg.mark _ (List.getElem_mem hj)).1
 rw [X4D] at this
 unfold Z8y
 rw [X0 _ _ _ hj];exact this

theorem X6u {f:ZJ} (hg:X12 f) (mark:Int) (h0:0≤mark) (h1:mark<f.Chart.Marks.length) (p:Zu):X4A f.Chart f.Day mark p=some (X6h f mark p):=by
 rw [X5s];unfold X2d X6h
 rw [X47];unfold WP
 rw [X4n hg mark h0 h1]
 have hb:=X6Z hg h0 h1
 unfold X2u Z8y at *
 generalize hM:f.Chart.Marks.getD mark.toNat ⟨ByteArray.empty,⟨0,0⟩,[]⟩=M at *
 simp only [Option.bind_some,beq_self_eq_true,cond_true]
 by_cases hp:X4t M f.Day=0
 ·simp [hp]
 ·simp only [X5M hp,cond_false,Option.bind_some,bne_self_eq_false,X1r hp,Bool.true_eq_false,if_false]
  rw [X4B _ (by omega) _ (by simp)]
  simp only [Option.bind_some,List.any_cons,List.any_nil,Bool.or_false]
  cases hf:X2b 30000 p
  ·rw [X4D] at hf
   unfold Bd at hb hf
   simp only [cond_false,Bool.false_eq_true,if_false,Bool.and_true]
   by_cases he:M.At=p
   ·subst he;simp
   ·have:(M.At.X==p.X&&M.At.Y==p.Y)=false:=by
     cases hc:(M.At.X==p.X&&M.At.Y==p.Y)
     ·rfl
     ·exfalso;simp at hc;exact he (Zu.ext hc.1 hc.2)
    rw [this,if_neg he]
    simp only [cond_false]
    rw [w64 (x:=M.At.X-p.X) (by omega) (by omega),w64 (x:=M.At.Y-p.Y) (by omega) (by omega)]
    have h00:¬ (M.At.X-p.X=0∧M.At.Y-p.Y=0):=fun q=>he (Zu.ext (by omega) (by omega))
    rw [X62 _ (by simp only;omega) h00]
    rfl
  ·simp

theorem X74 {f:ZJ} (hg:X12 f) {mark:Int} (h0:0≤mark) (h1:mark<f.Chart.Marks.length) (p:Zu) : -1≤X1H f mark p∧X1H f mark p≤31:=by
 have hb:=X6Z hg h0 h1
 unfold X1H X6h
 by_cases h:X2u f mark=false
 ·simp [h]
 ·rw [if_neg h]
  by_cases h3:X2b 30000 p=true
  ·simp [h3]
  ·rw [if_neg h3]
   by_cases h4:(Z8y f mark).At=p
   ·simp [h4]
   ·rw [if_neg h4]
    simp only [Bool.not_eq_true] at h3
    rw [X4D] at h3
    unfold Bd at hb h3
    have:=X7k (v:=Xc (Z8y f mark).At p) (by unfold Xc;simp only;omega) (fun q=>h4 (by unfold Xc at q;simp only at q;exact Zu.ext (by omega) (by omega)))
    simp only [ne_eq,not_true,if_false]
    omega

theorem X4N (a b:Zh):Zh.eqb a b=true↔a=b:=by
 obtain ⟨m,⟨x,y⟩⟩:=a
 obtain ⟨m',⟨x',y'⟩⟩:=b
 simp [Zh.eqb]
theorem X6d {v:Int} (s k:Zh):∀ m:List (Zh×Int),Z8z Zh.eqb s (Zgh Zh.eqb k v m)=bif Zh.eqb s k then some v else Z8z Zh.eqb s m
 | []=>by
  simp only [Zgh,Z8z]
 | (a,b)::m=>by
  have ih:=X6d (v:=v) s k m
  simp only [Zgh]
  have sym:∀ x y,Zh.eqb x y=Zh.eqb y x:=fun x y=>by
   cases h:Zh.eqb y x with
   | true=>rw [(X4N _ _).1 h,(X4N x x).2 rfl]
   | false=>cases h2:Zh.eqb x y with
    | false=>rfl
    | true=>rw [(X4N _ _).1 h2,(X4N y y).2 rfl] at h;cases h
  cases e:Zh.eqb a k with
  | true =>
   have:=(X4N _ _).1 e
   subst this
   simp only [e,cond_true,Z8z]
   cases Zh.eqb s a<;>rfl
  | false =>
   have e6:Zh.eqb k a=false:=by rw [sym];exact e
   simp only [e,e6,cond_false,Z8z,ih]
   cases h:Zh.eqb s k with
   | true =>
    have:=(X4N _ _).1 h
    subst this
    simp [e,e6]
   | false=>rfl

def X1J (f:ZJ) (m:List (Zh×Int)):Prop:=∀ (mark:Int) p n,0≤mark→mark<f.Chart.Marks.length→Z8z Zh.eqb ⟨mark,p⟩ m=some n→n=X1H f mark p
theorem X7q (f:ZJ):X1J f []:=fun _ _ _ _ _ h=>by cases h

theorem X7D {f:ZJ} (hg:X12 f) {mark:Int} (h0:0≤mark) (h1:mark<f.Chart.Marks.length) (p:Zu) (l:List Zm) (kit:Nat→Nat) {m:List (Zh×Int)} (hm:X1J f m) :
  ∃ m',X1J f m'∧XQ (mark,p,f,l,kit,m)=some (X1H f mark p,f,l,kit,m'):=by
 rw [X37];unfold Xy
 cases hf:Z8z Zh.eqb ⟨mark,p⟩ m with
 | some n=>exact ⟨m,hm,by simp only [hf,Option.isSome_some,Bool.not_true,cond_false,Option.getD_some];rw [hm _ _ _ h0 h1 hf]⟩
 | none =>
  simp only [hf,Option.isSome_none,Bool.not_false,cond_true]
  rw [X6u hg mark h0 h1]
  have put:∀ v,v=X1H f mark p→X1J f (Zgh Zh.eqb ⟨mark,p⟩ v m):=fun v hv mk q n k0 k1 hq=>by
   rw [X6d] at hq
   cases e:Zh.eqb ⟨mk,q⟩ ⟨mark,p⟩ with
   | true =>
    rw [e] at hq
    cases (X4N _ _).1 e;cases hq;exact hv
   | false =>
    rw [e] at hq
    exact hm _ _ _ k0 k1 hq
  simp only [Option.bind_some]
  by_cases he:(X6h f mark p).2=0
  ·have hs:X1H f mark p=(X6h f mark p).1:=by unfold X1H;rw [if_neg (by simp [he])]
   refine ⟨_,put _ hs.symm,?_⟩
   simp only [he,bne_self_eq_false,cond_false,hs]
  ·have hs:X1H f mark p = -1:=by unfold X1H;rw [if_pos he]
   refine ⟨_,put _ hs.symm,?_⟩
   simp only [X1r he,cond_true,hs]

def X7H (shown Z5R:Int):Int:=if (shown-Z5R+32) % 32>16 then (shown-Z5R+32) % 32-32 else (shown-Z5R+32) % 32
def X3C (a:Zt) (p:Zu):Bool := !X1 a.X.Lo a.X.Hi [p.X] && !X1 a.Y.Lo a.Y.Hi [p.Y]
def X61 (f:ZJ) (p:Zu):Option Zt:=f.Areas.find? fun a=>X3C a p
def X2l (f:ZJ) (p:Zu) (x:Zm):ZE×Bool :=
 if (X17 f x.Instrument).Lead then (match X61 f p with
  | none=>(⟨-20,20⟩,true)
  | some a=>(⟨x.Shown-a.Depth.Hi,x.Shown-a.Depth.Lo⟩,x.Ground==0||x.Ground==a.Ground))
 else (⟨X7H x.Shown (X1H f x.Mark p),X7H x.Shown (X1H f x.Mark p)⟩,decide (X1H f x.Mark p≥0))

theorem X4y {f:ZJ} {x:Zm} (h:Ws f x=0):(0≤x.Instrument∧x.Instrument<f.Instruments.length)∧((X17 f x.Instrument).Lead=true→0≤x.Shown∧x.Shown≤1000∧0≤x.Ground∧x.Ground≤4∧x.Mark=0) ∧
  ((X17 f x.Instrument).Lead=false→0≤x.Mark∧x.Mark<f.Chart.Marks.length∧X2u f x.Mark=true∧0≤x.Shown∧x.Shown≤31∧x.Ground=0):=by
 unfold Ws at h
 cases h1:X1 0 ((f.Instruments.length:Int)-1) [x.Instrument]
 ·rw [h1] at h
  simp only [Bool.false_eq_true,if_false] at h
  simp at h1
  refine ⟨by omega,fun hL => ?_,fun hL => ?_⟩
  ·rw [if_pos hL] at h
   cases h2:X1 0 1000 [x.Shown]
   ·cases h3:X1 0 4 [x.Ground]
    ·rw [h2,h3] at h
     simp at h h2 h3
     omega
    ·rw [h2,h3] at h;simp at h
   ·rw [h2] at h;simp at h
  ·rw [if_neg (by simp [hL])] at h
   cases h2:X1 0 ((f.Chart.Marks.length:Int)-1) [x.Mark]
   ·rw [h2] at h
    cases h3:X2u f x.Mark
    ·rw [h3] at h;simp at h
    ·cases h4:X1 0 31 [x.Shown]
     ·rw [h3,h4] at h
      simp at h h2 h4
      exact ⟨by omega,by omega,rfl,by omega,by omega,by omega⟩
     ·rw [h3,h4] at h;simp at h
   ·rw [h2] at h;simp at h
 ·rw [h1] at h;simp at h

theorem X7e {f:ZJ} (hg:X12 f) {x:Zm} (hx:Ws f x=0) (hL:(X17 f x.Instrument).Lead=false) (p:Zu) (l:List Zm) (kit:Nat→Nat) {m:List (Zh×Int)} (hm:X1J f m) :
  ∃ m',X1J f m'∧Xh (p,x,f,l,kit,m)=some ((X2l f p x).1,(X2l f p x).2,f,l,kit,m'):=by
 obtain ⟨h1,_,h3⟩:=X4y hx
 have h3:=h3 hL
 obtain ⟨m',hm',ht⟩:=X7D hg h3.1 h3.2.1 p l kit hm
 refine ⟨m',hm',?_⟩
 rw [X39];unfold Xz X2l X7H
 rw [ht,if_neg (by simp [hL])]
 have hs:=X74 hg h3.1 h3.2.1 p
 generalize X1H f x.Mark p=s at *
 simp only [Option.bind_some]
 rw [w64 (x:=x.Shown-s) (by omega) (by omega),w64 (x:=x.Shown-s+32) (by omega) (by omega)]
 have ht:(x.Shown-s+32).tmod 32=(x.Shown-s+32) % 32:=Int.tmod_eq_emod_of_nonneg (by omega)
 rw [ht]
 by_cases hc:(x.Shown-s+32) % 32>16
 ·have hw:IntKind.wrap .i64 ((x.Shown-s+32) % 32-32)=(x.Shown-s+32) % 32-32:=by rw [w64]<;>omega
  simp only [hc,decide_true,cond_true,if_true,hw]
 ·simp only [hc,decide_false,cond_false,if_false]

theorem X8g {a:Zt} (h:X2U a=0):0≤a.Depth.Lo∧a.Depth.Lo≤a.Depth.Hi∧a.Depth.Hi≤1000∧a.X.Lo≤a.X.Hi∧a.Y.Lo≤a.Y.Hi∧1≤a.Ground∧a.Ground≤4:=by
 unfold X2U at h
 cases h1:(X1 (-30000) 30000 [a.X.Lo,a.X.Hi,a.Y.Lo,a.Y.Hi]||X1 0 1000 [a.Depth.Lo,a.Depth.Hi]||X1 1 4 [a.Ground])
 ·rw [h1] at h
  simp at h h1
  omega
 ·rw [h1] at h;simp at h

theorem X83 {f:ZJ} (hg:X12 f) {x:Zm} (hx:Ws f x=0) (hL:(X17 f x.Instrument).Lead=true) (p:Zu) (l:List Zm) (kit:Nat→Nat) (m:List (Zh×Int)) :
  XY (p,x,f,l,kit,m)=some ((X2l f p x).1,(X2l f p x).2,f,l,kit,m):=by
 obtain ⟨h1,h2,_⟩:=X4y hx
 have h2:=h2 hL
 rw [X3E];unfold W7 X2l
 rw [if_pos hL]
 have ha:=hg.areas
 refine (X4 (Xf (↑f.Areas.length) f.Areas p) _ f.Areas.length (fun i (_:Unit)=>(i:Int)) (fun _ _=>True) (fun i _=>match (f.Areas.drop i).find? fun a=>X3C a p with
   | none=>some (⟨-20,20⟩,true,f,l,kit,m)
   | some a=>some (⟨x.Shown-a.Depth.Hi,x.Shown-a.Depth.Lo⟩,x.Ground==0||x.Ground==a.Ground,f,l,kit,m)) ?_ ?_ 0 () (by omega) trivial).trans ?_
 ·intro b _ R
  simp [Xf,Xs]
 ·intro i b hi _ R hR
  have hR':=hR () trivial
  have hab:=X8g (hg.area _ (List.getElem_mem hi))
  simp only [Xf,Xs]
  rw [List.drop_eq_getElem_cons hi,List.find?_cons]
  have hw:IntKind.wrap .i64 ((i:Int)+1)=((i+1:Nat):Int):=by rw [w64]<;>omega
  simp only [Int.toNat_natCast,X0 _ _ _ hi,hw]
  rw [X2 _ _ _ (by simp),X2 _ _ _ (by simp)]
  have e1:decide ((i:Int)<↑f.Areas.length)=true:=by simp [hi]
  have e2:decide ((0:Int)≤↑i)=true:=by simp
  have e3:decide ((i:Int)<0)=false:=by simp
  simp only [e1,e2,Bool.and_self,cond_true,Option.bind_some]
  have w1:IntKind.wrap .i64 (x.Shown-f.Areas[i].Depth.Hi)=x.Shown-f.Areas[i].Depth.Hi:=by rw [w64]<;>omega
  have w2:IntKind.wrap .i64 (x.Shown-f.Areas[i].Depth.Lo)=x.Shown-f.Areas[i].Depth.Lo:=by rw [w64]<;>omega
  cases o1:X1 f.Areas[i].X.Lo f.Areas[i].X.Hi [p.X]
  ·cases o2:X1 f.Areas[i].Y.Lo f.Areas[i].Y.Hi [p.Y]
   ·have:X3C f.Areas[i] p=true:=by unfold X3C;rw [o1,o2];rfl
    simp only [this,Bool.not_false,cond_true,Option.bind_some,Sum.elim_inr,Sum.elim_inl,e3,cond_false,e1,e2,Bool.and_self,Int.toNat_natCast,X0 _ _ _ hi,w1,w2]
    by_cases hG:x.Ground=0
    ·simp [hG]
    ·simp [X5M hG]
   ·have:X3C f.Areas[i] p=false:=by unfold X3C;rw [o1,o2];rfl
    simp only [this,Bool.not_false,Bool.not_true,cond_true,cond_false,Option.bind_some,Sum.elim_inl]
    exact hR'
  ·have:X3C f.Areas[i] p=false:=by unfold X3C;rw [o1];rfl
   simp only [this,Bool.not_true,cond_false,Option.bind_some,Sum.elim_inl]
   exact hR'
 ·simp only [List.drop_zero,X61]
  cases f.Areas.find? fun a=>X3C a p<;>rfl
end Nore
open Go Go.Ab
namespace Nore

def X6M (x k:Int):Bool:=IntKind.wrap IntKind.i64 (↑(BitVec.toNat (BitVec.ofInt (IntKind.bits IntKind.i64) (Int.fdiv x (2 ^ min (Int.toNat k) (IntKind.bits IntKind.i64))) &&& BitVec.ofInt (IntKind.bits IntKind.i64) 1)):Int)==1
theorem X7G (k:Int):X6M 0 k=false:=by
 unfold X6M
 rw [show Int.fdiv 0 (2 ^ min (Int.toNat k) (IntKind.bits IntKind.i64))=0 from Int.zero_fdiv _]
 decide

def X3l (f:ZJ) (ib mb:Int) (x:Zm):Bool:=X6M ib x.Instrument||(!(X17 f x.Instrument).Lead&&X6M mb x.Mark)
def X4C (n a:ZE):ZE:=⟨if a.Lo>n.Lo then a.Lo else n.Lo,if a.Hi<n.Hi then a.Hi else n.Hi⟩
def atL (f:ZJ) (p:Zu) (ib mb:Int):(Nat→ZE)→List Zm→(Nat→ZE)×Bool
 | s,[]=>(s,true)
 | s,x::l=>if X3l f ib mb x then atL f p ib mb s l else
  if (X2l f p x).2=false∨(X4C (X2l f p x).1 (s x.Instrument.toNat)).Lo>(X4C (X2l f p x).1 (s x.Instrument.toNat)).Hi then (s,false) else
  atL f p ib mb (fun j=>if j=x.Instrument.toNat then X4C (X2l f p x).1 (s x.Instrument.toNat) else s j) l
def X3Y (f:ZJ) (i:Nat):ZE:=if h:i<f.Instruments.length then f.Instruments[i].Off else ⟨0,0⟩
def atN (f:ZJ) (l:List Zm) (p:Zu) (ib mb:Int):(Nat→ZE)×Bool:=atL f p ib mb (X3Y f) l

theorem X7Y {γ:Type} (f:ZJ) (hi4:f.Instruments.length≤4) (x0 x2:Int) (l:List Zm) (kit:Nat→Nat) (m:List (Zh×Int)) (p:Zu) (k:(Nat→ZE)→Option γ) :
  Option.bind (X1M (↑f.Instruments.length) x0 x2 f.Instruments f l kit m p (0,fun _=>⟨0,0⟩)) k=k (X3Y f):=by
 refine (X4 (Xi (↑f.Instruments.length) x0 x2 f.Instruments f l kit m p) k f.Instruments.length (fun i (b:Nat→ZE)=>((i:Int),b)) (fun i b=>∀ j,b j=if j<i then X3Y f j else ⟨0,0⟩) (fun _ _=>k (X3Y f)) ?_ ?_ 0 _ (by omega) (fun j=>by simp))
 ·intro b hb R
  have:b=X3Y f:=by
   funext j
   rw [hb]
   by_cases h:j<f.Instruments.length
   ·simp [h]
   ·simp [h,X3Y]
  simp [Xi,Xu,this]
 ·intro i b hi hb R hR
  have hw:IntKind.wrap .i64 ((i:Int)+1)=((i+1:Nat):Int):=by rw [w64]<;>omega
  have e1:decide ((i:Int)<↑f.Instruments.length)=true:=by simp [hi]
  have e2:decide ((0:Int)≤↑i)=true:=by simp
  have e3:decide ((i:Int)<((4:Nat):Int))=true:=by simp;omega
  have e3':decide ((i:Int)<(4:Int))=true:=by simp;omega
  have e4:Nat.blt i 4=true:=by rw [Tr.blt_dec];simp;omega
  simp only [Xi,Xu,Int.toNat_natCast,X0 _ _ _ hi,hw,e1,e2,e3,e3',e4,Bool.and_self,cond_true,Option.bind_some,Sum.elim_inl]
  refine hR _ fun j => ?_
  rw [Tr.beq_dec]
  by_cases e:j=i
  ·subst e;simp [X3Y,hi]
  ·simp only [e,decide_false,cond_false,hb j]
   by_cases h:j<i
   ·simp [h,show j<i+1 by omega]
   ·simp [h,show ¬ j<i+1 by omega]

theorem X8q {f:ZJ} (hg:X12 f) {l:List Zm} (hl:∀ x∈l,Ws f x=0) (hll:l.length≤8) {kit:Nat→Nat} (hk:Kit f kit) {m:List (Zh×Int)} (hm:X1J f m) (p:Zu) (ib mb:Int) :
  ∃ m',X1J f m'∧Wp (ib,p,mb,f,l,kit,m)=some ((atN f l p ib mb).1,(atN f l p ib mb).2,f,l,kit,m'):=by
 rw [X3Q];unfold Wv atN
 rw [X7Y f hg.inst.2]
 have main:=X64 (Xj ib l mb (↑l.length) p) (fun o=>Sum.elim (fun (y:Bool×(Nat→ZE)×ZJ×List Zm×(Nat→Nat)×ZE×List (Zh×Int)×Zm)=>some (y.snd.fst,y.fst,y.snd.snd.fst,y.snd.snd.snd.fst,y.snd.snd.snd.snd.fst,y.snd.snd.snd.snd.snd.snd.fst)) (fun y=>Sum.elim (fun (y:Bool×(Nat→ZE)×ZJ×List Zm×(Nat→Nat)×ZE×List (Zh×Int)×Zm)=>some (y.snd.fst,y.fst,y.snd.snd.fst,y.snd.snd.snd.fst,y.snd.snd.snd.snd.fst,y.snd.snd.snd.snd.snd.snd.fst)) (fun (y:(Nat→ZE)×ZJ×List Zm×(Nat→Nat)×List (Zh×Int))=>some (y.fst,true,y.snd.fst,y.snd.snd.fst,y.snd.snd.snd.fst,y.snd.snd.snd.snd)) y) o) l.length
  (fun i (b:(Nat→ZE)×List (Zh×Int))=>((i:Int),b.1,f,l,kit,b.2)) (fun _ b=>X1J f b.2) (fun i b r=>∃ m',X1J f m'∧r=some ((atL f p ib mb b.1 (l.drop i)).1,(atL f p ib mb b.1 (l.drop i)).2,f,l,kit,m'))
  (by
   intro b hb R
   refine ⟨b.2,hb,?_⟩
   simp [Xj,Xv,atL])
  (by
   intro i b hi hb R hR
   have hx:=hl _ (List.getElem_mem hi)
   obtain ⟨x,hxd⟩:∃ x,l[i]=x:=⟨_,rfl⟩
   rw [hxd] at hx
   have hgd:l.getD i ⟨0,0,0,0⟩=x:=(X0 _ _ _ hi).trans hxd
   obtain ⟨h1,h2,h3⟩:=X4y hx
   have hi4:=hg.inst.2
   have hw:IntKind.wrap .i64 ((i:Int)+1)=((i+1:Nat):Int):=by rw [w64]<;>omega
   have e1:decide ((i:Int)<↑l.length)=true:=by simp [hi]
   have e2:decide ((0:Int)≤↑i)=true:=by simp
   simp only [Xj,Xv,Int.toNat_natCast,hgd,hw,e1,e2,Bool.and_self,cond_true]
   rw [List.drop_eq_getElem_cons hi,hxd]
   have hj:x.Instrument.toNat<f.Instruments.length:=by omega
   have i1:decide (0≤x.Instrument)=true:=by simp;omega
   have i2:decide (x.Instrument<((4:Nat):Int))=true:=by simp;omega
   have i2':decide (x.Instrument<(4:Int))=true:=by simp;omega
   have i3:Nat.blt x.Instrument.toNat 4=true:=by rw [Tr.blt_dec];simp;omega
   have i4:decide (x.Instrument<0)=false:=by simp;omega
   have hkk:=hk _ hj
   have hio:X17 f x.Instrument=f.Instruments[x.Instrument.toNat]:=X0 _ _ _ hj
   have hcut:∀ (n a:ZE),(⟨bif decide (a.Lo>n.Lo) then a.Lo else n.Lo,bif decide (a.Hi<n.Hi) then a.Hi else n.Hi⟩:ZE)=X4C n a:=fun n a=>by
    unfold X4C
    by_cases c1:a.Lo>n.Lo<;>by_cases c2:a.Hi<n.Hi<;>simp [c1,c2]
   have hcut1:∀ (n a:ZE),(bif decide (a.Lo>n.Lo) then a.Lo else n.Lo)=(X4C n a).Lo:=fun n a=>by rw [←hcut]
   have hcut2:∀ (n a:ZE),(bif decide (a.Hi<n.Hi) then a.Hi else n.Hi)=(X4C n a).Hi:=fun n a=>by rw [←hcut]
   have hfun:∀ (c:ZE) (s:Nat→ZE),(fun j=>bif Nat.beq j x.Instrument.toNat then c else s j)=fun j=>if j=x.Instrument.toNat then c else s j:=fun c s=>by
    funext j;rw [Tr.beq_dec];by_cases e:j=x.Instrument.toNat<;>simp [e]
   simp only [i1,i2,i2',i3,i4,Bool.and_self,cond_true,cond_false,atL]
   rcases Bool.eq_false_or_eq_true (X17 f x.Instrument).Lead with hL|hL
   rotate_left
   ·rw [←hio,hL] at hkk
    simp only [Bool.false_eq_true,if_false] at hkk
    have h3:=h3 hL
    have i5:decide (x.Mark<0)=false:=by simp;omega
    simp only [hkk,show Nat.beq 1 0=false from rfl,show Nat.beq 1 1=true from rfl,cond_false,cond_true,i5]
    have hib:(IntKind.wrap IntKind.i64 (↑(BitVec.toNat (BitVec.ofInt (IntKind.bits IntKind.i64) (Int.fdiv ib (2 ^ min (Int.toNat x.Instrument) (IntKind.bits IntKind.i64))) &&& BitVec.ofInt (IntKind.bits IntKind.i64) 1)):Int)==1)=X6M ib x.Instrument:=rfl
    have hmb:(IntKind.wrap IntKind.i64 (↑(BitVec.toNat (BitVec.ofInt (IntKind.bits IntKind.i64) (Int.fdiv mb (2 ^ min (Int.toNat x.Mark) (IntKind.bits IntKind.i64))) &&& BitVec.ofInt (IntKind.bits IntKind.i64) 1)):Int)==1)=X6M mb x.Mark:=rfl
    rw [hib,hmb]
    rcases Bool.eq_false_or_eq_true (X6M ib x.Instrument) with hb1|hb1
    rotate_left
    ·rcases Bool.eq_false_or_eq_true (X6M mb x.Mark) with hb2|hb2
     rotate_left
     ·have hsk:X3l f ib mb x=false:=by unfold X3l;rw [hL,hb1,hb2];rfl
      simp only [hb1,hb2,cond_false,hsk,Bool.false_eq_true,if_false]
      obtain ⟨m',hm',hc⟩:=X7e hg hx hL p l kit hb
      rw [hc]
      simp only [Option.bind_some,hcut,hcut1,hcut2,hfun]
      cases ho:(X2l f p x).2
      ·exact ⟨m',hm',by simp⟩
      ·by_cases hc:(X4C (X2l f p x).1 (b.1 x.Instrument.toNat)).Lo>(X4C (X2l f p x).1 (b.1 x.Instrument.toNat)).Hi
       ·exact ⟨m',hm',by simp [hc]⟩
       ·simp only [Bool.not_true,cond_false,hc,decide_false,Option.bind_some,Sum.elim_inl,Bool.true_eq_false,or_self,if_false]
        exact hR (_,m') hm'
     ·have hsk:X3l f ib mb x=true:=by unfold X3l;rw [hL,hb1,hb2];rfl
      simp only [hb1,hb2,cond_true,cond_false,Option.bind_some,Sum.elim_inl,hsk,if_true]
      exact hR b hb
    ·have hsk:X3l f ib mb x=true:=by unfold X3l;rw [hb1];rfl
     simp only [hb1,cond_true,Option.bind_some,Sum.elim_inl,hsk,if_true]
     exact hR b hb
   ·rw [←hio,hL] at hkk
    simp only [if_true] at hkk
    have h2:=h2 hL
    simp only [hkk,show Nat.beq 2 0=false from rfl,show Nat.beq 2 1=false from rfl,show Nat.beq 2 (1+1)=true from rfl,cond_false,cond_true]
    have hib:(IntKind.wrap IntKind.i64 (↑(BitVec.toNat (BitVec.ofInt (IntKind.bits IntKind.i64) (Int.fdiv ib (2 ^ min (Int.toNat x.Instrument) (IntKind.bits IntKind.i64))) &&& BitVec.ofInt (IntKind.bits IntKind.i64) 1)):Int)==1)=X6M ib x.Instrument:=rfl
    rw [hib]
    rcases Bool.eq_false_or_eq_true (X6M ib x.Instrument) with hb1|hb1
    rotate_left
    ·have hsk:X3l f ib mb x=false:=by unfold X3l;rw [hL,hb1];rfl
     simp only [hb1,cond_false,hsk,Bool.false_eq_true,if_false]
     rw [X83 hg hx hL p l kit]
     simp only [Option.bind_some,hcut,hcut1,hcut2,hfun]
     cases ho:(X2l f p x).2
     ·exact ⟨b.2,hb,by simp⟩
     ·by_cases hc:(X4C (X2l f p x).1 (b.1 x.Instrument.toNat)).Lo>(X4C (X2l f p x).1 (b.1 x.Instrument.toNat)).Hi
      ·exact ⟨b.2,hb,by simp [hc]⟩
      ·simp only [Bool.not_true,cond_false,hc,decide_false,Option.bind_some,Sum.elim_inl,Bool.true_eq_false,or_self,if_false]
       exact hR (_,b.2) hb
    ·have hsk:X3l f ib mb x=true:=by unfold X3l;rw [hb1];rfl
     simp only [hb1,cond_true,Option.bind_some,Sum.elim_inl,hsk,if_true]
     exact hR b hb)
 have:=main 0 (X3Y f,m) (by omega) hm
 unfold X1N
 simpa using this
end Nore
open Go Go.Ab
namespace Nore

def X1o (f:ZJ) (x y:Int):Nat→List Zu
 | 0=>[]
 | n+1=>⟨x*f.Step,y*f.Step⟩::X1o f x (y+1) n
def WI (f:ZJ):Nat:=(2*f.Half+1).toNat
def X1D (f:ZJ) (x:Int):Nat→List Zu
 | 0=>[]
 | n+1=>X1o f x (-f.Half) (WI f)++X1D f (x+1) n
def X5x (f:ZJ):List Zu:=X1D f (-f.Half) (WI f)
def X29 (f:ZJ) (l:List Zm):List Zu:=(X5x f).filter fun p=>(atN f l p 0 0).2

theorem X5k (f:ZJ) (x:Int):∀ (n:Nat) (y:Int),(X1o f x y n).length=n
 | 0,_=>rfl
 | n+1,y=>by simp [X1o,X5k f x n]
theorem X4c (f:ZJ) (x:Int) (p:Zu):∀ (n:Nat) (y:Int),p∈X1o f x y n↔∃ j:Int,y≤j∧j<y+n∧p=⟨x*f.Step,j*f.Step⟩
 | 0,y=>by simp [X1o];intro j h1 h2;omega
 | n+1,y=>by
  simp only [X1o,List.mem_cons,X4c f x p n]
  constructor
  ·rintro (h|⟨j,h1,h2,h3⟩)
   ·exact ⟨y,by omega,by push_cast;omega,h⟩
   ·exact ⟨j,by omega,by push_cast;omega,h3⟩
  ·rintro ⟨j,h1,h2,h3⟩
   by_cases e:j=y
   ·subst e;exact .inl h3
   ·exact .inr ⟨j,by omega,by push_cast at h2;omega,h3⟩
theorem X4J (f:ZJ) (p:Zu):∀ (n:Nat) (x:Int),p∈X1D f x n↔∃ i j:Int,x≤i∧i<x+n ∧ -f.Half≤j∧j < -f.Half+WI f∧p=⟨i*f.Step,j*f.Step⟩
 | 0,x=>by simp [X1D];intro i h1 h2;omega
 | n+1,x=>by
  simp only [X1D,List.mem_append,X4c,X4J f p n]
  constructor
  ·rintro (⟨j,h1,h2,h3⟩|⟨i,j,h1,h2,h3,h4,h5⟩)
   ·exact ⟨x,j,by omega,by push_cast;omega,h1,h2,h3⟩
   ·exact ⟨i,j,by omega,by push_cast;omega,h3,h4,h5⟩
  ·rintro ⟨i,j,h1,h2,h3,h4,h5⟩
   by_cases e:i=x
   ·subst e;exact .inl ⟨j,h3,h4,h5⟩
   ·exact .inr ⟨i,j,by omega,by push_cast at h2;omega,h3,h4,h5⟩
theorem X6A {f:ZJ} (hh:0≤f.Half) (p:Zu):p∈X5x f↔∃ i j:Int,-f.Half≤i∧i≤f.Half ∧ -f.Half≤j∧j≤f.Half∧p=⟨i*f.Step,j*f.Step⟩:=by
 unfold X5x
 rw [X4J]
 have:(WI f:Int)=2*f.Half+1:=by unfold WI;omega
 constructor
 ·rintro ⟨i,j,h1,h2,h3,h4,h5⟩;exact ⟨i,j,by omega,by omega,by omega,by omega,h5⟩
 ·rintro ⟨i,j,h1,h2,h3,h4,h5⟩;exact ⟨i,j,by omega,by omega,by omega,by omega,h5⟩
theorem X8i {f:ZJ} (hg:X12 f) {p:Zu} (h:p∈X5x f):Bd 4000 p:=by
 obtain ⟨i,j,h1,h2,h3,h4,rfl⟩:=(X6A hg.half.1 p).1 h
 have:=hg.half
 have:=hg.step
 have b1:=X5c (a:=i) (b:=f.Step) 8 500 (by omega) (by omega) (by omega) (by omega)
 have b2:=X5c (a:=j) (b:=f.Step) 8 500 (by omega) (by omega) (by omega) (by omega)
 unfold Bd;simp only;omega

structure X7E (f:ZJ) (l:List Zm):Prop where
 fix:X12 f
 len:l.length≤8
 each:∀ x∈l,Ws f x=0
theorem X6T (f:ZJ):∀ (l:List Zm) (i:Nat),(XS f i l).2=0→∀ x∈l,Ws f x=0
 | [],_,_,m,hm=>by cases hm
 | x::l,i,h,m,hm=>by
  simp only [XS] at h
  by_cases h0:Ws f x=0
  ·simp only [h0,if_true] at h
   rcases List.mem_cons.1 hm with e|e
   ·subst e;exact h0
   ·exact X6T f l _ h m e
  ·simp only [h0,if_false] at h
theorem X6L (f:ZJ):∀ (l:List Zm) (i:Nat),(∀ x∈l,Ws f x=0)→(XS f i l).2=0
 | [],_,_=>rfl
 | x::l,i,h=>by
  simp only [XS,h x (by simp),if_true]
  exact X6L f l _ fun y hy=>h y (by simp [hy])
theorem X69 {f:ZJ} {l:List Zm} (h:(WZ f l).2=0):X7E f l:=by
 unfold WZ at h
 by_cases h1:(WY f).2.2=0
 ·simp only [h1,ne_eq,not_true,if_false] at h
  by_cases h8:8<l.length
  ·rw [if_pos h8] at h;simp at h
  ·rw [if_neg h8] at h
   exact ⟨X5R h1,by omega,X6T f l 0 h⟩
 ·rw [if_pos h1] at h;exact absurd h h1
theorem X7r {f:ZJ} {l:List Zm} (h1:(WY f).2.2=0) (h2:l.length≤8) (h3:∀ x∈l,Ws f x=0):(WZ f l).2=0:=by
 unfold WZ
 rw [if_neg (by simp [h1]),if_neg (by omega)]
 exact X6L f l 0 h3

theorem X71 {f:ZJ} {l:List Zm} (hg:X7E f l) {kit:Nat→Nat} (hk:Kit f kit) (x:Int) (hx : -8≤x∧x≤8) {m:List (Zh×Int)} (hm:X1J f m) (acc:List Zu) (ha:acc.length≤1000000) {γ:Type} (k:_→Option γ) (Q:Option γ→Prop)
  (hQ:∀ m',X1J f m'→Q (k (f,l,kit,m',acc++(X1o f x (-f.Half) (WI f)).filter fun p=>(atN f l p 0 0).2))) :
  Q (Option.bind (XJ x (-f.Half,f,l,kit,m,acc)) k):=by
 have hh:=hg.fix.half
 have hs:=hg.fix.step
 have hw0:(WI f:Int)=2*f.Half+1:=by unfold WI;omega
 refine (X64 (X7 x) k (WI f) (fun i (b:List (Zh×Int)×List Zu)=>(-f.Half+i,f,l,kit,b.1,b.2)) (fun i b=>X1J f b.1∧b.2.length≤1000000+i∧b.2++((X1o f x (-f.Half+i) (WI f-i)).filter fun p=>(atN f l p 0 0).2)=acc++(X1o f x (-f.Half) (WI f)).filter fun p=>(atN f l p 0 0).2) (fun _ _ r=>Q r) ?_ ?_ 0 (m,acc) (by omega) ⟨hm,by simpa using ha,by simp⟩) |> fun h=>by simpa [XJ] using h
 ·intro b hb R
  have e1:decide (-f.Half+(WI f:Int)≤f.Half)=false:=by simp;omega
  simp only [X7,Xa,e1,cond_false,Option.bind_some,Sum.elim_inr]
  have h3:=hb.2.2
  simp only [Nat.sub_self,X1o,List.filter_nil,List.append_nil] at h3
  rw [h3]
  exact hQ _ hb.1
 ·intro i b hi hb R hR
  obtain ⟨hb1,hb2,hb3⟩:=hb
  have e1:decide (-f.Half+(i:Int)≤f.Half)=true:=by simp;omega
  have hw:IntKind.wrap .i64 (-f.Half+(i:Int)+1) = -f.Half+((i+1:Nat):Int):=by rw [w64]<;>omega
  have m1:=X5c (a:=x) (b:=f.Step) 8 500 (by omega) (by omega) (by omega) (by omega)
  have m2:=X5c (a := -f.Half+(i:Int)) (b:=f.Step) 8 500 (by omega) (by omega) (by omega) (by omega)
  simp only [X7,Xa,e1,cond_true]
  rw [w64 (x:=x*f.Step) (by omega) (by omega),w64 (x:=(-f.Half+(i:Int))*f.Step) (by omega) (by omega),hw]
  obtain ⟨m',hm',hc⟩:=X8q hg.fix hg.each hg.len hk hb1 ⟨x*f.Step,(-f.Half+(i:Int))*f.Step⟩ 0 0
  rw [hc]
  simp only [Option.bind_some]
  have hrow:X1o f x (-f.Half+(i:Int)) (WI f-i)=⟨x*f.Step,(-f.Half+(i:Int))*f.Step⟩::X1o f x (-f.Half+((i+1:Nat):Int)) (WI f-(i+1)):=by
   rw [show WI f-i=(WI f-(i+1))+1 by omega,X1o,show -f.Half+(i:Int)+1 = -f.Half+((i+1:Nat):Int) by push_cast;omega]
  rw [hrow] at hb3
  cases hat:(atN f l ⟨x*f.Step,(-f.Half+(i:Int))*f.Step⟩ 0 0).2
  ·simp only [cond_false,Option.bind_some,Sum.elim_inl]
   refine hR (m',b.2) ⟨hm',by simp only;omega,?_⟩
   rw [List.filter_cons_of_neg (by simp [hat])] at hb3
   exact hb3
  ·have e3:Nat.ble ((b.2.length+[(⟨x*f.Step,(-f.Half+(i:Int))*f.Step⟩:Zu)].length)*(16+1)) 200000000000000=true:=by
    apply Nat.ble_eq_true_of_le;simp only [List.length_cons,List.length_nil];have:=hh.2;omega
   simp only [cond_true,e3,Option.bind_some,Sum.elim_inl]
   refine hR (m',b.2++[⟨x*f.Step,(-f.Half+(i:Int))*f.Step⟩]) ⟨hm',by simp;omega,?_⟩
   rw [List.filter_cons_of_pos (by simp [hat])] at hb3
   rw [←hb3]
   simp

theorem X70 {f:ZJ} {l:List Zm} (hg:X7E f l) {kit:Nat→Nat} (hk:Kit f kit) {m:List (Zh×Int)} (hm:X1J f m) {γ:Type} (k:_→Option γ) (Q:Option γ→Prop)
  (hQ:∀ m',X1J f m'→Q (k (X29 f l,f,l,kit,m'))) :
  Q (Option.bind (XI (-f.Half,[],f,l,kit,m)) k):=by
 have hh:=hg.fix.half
 have hw0:(WI f:Int)=2*f.Half+1:=by unfold WI;omega
 refine (X64 X6 k (WI f) (fun i (b:List (Zh×Int)×List Zu)=>(-f.Half+i,b.2,f,l,kit,b.1)) (fun i b=>X1J f b.1∧b.2.length≤i*100∧b.2++((X1D f (-f.Half+i) (WI f-i)).filter fun p=>(atN f l p 0 0).2)=X29 f l) (fun _ _ r=>Q r) ?_ ?_ 0 (m,[]) (by omega) ⟨hm,by simp,by simp [X29,X5x]⟩) |> fun h=>by simpa [XI] using h
 ·intro b hb R
  have e1:decide (-f.Half+(WI f:Int)≤f.Half)=false:=by simp;omega
  simp only [X6,X9,e1,cond_false,Option.bind_some,Sum.elim_inr]
  have h3:=hb.2.2
  simp only [Nat.sub_self,X1D,List.filter_nil,List.append_nil] at h3
  rw [h3]
  exact hQ _ hb.1
 ·intro i b hi hb R hR
  obtain ⟨hb1,hb2,hb3⟩:=hb
  have e1:decide (-f.Half+(i:Int)≤f.Half)=true:=by simp;omega
  have hw:IntKind.wrap .i64 (-f.Half+(i:Int)+1) = -f.Half+((i+1:Nat):Int):=by rw [w64]<;>omega
  have hw2:IntKind.wrap .i64 (0-f.Half) = -f.Half:=by rw [w64]<;>omega
  have hwl:WI f≤17:=by omega
  simp only [X6,X9,e1,cond_true,hw,hw2]
  rw [Option.bind_assoc]
  refine X71 hg hk _ (by omega) hb1 b.2 (by omega) _ Q fun m' hm' => ?_
  simp only [Option.bind_some,Sum.elim_inl]
  refine hR (m',_) ⟨hm',?_,?_⟩
  ·have:=List.length_filter_le (fun p=>(atN f l p 0 0).2) (X1o f (-f.Half+(i:Int)) (-f.Half) (WI f))
   rw [X5k] at this
   simp only [List.length_append]
   omega
  ·rw [←hb3,show WI f-i=(WI f-(i+1))+1 by omega,X1D,show -f.Half+(i:Int)+1 = -f.Half+((i+1:Nat):Int) by push_cast;omega]
   simp

theorem X7y {f:ZJ} {l:List Zm} (hg:X7E f l) {kit:Nat→Nat} (hk:Kit f kit) {m:List (Zh×Int)} (hm:X1J f m):∃ m',X1J f m'∧Ww (f,l,kit,m)=some (f,l,kit,m',X29 f l):=by
 rw [X31];unfold Xw
 have hh:=hg.fix.half
 have hw2:IntKind.wrap .i64 (0-f.Half) = -f.Half:=by rw [w64]<;>omega
 simp only [hw2]
 exact X70 hg hk hm _ (fun r=>∃ m',X1J f m'∧r=some (f,l,kit,m',X29 f l)) fun m' hm'=>⟨m',hm',rfl⟩

theorem X52 (f:ZJ) (l:List Zm):X3N f l=some (if (WZ f l).2=0 then (X29 f l,0) else ([],(WZ f l).2)):=by
 rw [X5v];unfold X2f
 rcases X7K f l with ⟨_,he,h0⟩|⟨kit,hg,h8,hk,he⟩
 ·rw [he]
  simp [h0,X1r h0]
 ·rw [he]
  simp only [Option.bind_some,Sum.elim_inr]
  by_cases h0:(WZ f l).2=0
  ·obtain ⟨m',_,hp⟩:=X7y (X69 h0) hk (X7q f)
   simp only [h0,bne_self_eq_false,cond_false,if_true,hp,Option.bind_some]
  ·simp [h0,X1r h0]

theorem X6B {f:ZJ} (hg:X12 f) (l:List Zm):(X29 f l).length≤289:=by
 have hh:=hg.half
 have hw0:(WI f:Int)=2*f.Half+1:=by unfold WI;omega
 have hw1:WI f≤17:=by omega
 have:∀ (n:Nat) (x:Int),(X1D f x n).length=n*WI f:=fun n=>by
  induction n with
  | zero=>intro x;simp [X1D]
  | succ n ih=>intro x;simp only [X1D,List.length_append,X5k,ih,Nat.succ_mul];omega
 have h2:=List.length_filter_le (fun p=>(atN f l p 0 0).2) (X5x f)
 have h3:(X5x f).length=WI f*WI f:=this _ _
 have h4:WI f*WI f≤17*17:=Nat.mul_le_mul hw1 hw1
 unfold X29
 omega

end Nore
open Go Go.Ab
namespace Nore

def inS (v:Int) (s:ZE):Prop:=s.Lo≤v∧v≤s.Hi
def X6s (f:ZJ) (p:Zu) (ib mb:Int) (s:Nat→ZE) (l:List Zm) (i:Nat) (v:Int):Prop :=
 inS v (s i)∧∀ x∈l,X3l f ib mb x=false→x.Instrument.toNat=i→(X2l f p x).2=true∧inS v (X2l f p x).1

theorem X6x (n a:ZE) (v:Int):inS v (X4C n a)↔inS v n∧inS v a:=by
 unfold inS X4C
 constructor
 ·rintro ⟨h1,h2⟩
  simp only at h1 h2
  split at h1<;>split at h2<;>omega
 ·rintro ⟨h1,h2⟩
  simp only
  constructor<;>split<;>omega

theorem X5o {f:ZJ} {p:Zu} {ib mb:Int} {s:Nat→ZE} {x:Zm} {l:List Zm} {i:Nat} {v:Int} :
  X6s f p ib mb s (x::l) i v↔X6s f p ib mb s l i v∧(X3l f ib mb x=false→x.Instrument.toNat=i→(X2l f p x).2=true∧inS v (X2l f p x).1):=by
 unfold X6s
 constructor
 ·rintro ⟨h1,h2⟩
  exact ⟨⟨h1,fun y hy=>h2 y (by simp [hy])⟩,h2 x (by simp)⟩
 ·rintro ⟨⟨h1,h2⟩,h3⟩
  refine ⟨h1,fun y hy => ?_⟩
  rcases List.mem_cons.1 hy with e|e
  ·subst e;exact h3
  ·exact h2 y e

theorem X6t (f:ZJ) (p:Zu) (ib mb:Int):∀ (l:List Zm) (s:Nat→ZE),(∀ i,(s i).Lo≤(s i).Hi) →
  ((atL f p ib mb s l).2=true→(∀ i,((atL f p ib mb s l).1 i).Lo≤((atL f p ib mb s l).1 i).Hi)∧∀ i v,inS v ((atL f p ib mb s l).1 i)↔X6s f p ib mb s l i v) ∧
  ((atL f p ib mb s l).2=false→∃ x∈l,X3l f ib mb x=false∧∀ v,¬ X6s f p ib mb s l x.Instrument.toNat v)
 | [],s,hs=>by
  simp only [atL]
  exact ⟨fun _=>⟨hs,fun i v=>by simp [X6s]⟩,fun h=>by cases h⟩
 | x::l,s,hs=>by
  simp only [atL]
  by_cases hk:X3l f ib mb x=true
  ·rw [if_pos hk]
   obtain ⟨h1,h2⟩:=X6t f p ib mb l s hs
   refine ⟨fun h=>⟨(h1 h).1,fun i v => ?_⟩,fun h => ?_⟩
   ·rw [(h1 h).2 i v,X5o]
    simp [hk]
   ·obtain ⟨y,hy,hy2,hy3⟩:=h2 h
    refine ⟨y,by simp [hy],hy2,fun v hv=>hy3 v ?_⟩
    exact (X5o.1 hv).1
  ·rw [if_neg hk]
   have hk':X3l f ib mb x=false:=by simpa using hk
   by_cases hc:(X2l f p x).2=false∨(X4C (X2l f p x).1 (s x.Instrument.toNat)).Lo>(X4C (X2l f p x).1 (s x.Instrument.toNat)).Hi
   ·rw [if_pos hc]
    refine ⟨fun h=>(by cases h),fun _=>⟨x,by simp,hk',fun v hv => ?_⟩⟩
    obtain ⟨h1,h2⟩:=X5o.1 hv
    obtain ⟨h3,h4⟩:=h2 hk' rfl
    rcases hc with hc|hc
    ·rw [hc] at h3;cases h3
    ·have:=(X6x (X2l f p x).1 (s x.Instrument.toNat) v).2 ⟨h4,h1.1⟩
     unfold inS at this;omega
   ·rw [if_neg hc]
    have hc1:(X2l f p x).2=true:=by
     cases h:(X2l f p x).2
     ·exact absurd (.inl h) hc
     ·rfl
    have hc2:(X4C (X2l f p x).1 (s x.Instrument.toNat)).Lo≤(X4C (X2l f p x).1 (s x.Instrument.toNat)).Hi:=Int.not_lt.1 fun q=>hc (.inr q)
    obtain ⟨h1,h2⟩:=X6t f p ib mb l (fun j=>if j=x.Instrument.toNat then X4C (X2l f p x).1 (s x.Instrument.toNat) else s j) (fun i=>by
     by_cases e:i=x.Instrument.toNat
     ·simp only [e,if_true];exact hc2
     ·simp only [e,if_false];exact hs i)
    have key:∀ i v,X6s f p ib mb (fun j=>if j=x.Instrument.toNat then X4C (X2l f p x).1 (s x.Instrument.toNat) else s j) l i v↔X6s f p ib mb s (x::l) i v:=fun i v=>by
     rw [X5o]
     unfold X6s
     by_cases e:i=x.Instrument.toNat
     ·subst e
      simp only [if_true,X6x,hk',hc1,true_and,forall_const]
      constructor
      ·rintro ⟨⟨a,b⟩,c⟩;exact ⟨⟨b,c⟩,a⟩
      ·rintro ⟨⟨b,c⟩,a⟩;exact ⟨⟨a,b⟩,c⟩
     ·simp only [e,if_false,hk',forall_const]
      constructor
      ·rintro ⟨a,b⟩;exact ⟨⟨a,b⟩,fun q=>absurd q.symm e⟩
      ·rintro ⟨⟨a,b⟩,_⟩;exact ⟨a,b⟩
    refine ⟨fun h=>⟨(h1 h).1,fun i v=>((h1 h).2 i v).trans (key i v)⟩,fun h => ?_⟩
    obtain ⟨y,hy,hy2,hy3⟩:=h2 h
    exact ⟨y,by simp [hy],hy2,fun v hv=>hy3 v ((key _ v).2 hv)⟩

theorem X88 {f:ZJ} (hg:X12 f) (i:Nat):(X3Y f i).Lo≤(X3Y f i).Hi:=by
 unfold X3Y
 split
 ·rename_i h
  exact (hg.off _ (List.getElem_mem h)).2.1
 ·simp

def Num (f:ZJ) (l:List Zm) (p:Zu) (ib mb:Int) (i:Nat) (v:Int):Prop:=X6s f p ib mb (X3Y f) l i v

theorem X7X {f:ZJ} (hg:X12 f) (l:List Zm) (p:Zu) (ib mb:Int):(atN f l p ib mb).2=true↔∀ i,∃ v,Num f l p ib mb i v:=by
 obtain ⟨h1,h2⟩:=X6t f p ib mb l (X3Y f) (X88 hg)
 unfold atN
 constructor
 ·intro h i
  obtain ⟨h3,h4⟩:=h1 h
  exact ⟨_,(h4 i ((atL f p ib mb (X3Y f) l).1 i).Lo).1 ⟨Int.le_refl _,h3 i⟩⟩
 ·intro h
  cases hb:(atL f p ib mb (X3Y f) l).2
  ·obtain ⟨x,_,_,h3⟩:=h2 hb
   obtain ⟨v,hv⟩:=h x.Instrument.toNat
   exact absurd hv (h3 v)
  ·rfl
theorem X5J {f:ZJ} {l:List Zm} {p:Zu}:p∈X29 f l↔p∈X5x f∧(atN f l p 0 0).2=true:=by
 unfold X29;rw [List.mem_filter]
theorem X6O (l:List Zu) (p:Zu) (hl:l.length<1000000):X5n l p=some (decide (p∈l)):=by
 rw [X5S];unfold X2D
 refine (X4 (X1e l p) _ l.length (fun i (_:Unit)=>(i:Int)) (fun _ _=>True) (fun i _=>some (decide (p∈l.drop i))) ?_ ?_ 0 () (by omega) trivial).trans (by simp)
 ·intro b _ R
  simp [X1e,X1k]
 ·intro i b hi _ R hR
  have hR':=hR () trivial
  rw [List.drop_eq_getElem_cons hi]
  have hw:IntKind.wrap .i64 ((i:Int)+1)=((i+1:Nat):Int):=by rw [w64]<;>omega
  have e1:decide ((i:Int)<↑l.length)=true:=by simp [hi]
  have e2:decide ((0:Int)≤↑i)=true:=by simp
  simp only [X1e,X1k,Int.toNat_natCast,X0 _ _ _ hi,hw,e1,e2,Bool.and_self,cond_true,Bool.and_true]
  by_cases h:p=l[i]
  ·subst h
   simp only [beq_self_eq_true,Bool.and_self,cond_true,Option.bind_some,Sum.elim_inr,Sum.elim_inl,List.mem_cons,true_or,decide_true]
  ·have:(l[i].X==p.X&&l[i].Y==p.Y)=false:=by
    cases hc:(l[i].X==p.X&&l[i].Y==p.Y)
    ·rfl
    ·exfalso;simp at hc;exact h (Zu.ext hc.1.symm hc.2.symm)
   simp only [this,cond_false,Option.bind_some,Sum.elim_inl,hR',List.mem_cons,h,false_or]

theorem X6z (f:ZJ) (l:List Zm):X4H f l=some (decide ((WZ f l).2=0)):=by
 rw [X5A];unfold X2j
 rw [X4X]
 simp only [Option.bind_some]
 by_cases h:(WZ f l).2=0<;>simp [h,X5M]
end Nore
open Go Go.Ab
namespace Nore

def X8d:Nat→List Nat→List (List Nat)
 | 0,_=>[[]]
 | _+1,[]=>[]
 | n+1,t::l=>(X8d n l).map (t :: ·)++X8d (n+1) l

def X81 (ok:List Nat→Bool) (l:List Nat):Nat→Nat→Option (List Nat)
 | _,0=>none
 | n,k+1=>match (X8d n l).find? ok with
  | some s=>some s
  | none=>X81 ok l (n+1) k

def X85 (f:ZJ):Nat:=f.Chart.Marks.length
def X8v (f:ZJ) (s:List Nat) (x:Zm):Bool := !(s.contains (X85 f+x.Instrument.toNat))&&((X17 f x.Instrument).Lead || !(s.contains x.Mark.toNat))
def X8w (f:ZJ) (l:List Zm) (s:List Nat):List Zm:=l.filter (X8v f s)
def X8x (f:ZJ) (l:List Zm) (t:Nat):Bool:=l.any fun x=>decide (X85 f+x.Instrument.toNat=t)||(!(X17 f x.Instrument).Lead&&decide (x.Mark.toNat=t))
def X8f (f:ZJ) (l:List Zm):List Nat:=(List.range (X85 f+f.Instruments.length)).filter (X8x f l)
def okW (f:ZJ) (l:List Zm) (s:List Nat):Bool := !(X29 f (X8w f l s)).isEmpty
structure X8y (f:ZJ) (l:List Zm) (s:List Nat):Prop where
 ok:okW f l s=true
 sub:s.Sublist (X8f f l)
 least:∀ r,r.Sublist (X8f f l)→okW f l r=true→s.length≤r.length
 first:X81 (okW f l) (X8f f l) 0 (f.Instruments.length+1)=some s
end Nore
open Go Go.Ab
namespace Nore

theorem X6U (f:ZJ) (x:Zm):X3l f 0 0 x=false:=by unfold X3l;simp [X7G]
end Nore
open Go Go.Ab
namespace Nore

end Nore
open Go Go.Ab
namespace Nore

abbrev PSt:=Int×Bool×ZJ×List Zm×(Nat→Nat)×Int×List (Zh×Int)
end Nore
open Go Go.Ab
namespace Nore

theorem X7m {β σ ω:Type} (st:σ→Option (σ⊕ω)) (n:Nat) (emb:Nat→β→σ) (P:Nat→β→Prop) (Q:ω→Prop)
  (hd:∀ b,P n b→∃ w,st (emb n b)=some (.inr w)∧Q w)
  (hn:∀ i b,i<n→P i b→(∃ w,st (emb i b)=some (.inr w)∧Q w)∨∃ b',st (emb i b)=some (.inl (emb (i+1) b'))∧P (i+1) b') :
  ∀ i b,i≤n→P i b→∃ w,Z8S st (emb i b)=some w∧Q w:=by
 intro i b hi hP
 induction hj:n-i generalizing i b with
 | zero =>
  have:i=n:=by omega
  subst this
  obtain ⟨w,h1,h2⟩:=hd b hP
  exact ⟨w,by rw [ZgX,h1];rfl,h2⟩
 | succ j ih =>
  rcases hn i b (by omega) hP with ⟨w,h1,h2⟩|⟨b',h1,h2⟩
  ·exact ⟨w,by rw [ZgX,h1];rfl,h2⟩
  ·obtain ⟨w,h3,h4⟩:=ih (i+1) b' (by omega) h2 (by omega)
   exact ⟨w,by rw [ZgX,h1];exact h3,h4⟩
theorem X5Z {α β:Type} (st:Int×List β→Option ((Int×List β)⊕List β)) (l:List α) (g:α→List β) (c:Nat) (hc:∀ x∈l,(g x).length≤c)
  (hd:∀ b,st ((l.length:Int),b)=some (.inr b))
  (hn:∀ i b,(h:i<l.length)→b.length≤i*c→st ((i:Int),b)=some (.inl (((i+1:Nat):Int),b++g l[i]))):Z8S st (0,[])=some (l.flatMap g):=by
 obtain ⟨w,h1,h2⟩:=X7m st l.length (fun i (b:List β)=>((i:Int),b)) (fun i b=>b.length≤i*c∧b++(l.drop i).flatMap g=l.flatMap g) (fun w=>w=l.flatMap g)
  (fun b hb=>⟨b,hd b,by have:=hb.2;simpa using this⟩)
  (fun i b hi hb => .inr ⟨_,hn i b hi hb.1,by
   have h1:=hb.1
   have:=hc _ (List.getElem_mem hi)
   rw [List.length_append,Nat.succ_mul];omega,by
   rw [←hb.2,List.drop_eq_getElem_cons hi];simp only [List.flatMap_cons,List.append_assoc]⟩) 0 [] (by omega) ⟨by simp,by simp⟩
 exact h1.trans (by rw [h2])

end Nore
open Go Go.Ab
namespace Nore

end Nore
open Go Go.Ab
namespace Nore

theorem X8c (a b:Int):X4I a b=some ⟨a,b⟩:=by rw [X5C];rfl
theorem X8e (n k:Int) (hn:0≤n) (hk:0<k):0≤Int.tmod n k∧Int.tmod n k<k:=⟨Int.tmod_nonneg k hn,Int.tmod_lt_of_pos n hk⟩

end Nore
open Go Go.Ab Go.Proofs.Ytehofdemanfenaa
namespace Nore

end Nore
open Go Go.Ab Go.Proofs.Ytehofdemanfenaa
namespace Nore

end Nore
open Go Go.Ab
namespace Nore

def X18 (p:Zu):Zu:=⟨p.Y,-p.X⟩
def X60 (s:ZE):ZE:=⟨-s.Hi,-s.Lo⟩
def X5r (m:Zw):Zw:=⟨m.Name,X18 m.At,m.Paints⟩
def X6q (s:CtSand):CtSand:=⟨s.Name,s.Corners.map X18,⟨s.Moves.Y,X60 s.Moves.X⟩⟩
def X4M (a:Zt):Zt:=⟨a.Y,X60 a.X,a.Depth,a.Ground⟩
def X8o (c:Zl):Zl:=⟨c.Marks.map X5r,c.Sands.map X6q⟩
def X3h (f:ZJ):ZJ:=⟨X8o f.Chart,f.Day,f.Instruments,f.Areas.map X4M,f.Step,f.Half⟩
def X45 (f:ZJ) (x:Zm):Zm:=if (X17 f x.Instrument).Lead then x else ⟨x.Instrument,x.Mark,Int.tmod (x.Shown+8) 32,x.Ground⟩

theorem X7s (A:Int) (p:Zu):X2b A (X18 p)=X2b A p:=by
 rw [Bool.eq_iff_iff]
 unfold X2b X18
 simp
 omega
theorem X8k (a b c:Zu):X13 (Xc (X18 a) (X18 b)) (Xc (X18 c) (X18 b))=X13 (Xc a b) (Xc c b):=by
 unfold X13 Xc X18
 simp only
 grind
theorem X6X (l:List Zu) (i:Nat):(l.map X18).getD i P0=X18 (l.getD i P0):=by
 have h0:X18 P0=P0:=rfl
 rw [List.getD_eq_getElem?_getD,List.getD_eq_getElem?_getD,List.getElem?_map]
 cases l[i]? with
 | none=>exact h0.symm
 | some p=>rfl
theorem X8a (l:List Zu):X3g (l.map X18)=X3g l:=by
 unfold X3g
 rw [List.length_map]
 congr 1
 funext i
 unfold X6K
 rw [List.length_map]
 congr 1
 funext m
 rw [X6X,X6X,X6X,X8k]
theorem X8r (b:ZB) (m w:Int) (h:X5N b m w=0):X5N ⟨b.Y,X60 b.X⟩ m w=0:=by
 unfold X5N at h ⊢
 have h1:X1 (-m) m [b.X.Lo,b.X.Hi,b.Y.Lo,b.Y.Hi]=false:=by
  cases h1:X1 (-m) m [b.X.Lo,b.X.Hi,b.Y.Lo,b.Y.Hi]
  ·rfl
  ·rw [h1] at h;simp at h
 have h2:X1 0 w [b.X.Hi-b.X.Lo,b.Y.Hi-b.Y.Lo]=false:=by
  cases h2:X1 0 w [b.X.Hi-b.X.Lo,b.Y.Hi-b.Y.Lo]
  ·rfl
  ·rw [h1,h2] at h;simp at h
 have e1:X1 (-m) m [b.Y.Lo,b.Y.Hi,(X60 b.X).Lo,(X60 b.X).Hi]=false:=by unfold X60;simp at h1 ⊢;omega
 have e2:X1 0 w [b.Y.Hi-b.Y.Lo,(X60 b.X).Hi-(X60 b.X).Lo]=false:=by unfold X60;simp at h2 ⊢;omega
 simp only [e1,e2,Bool.false_eq_true,if_false]
theorem X8m {s:CtSand} (h:X3z s=0):X3z (X6q s)=0:=by
 unfold X3z at h ⊢
 have e1:(X6q s).Corners.length=s.Corners.length:=List.length_map _
 have e2:(X6q s).Corners.any (X2b 10000)=s.Corners.any (X2b 10000):=by
  show (s.Corners.map X18).any (X2b 10000)=_
  rw [List.any_map]
  congr 1
  funext p
  exact X7s _ p
 have e3:X3g (X6q s).Corners=X3g s.Corners:=X8a _
 rw [e1,e2,e3]
 split at h
 ·cases h
 ·rename_i h1
  rw [if_neg h1]
  split at h
  ·cases h
  ·rename_i h2
   rw [if_neg h2]
   split at h
   ·rename_i h3
    rw [if_pos (show X5N (X6q s).Moves 500 40=0 from X8r s.Moves 500 40 h3)]
    exact h
   ·rename_i h3;exact absurd h h3
theorem X7n:∀ (l:List CtSand) (i:Nat) (names:List ByteArray),(X2N i names l).2.2=0→(X2N i names (l.map X6q)).2.2=0
 | [],_,_,_=>rfl
 | s::l,i,names,h=>by
  simp only [X2N,List.map_cons] at h ⊢
  by_cases he:X3y s names=0
  ·simp only [he,if_true] at h
   have he':X3y (X6q s) names=0:=by
    unfold X3y at he ⊢
    have en:(X6q s).Name=s.Name:=rfl
    rw [en]
    split at he
    ·rename_i h1;rw [if_pos h1];exact X8m he
    ·rename_i h1;exact absurd he h1
   simp only [he',if_true]
   exact X7n l (i+1) _ h
  ·simp only [he,if_false] at h
theorem X7j (sands:List CtSand):∀ (l:List Zw) (i:Nat) (names:List ByteArray),(X2k sands i names l).2.2=0→(X2k (sands.map X6q) i names (l.map X5r)).2.2=0
 | [],_,names,h=>by
  simp only [X2k,List.map_nil,List.length_map] at h ⊢
  split at h
  ·cases h
  ·rename_i h1
   rw [if_neg h1]
   exact X7n _ _ _ h
 | m::l,i,names,h=>by
  simp only [X2k,List.map_cons] at h ⊢
  by_cases he:X2v m names=0
  ·simp only [he,if_true] at h
   have he':X2v (X5r m) names=0:=by
    unfold X2v at he ⊢
    have en:(X5r m).Name=m.Name:=rfl
    have ep:(X5r m).Paints=m.Paints:=rfl
    have ea:X2b 30000 (X5r m).At=X2b 30000 m.At:=X7s _ _
    rw [en,ep,ea]
    exact he
   simp only [he',if_true]
   exact X7j sands l (i+1) _ h
  ·simp only [he,if_false] at h
theorem X7Z {c:Zl} (h:(X2e c).2.2=0):(X2e (X8o c)).2.2=0:=by
 unfold X2e at h ⊢
 have e1:(X8o c).Marks.length=c.Marks.length:=List.length_map _
 rw [e1]
 split at h
 ·cases h
 ·rename_i h1
  rw [if_neg h1]
  exact X7j c.Sands c.Marks 0 [] h
theorem X8h {a:Zt} (h:X2U a=0):X2U (X4M a)=0:=by
 unfold X2U at h ⊢
 have h1:(X1 (-30000) 30000 [a.X.Lo,a.X.Hi,a.Y.Lo,a.Y.Hi]||X1 0 1000 [a.Depth.Lo,a.Depth.Hi]||X1 1 4 [a.Ground])=false:=by
  cases h1:(X1 (-30000) 30000 [a.X.Lo,a.X.Hi,a.Y.Lo,a.Y.Hi]||X1 0 1000 [a.Depth.Lo,a.Depth.Hi]||X1 1 4 [a.Ground])
  ·rfl
  ·rw [h1] at h;simp at h
 rw [h1] at h
 simp only [Bool.false_eq_true,if_false] at h
 have h2:¬ (a.X.Lo>a.X.Hi∨a.Y.Lo>a.Y.Hi∨a.Depth.Lo>a.Depth.Hi):=fun q=>by rw [if_pos q] at h;cases h
 have e1:(X1 (-30000) 30000 [(X4M a).X.Lo,(X4M a).X.Hi,(X4M a).Y.Lo,(X4M a).Y.Hi]||X1 0 1000 [(X4M a).Depth.Lo,(X4M a).Depth.Hi]||X1 1 4 [(X4M a).Ground])=false:=by
  unfold X4M X60
  simp at h1 ⊢
  omega
 rw [e1,if_neg (by simp),if_neg (by unfold X4M X60;simp only;omega)]
theorem X7a:∀ (l:List Zt) (i:Nat),(X24 i l).2.2=0→(X24 i (l.map X4M)).2.2=0
 | [],_,_=>rfl
 | a::l,i,h=>by
  simp only [X24,List.map_cons] at h ⊢
  by_cases he:X2U a=0
  ·simp only [he,if_true] at h
   simp only [X8h he,if_true]
   exact X7a l (i+1) h
  ·simp only [he,if_false] at h
theorem X80 {f:ZJ} (hc:(WY f).2.2=0):(WY (X3h f)).2.2=0:=by
 unfold WY at hc ⊢
 have e1:(X3h f).Chart=X8o f.Chart:=rfl
 have e2:(X3h f).Day=f.Day:=rfl
 have e3:(X3h f).Step=f.Step:=rfl
 have e4:(X3h f).Half=f.Half:=rfl
 have e5:(X3h f).Instruments=f.Instruments:=rfl
 have e6:(X3h f).Areas=f.Areas.map X4M:=rfl
 rw [e1,e2,e3,e4,e5,e6,List.length_map]
 split at hc
 ·rename_i h1;exact absurd hc h1
 ·rename_i h1
  rw [if_neg (by simp only [ne_eq,Decidable.not_not] at h1 ⊢;exact X7Z h1)]
  split at hc
  ·cases hc
  ·rename_i h2
   rw [if_neg h2]
   split at hc
   ·cases hc
   ·rename_i h3
    rw [if_neg h3]
    split at hc
    ·rename_i h4;exact absurd hc h4
    ·rename_i h4
     rw [if_neg h4]
     split at hc
     ·cases hc
     ·rename_i h5
      rw [if_neg h5]
      exact X7a _ _ hc

theorem X7F (f:ZJ) (mark:Int):Z8y (X3h f) mark=X5r (Z8y f mark):=by
 unfold Z8y
 show ((f.Chart.Marks.map X5r).getD mark.toNat ⟨ByteArray.empty,⟨0,0⟩,[]⟩)=_
 have h0:X5r ⟨ByteArray.empty,⟨0,0⟩,[]⟩=⟨ByteArray.empty,⟨0,0⟩,[]⟩:=rfl
 rw [List.getD_eq_getElem?_getD,List.getD_eq_getElem?_getD,List.getElem?_map]
 cases f.Chart.Marks[mark.toNat]? with
 | none=>exact h0.symm
 | some p=>rfl
theorem X65 (f:ZJ) (mark:Int):X2u (X3h f) mark=X2u f mark:=by
 unfold X2u
 rw [X7F];rfl
theorem X8l (v:Zu) (h0:¬ (v.X=0∧v.Y=0)):(X20 (X18 v)).2=(X20 v).2∧(X20 (X18 v)).1=((X20 v).1+8) % 32:=by
 unfold X20 X18
 by_cases c1:0≤v.X∧0<v.Y
 ·rw [if_pos c1,if_neg (by simp only;omega),if_pos (by simp only;omega)]
  simp
 ·rw [if_neg c1]
  by_cases c2:0<v.X∧v.Y≤0
  ·rw [if_pos c2,if_neg (by simp only;omega),if_neg (by simp only;omega),if_pos (by simp only;omega)]
   simp
  ·rw [if_neg c2]
   by_cases c3:v.X≤0∧v.Y<0
   ·rw [if_pos c3,if_neg (by simp only;omega),if_neg (by simp only;omega),if_neg (by simp only;omega)]
    simp
   ·rw [if_neg c3,if_pos (by simp only;omega)]
    simp
theorem X8s {v:Zu} (hx:0≤v.X) (hy:0<v.Y):1≤X6l v X5∧X6l v X5≤8:=by
 constructor
 ·unfold X6l X5
  rw [List.countP_cons]
  have:decide ((0:Int)*v.Y-1000*v.X≤0)=true:=by simp;omega
  simp only [this,if_true]
  omega
 ·exact List.countP_le_length
theorem X89 {v:Zu} (hb : -60000≤v.X∧v.X≤60000 ∧ -60000≤v.Y∧v.Y≤60000) (h0:¬ (v.X=0∧v.Y=0)):X4K (X18 v)=(X4K v+8) % 32:=by
 obtain ⟨h1,h2⟩:=X8l v h0
 have hq:=X72 hb h0
 have hc:=X8s (v:=(X20 v).2) hq.2.2.1 hq.2.2.2.2.1
 have hqv:(X20 v).1=0∨(X20 v).1=8∨(X20 v).1=16∨(X20 v).1=24:=by
  unfold X20
  split
  ·simp
  ·split
   ·simp
   ·split<;>simp
 unfold X4K
 rw [h1,h2]
 omega
theorem X8n {f:ZJ} (hg:X12 f) {mark:Int} (h0:0≤mark) (h1:mark<f.Chart.Marks.length) (p:Zu):X1H (X3h f) mark (X18 p)=if X1H f mark p<0 then -1 else (X1H f mark p+8) % 32:=by
 have hb:=X6Z hg h0 h1
 have hse:=X74 hg h0 h1 p
 unfold X1H X6h at hse ⊢
 rw [X65,X7F,X7s]
 by_cases h:X2u f mark=false
 ·simp [h]
 ·simp only [if_neg h] at hse ⊢
  by_cases h3:X2b 30000 p=true
  ·simp [h3]
  ·simp only [if_neg h3] at hse ⊢
   by_cases h4:(Z8y f mark).At=p
   ·have h4':(X5r (Z8y f mark)).At=X18 p:=by rw [←h4];rfl
    simp [h4,h4']
   ·have h4':¬ (X5r (Z8y f mark)).At=X18 p:=fun q=>h4 (by
     have q1:=congrArg Zu.X q
     have q2:=congrArg Zu.Y q
     simp only [X5r,X18] at q1 q2
     exact Zu.ext (by omega) (by omega))
    simp only [if_neg h4,if_neg h4'] at hse ⊢
    simp only [Bool.not_eq_true] at h3
    rw [X4D] at h3
    unfold Bd at hb h3
    have hs:Xc (X5r (Z8y f mark)).At (X18 p)=X18 (Xc (Z8y f mark).At p):=by
     unfold Xc X5r X18
     simp only
     congr 1
     omega
    rw [hs,X89 (by unfold Xc;simp only;omega) (fun q=>h4 (by unfold Xc at q;simp only at q;exact Zu.ext (by omega) (by omega)))]
    simp only [ne_eq,not_true,if_false] at hse ⊢
    rw [if_neg (by
     have:=X7k (v:=Xc (Z8y f mark).At p) (by unfold Xc;simp only;omega) (fun q=>h4 (by unfold Xc at q;simp only at q;exact Zu.ext (by omega) (by omega)))
     omega)]
theorem X7L (a:Zt) (p:Zu):X3C (X4M a) (X18 p)=X3C a p:=by
 rw [Bool.eq_iff_iff]
 unfold X3C X4M X18 X60
 simp
 omega
theorem X8b {f:ZJ} {x:Zm} (h0:Ws f x=0):Ws (X3h f) (X45 f x)=0:=by
 obtain ⟨h1,h2,h3⟩:=X4y h0
 unfold Ws at h0 ⊢
 have ei:(X3h f).Instruments=f.Instruments:=rfl
 have eo:∀ i,X17 (X3h f) i=X17 f i:=fun _=>rfl
 have em:(X3h f).Chart.Marks.length=f.Chart.Marks.length:=List.length_map _
 unfold X45
 cases hL:(X17 f x.Instrument).Lead
 ·have h3:=h3 hL
  simp only [Bool.false_eq_true,if_false,ei,eo,em,X65]
  have e1:X1 0 ((f.Instruments.length:Int)-1) [x.Instrument]=false:=by simp;omega
  have e2:X1 0 ((f.Chart.Marks.length:Int)-1) [x.Mark]=false:=by simp;omega
  have t:=X8e (x.Shown+8) 32 (by omega) (by omega)
  have e3:X1 0 31 [Int.tmod (x.Shown+8) 32]=false:=by simp;omega
  simp [e1,e2,e3,hL,h3.2.2.1,h3.2.2.2.2.2]
 ·simp only [if_true,ei,eo,em,X65]
  exact h0
theorem X87 {f:ZJ} (hg:X12 f) (p:Zu) {x:Zm} (hx:Ws f x=0) (v:Int):((X2l (X3h f) (X18 p) (X45 f x)).2=true∧inS v (X2l (X3h f) (X18 p) (X45 f x)).1)↔((X2l f p x).2=true∧inS v (X2l f p x).1):=by
 obtain ⟨h1,h2,h3⟩:=X4y hx
 have eo:∀ i,X17 (X3h f) i=X17 f i:=fun _=>rfl
 have ei:(X45 f x).Instrument=x.Instrument:=by unfold X45;split<;>rfl
 unfold X2l
 rw [ei,eo]
 cases hL:(X17 f x.Instrument).Lead
 ·have h3:=h3 hL
  have hs:=X8n hg h3.1 h3.2.1 p
  have hb:=X74 hg h3.1 h3.2.1 p
  have em:(X45 f x).Mark=x.Mark:=by unfold X45;split<;>rfl
  have esh:(X45 f x).Shown=(x.Shown+8) % 32:=by
   unfold X45
   rw [hL]
   simp only [Bool.false_eq_true,if_false]
   exact Int.tmod_eq_emod_of_nonneg (by omega)
  simp only [Bool.false_eq_true,if_false,em,hs,esh]
  by_cases c:X1H f x.Mark p<0
  ·rw [if_pos c]
   have hm1:X1H f x.Mark p = -1:=by omega
   rw [hm1]
   simp
  ·rw [if_neg c]
   have hc:X7H ((x.Shown+8) % 32) ((X1H f x.Mark p+8) % 32)=X7H x.Shown (X1H f x.Mark p):=by
    unfold X7H
    have:((x.Shown+8) % 32-(X1H f x.Mark p+8) % 32+32) % 32=(x.Shown-X1H f x.Mark p+32) % 32:=by omega
    rw [this]
   have hd:decide ((X1H f x.Mark p+8) % 32≥0)=decide (X1H f x.Mark p≥0):=by simp only [decide_eq_decide];omega
   rw [hc,hd]
 ·have ex:X45 f x=x:=by unfold X45;rw [hL];rfl
  simp only [if_true,ex]
  have ha:X61 (X3h f) (X18 p)=(X61 f p).map X4M:=by
   unfold X61
   show (f.Areas.map X4M).find? _=_
   rw [List.find?_map]
   congr 2
   funext a
   exact X7L a p
  rw [ha]
  cases X61 f p<;>rfl
end Nore
open Go Go.Ab
namespace Nore

theorem X7p {p q:Zu} (h:X18 p=X18 q):p=q:=by
 have q1:=congrArg Zu.X h
 have q2:=congrArg Zu.Y h
 simp only [X18] at q1 q2
 exact Zu.ext (by omega) (by omega)
theorem X8j {f:ZJ} (hg:X12 f) (p:Zu):X18 p∈X5x (X3h f)↔p∈X5x f:=by
 rw [X6A (f:=X3h f) hg.half.1,X6A hg.half.1]
 constructor
 ·rintro ⟨i,j,h1,h2,h3,h4,h5⟩
  have q1:=congrArg Zu.X h5
  have q2:=congrArg Zu.Y h5
  refine ⟨-j,i,?_,?_,h1,h2,Zu.ext ?_ ?_⟩
  ·have:(X3h f).Half=f.Half:=rfl
   omega
  ·have:(X3h f).Half=f.Half:=rfl
   omega
  ·show p.X = -j*f.Step
   have q2' : -p.X=j*f.Step:=q2
   rw [Int.neg_mul];omega
  ·exact q1
 ·rintro ⟨i,j,h1,h2,h3,h4,h5⟩
  subst h5
  refine ⟨j,-i,h3,h4,?_,?_,Zu.ext rfl ?_⟩
  ·have:(X3h f).Half=f.Half:=rfl
   omega
  ·have:(X3h f).Half=f.Half:=rfl
   omega
  ·show -(i*f.Step) = -i*f.Step
   rw [Int.neg_mul]

theorem X5G {f:ZJ} (hs:1≤f.Step) (x:Int):∀ (n:Nat) (y:Int),(X1o f x y n).Nodup
 | 0,_=>List.nodup_nil
 | n+1,y=>by
  unfold X1o
  refine List.nodup_cons.2 ⟨fun h => ?_,X5G hs x n (y+1)⟩
  obtain ⟨j,h1,h2,h3⟩:=(X4c f x _ n (y+1)).1 h
  have h4:=congrArg Zu.Y h3
  have:=Int.eq_of_mul_eq_mul_right (by omega) h4
  omega
theorem X5a {f:ZJ} (hs:1≤f.Step):∀ (n:Nat) (x:Int),(X1D f x n).Nodup
 | 0,_=>List.nodup_nil
 | n+1,x=>by
  unfold X1D
  refine List.nodup_append.2 ⟨X5G hs x _ _,X5a hs n (x+1),fun a ha b hb h => ?_⟩
  subst h
  obtain ⟨j,h1,h2,h3⟩:=(X4c f x _ _ _).1 ha
  obtain ⟨i,k,g1,g2,g3,g4,g5⟩:=(X4J f _ _ _).1 hb
  have h4:=congrArg Zu.X (h3.symm.trans g5)
  have:=Int.eq_of_mul_eq_mul_right (by omega) h4
  omega
theorem X5V {f:ZJ} (hg:X12 f) (l:List Zm):(X29 f l).Nodup:=List.Pairwise.filter _ (X5a hg.step.1 _ _)

theorem X86 {f:ZJ} (hg:X12 f) {l:List Zm} (hl:∀ x∈l,Ws f x=0) (p:Zu) (i:Nat) (v:Int):Num (X3h f) (l.map (X45 f)) (X18 p) 0 0 i v↔Num f l p 0 0 i v:=by
 unfold Num X6s
 have hi:∀ x,(X45 f x).Instrument=x.Instrument:=fun x=>by unfold X45;split<;>rfl
 constructor
 ·rintro ⟨h1,h2⟩
  refine ⟨h1,fun x hx _ he => ?_⟩
  have:=h2 (X45 f x) (List.mem_map_of_mem hx) (X6U _ _) (by rw [hi];exact he)
  exact (X87 hg p (hl x hx) v).1 this
 ·rintro ⟨h1,h2⟩
  refine ⟨h1,fun y hy _ he => ?_⟩
  obtain ⟨x,hx,rfl⟩:=List.mem_map.1 hy
  rw [hi] at he
  exact (X87 hg p (hl x hx) v).2 (h2 x hx (X6U _ _) he)
theorem X7z {f:ZJ} (hg:X12 f) (hg':X12 (X3h f)) {l:List Zm} (hl:∀ x∈l,Ws f x=0) (p:Zu):X18 p∈X29 (X3h f) (l.map (X45 f))↔p∈X29 f l:=by
 rw [X5J,X5J,X8j hg,X7X hg',X7X hg]
 constructor
 ·rintro ⟨h1,h2⟩
  exact ⟨h1,fun i=>by obtain ⟨v,hv⟩:=h2 i;exact ⟨v,(X86 hg hl p i v).1 hv⟩⟩
 ·rintro ⟨h1,h2⟩
  exact ⟨h1,fun i=>by obtain ⟨v,hv⟩:=h2 i;exact ⟨v,(X86 hg hl p i v).2 hv⟩⟩
theorem X8p {l k:List Zu} (hl:l.Nodup) (hk:k.Nodup) (h:∀ p,X18 p∈k↔p∈l):k.length=l.length:=by
 have hm:(l.map X18).Nodup:=List.Pairwise.map _ (fun a b h hc=>h (X7p hc)) hl
 have hp:(l.map X18).Perm k:=(List.perm_ext_iff_of_nodup hm hk).2 fun p=>by
  obtain ⟨q,rfl⟩:∃ q,X18 q=p:=⟨⟨-p.Y,p.X⟩,by cases p;simp [X18]⟩
  rw [h q,List.mem_map]
  constructor
  ·rintro ⟨r,h1,h2⟩;rw [←X7p h2];exact h1
  ·intro h1;exact ⟨q,h1,rfl⟩
 rw [←hp.length_eq,List.length_map]

theorem X5f (p:Zu) (h:Bd 1000000 p):X23 p=some (X18 p):=by
 rw [X4r];unfold X1l X18
 unfold Bd at h
 rw [w64 (x:=0-p.X) (by omega) (by omega)]
 congr 2;omega
theorem X7b (s:ZE) (h : -1000000≤s.Lo∧s.Lo≤1000000 ∧ -1000000≤s.Hi∧s.Hi≤1000000):X3X s=some (X60 s):=by
 rw [X5y];unfold X2i X60
 rw [w64 (x:=0-s.Hi) (by omega) (by omega),w64 (x:=0-s.Lo) (by omega) (by omega),X8c]
 simp
theorem X59 {α β:Type} (g:α→β) (l:List α):(l.flatMap fun a=>[g a])=l.map g:=by
 induction l with
 | nil=>rfl
 | cons a l ih=>rw [List.flatMap_cons,ih];rfl

theorem X7S {f:ZJ} (hg:X12 f):X1O f (0,[])=some (f.Chart.Marks.map X5r):=by
 rw [←X59]
 refine X5Z (Xk f) f.Chart.Marks _ 1 (fun _ _=>by simp) (fun b=>by simp [Xk,XC]) ?_
 intro i b hi hb
 have hM:=hg.marks
 have e1:decide ((i:Int)<↑f.Chart.Marks.length)=true:=by simp [hi]
 have e2:decide ((0:Int)≤↑i)=true:=by simp
 have hw:IntKind.wrap .i64 ((i:Int)+1)=((i+1:Nat):Int):=by rw [w64]<;>omega
 have hb2:=(hg.mark _ (List.getElem_mem hi)).1
 rw [X4D] at hb2
 have ble:∀ y:Zw,Nat.ble ((b.length+[y].length)*(56+1)) 200000000000000=true:=fun y=>by
  apply Nat.ble_eq_true_of_le;simp only [List.length_cons,List.length_nil];omega
 simp only [Xk,XC,e1,e2,Bool.and_self,cond_true,Int.toNat_natCast,X0 _ _ _ hi,hw]
 rw [X5f _ (by unfold Bd at *;omega)]
 simp only [Option.bind_some,ble,cond_true]
 rfl

theorem X6J (names:List ByteArray):∀ (l:List CtSand) (i:Nat) (names:List ByteArray),(X2N i names l).2.2=0→∀ s∈l,X3z s=0
 | [],_,_,_,_,h=>by cases h
 | s::l,i,names,h,t,ht=>by
  simp only [X2N] at h
  by_cases he:X3y s names=0
  ·simp only [he,if_true] at h
   rcases List.mem_cons.1 ht with e|e
   ·subst e
    unfold X3y at he
    split at he
    ·exact he
    ·rename_i h1;exact absurd he h1
   ·exact X6J names l (i+1) _ h t e
  ·simp only [he,if_false] at h
theorem X6c (sands:List CtSand):∀ (l:List Zw) (i:Nat) (names:List ByteArray),(X2k sands i names l).2.2=0→sands.length≤4∧∀ s∈sands,X3z s=0
 | [],_,names,h=>by
  simp only [X2k] at h
  split at h
  ·cases h
  ·exact ⟨by omega,X6J names _ _ _ h⟩
 | m::l,i,names,h=>by
  simp only [X2k] at h
  by_cases he:X2v m names=0
  ·simp only [he,if_true] at h
   exact X6c sands l (i+1) _ h
  ·simp only [he,if_false] at h
theorem X7c {c:Zl} (h:(X2e c).2.2=0):c.Sands.length≤4∧∀ s∈c.Sands,X3z s=0:=by
 unfold X2e at h
 split at h
 ·cases h
 ·exact X6c _ _ _ _ h
theorem X7P {s:CtSand} (h:X3z s=0):(3≤s.Corners.length∧s.Corners.length≤8)∧(∀ p∈s.Corners,Bd 10000 p)∧(-500≤s.Moves.X.Lo∧s.Moves.X.Lo≤s.Moves.X.Hi∧s.Moves.X.Hi≤500∧s.Moves.X.Hi-s.Moves.X.Lo≤40 ∧ -500≤s.Moves.Y.Lo∧s.Moves.Y.Lo≤s.Moves.Y.Hi∧s.Moves.Y.Hi≤500∧s.Moves.Y.Hi-s.Moves.Y.Lo≤40)∧X3g s.Corners=true:=by
 unfold X3z at h
 split at h
 ·cases h
 ·rename_i h1
  split at h
  ·cases h
  ·rename_i h2
   split at h
   ·rename_i h3
    have hr:X3g s.Corners=true:=by
     cases hr:X3g s.Corners
     ·rw [hr] at h;simp at h
     ·rfl
    refine ⟨by simp at h1;omega,fun p hp => ?_,?_,hr⟩
    ·rw [←X4D]
     simp only [Bool.not_eq_true,List.any_eq_false] at h2
     have:=h2 p hp
     simpa using this
    ·unfold X5N at h3
     split at h3
     ·cases h3
     ·rename_i h4
      split at h3
      ·cases h3
      ·rename_i h5
       simp at h4 h5
       omega
   ·rename_i h3;exact absurd h h3

theorem X7T {f:ZJ} (hg:X12 f):X1P f (0,[])=some (f.Chart.Sands.map X6q):=by
 obtain ⟨hS,hsand⟩:=X7c hg.chart
 rw [←X59]
 refine X5Z (Xl f) f.Chart.Sands _ 1 (fun _ _=>by simp) (fun b=>by simp [Xl,XD]) ?_
 intro i b hi hb
 have e1:decide ((i:Int)<↑f.Chart.Sands.length)=true:=by simp [hi]
 have e2:decide ((0:Int)≤↑i)=true:=by simp
 have hw:IntKind.wrap .i64 ((i:Int)+1)=((i+1:Nat):Int):=by rw [w64]<;>omega
 obtain ⟨g1,g2,g3,_⟩:=X7P (hsand _ (List.getElem_mem hi))
 have hgd:∀ d,f.Chart.Sands.getD i d=f.Chart.Sands[i]:=fun d=>X0 _ _ _ hi
 have inner:X1Q (i:Int) f (0,[])=some (f.Chart.Sands[i].Corners.map X18):=by
  rw [←X59]
  refine X5Z (Xm (i:Int) f) f.Chart.Sands[i].Corners _ 1 (fun _ _=>by simp) (fun c => ?_) ?_
  ·simp only [Xm,XE,e1,e2,Bool.and_self,cond_true,Int.toNat_natCast,hgd,Int.lt_irrefl,decide_false,cond_false]
  ·intro k c hk hc
   have e3:decide ((k:Int)<↑f.Chart.Sands[i].Corners.length)=true:=by simp [hk]
   have e4:decide ((0:Int)≤↑k)=true:=by simp
   have hw3:IntKind.wrap .i64 ((k:Int)+1)=((k+1:Nat):Int):=by rw [w64]<;>omega
   have hp:=g2 _ (List.getElem_mem hk)
   have ble:∀ y:Zu,Nat.ble ((c.length+[y].length)*(16+1)) 200000000000000=true:=fun y=>by
    apply Nat.ble_eq_true_of_le;simp only [List.length_cons,List.length_nil];omega
   simp only [Xm,XE,e1,e2,e3,e4,Bool.and_self,cond_true,Int.toNat_natCast,hgd,X0 _ _ _ hk,hw3]
   rw [X5f _ (by unfold Bd at *;omega)]
   simp only [Option.bind_some,ble,cond_true]
 have ble:∀ y:CtSand,Nat.ble ((b.length+[y].length)*(72+1)) 200000000000000=true:=fun y=>by
  apply Nat.ble_eq_true_of_le;simp only [List.length_cons,List.length_nil];omega
 simp only [Xl,XD,e1,e2,Bool.and_self,cond_true,Int.toNat_natCast,hgd,hw,inner,Option.bind_some]
 rw [X7b _ (by omega)]
 simp only [Option.bind_some,ble,cond_true]
 rfl

theorem X7U {f:ZJ} (hg:X12 f):X1R f (0,[])=some (f.Areas.map X4M):=by
 have hA:=hg.areas
 rw [←X59]
 refine X5Z (Xn f) f.Areas _ 1 (fun _ _=>by simp) (fun b=>by simp [Xn,XF]) ?_
 intro i b hi hb
 have e1:decide ((i:Int)<↑f.Areas.length)=true:=by simp [hi]
 have e2:decide ((0:Int)≤↑i)=true:=by simp
 have hw:IntKind.wrap .i64 ((i:Int)+1)=((i+1:Nat):Int):=by rw [w64]<;>omega
 have ha:=hg.area _ (List.getElem_mem hi)
 have hx : -30000≤f.Areas[i].X.Lo∧f.Areas[i].X.Lo≤30000 ∧ -30000≤f.Areas[i].X.Hi∧f.Areas[i].X.Hi≤30000:=by
  unfold X2U at ha
  split at ha
  ·cases ha
  ·rename_i h1
   simp at h1
   omega
 have ble:∀ y:Zt,Nat.ble ((b.length+[y].length)*(56+1)) 200000000000000=true:=fun y=>by
  apply Nat.ble_eq_true_of_le;simp only [List.length_cons,List.length_nil];omega
 simp only [Xn,XF,e1,e2,Bool.and_self,cond_true,Int.toNat_natCast,X0 _ _ _ hi,hw]
 rw [X7b _ (by omega)]
 simp only [Option.bind_some,ble,cond_true]
 rfl

theorem X7V {f:ZJ} (hg:X12 f) {l:List Zm} (hl:∀ x∈l,Ws f x=0) (hll:l.length≤8):X1S l f (0,[])=some (l.map (X45 f)):=by
 rw [←X59]
 refine X5Z (Xo l f) l _ 1 (fun _ _=>by simp) (fun b=>by simp [Xo,XG]) ?_
 intro i b hi hb
 have hI:=hg.inst
 have e1:decide ((i:Int)<↑l.length)=true:=by simp [hi]
 have e2:decide ((0:Int)≤↑i)=true:=by simp
 have hw:IntKind.wrap .i64 ((i:Int)+1)=((i+1:Nat):Int):=by rw [w64]<;>omega
 have hx:=hl _ (List.getElem_mem hi)
 obtain ⟨x,hxd⟩:∃ x,l[i]=x:=⟨_,rfl⟩
 rw [hxd] at hx ⊢
 have hgd:l.getD i ⟨0,0,0,0⟩=x:=(X0 _ _ _ hi).trans hxd
 obtain ⟨h1,h2,h3⟩:=X4y hx
 have i1:decide (0≤x.Instrument)=true:=by simp;omega
 have i2:decide (x.Instrument<(↑f.Instruments.length:Int))=true:=by simp;omega
 have hgi:f.Instruments.getD x.Instrument.toNat ⟨ByteArray.empty,false,⟨0,0⟩⟩=X17 f x.Instrument:=rfl
 have ble:∀ y:Zm,Nat.ble ((b.length+[y].length)*(32+1)) 200000000000000=true:=fun y=>by
  apply Nat.ble_eq_true_of_le;simp only [List.length_cons,List.length_nil];omega
 simp only [Xo,XG,e1,e2,i1,i2,Bool.and_self,cond_true,Int.toNat_natCast,hgd,hgi,hw,ble]
 unfold X45
 cases hL:(X17 f x.Instrument).Lead
 ·have h3:=h3 hL
  rw [w64 (x:=x.Shown+8) (by omega) (by omega)]
  simp
 ·simp

theorem X7W (a b:List Zu) (ha:a.length<1000000) (hb:b.length<1000000) (hbd:∀ p∈a,Bd 1000000 p) (h:∀ p∈a,X18 p∈b):X1T a b 0=some (.inr ()):=by
 obtain ⟨w,h1,h2⟩:=X7m (Xp a b) a.length (fun i (_:Unit)=>(i:Int)) (fun _ _=>True) (fun w=>w = .inr ())
  (fun _ _=>⟨.inr (),by simp [Xp,XH],rfl⟩)
  (fun i _ hi _=>by
   right
   refine ⟨(),?_,trivial⟩
   have hw:IntKind.wrap .i64 ((i:Int)+1)=((i+1:Nat):Int):=by rw [w64]<;>omega
   have e1:decide ((i:Int)<↑a.length)=true:=by simp [hi]
   have e2:decide ((0:Int)≤↑i)=true:=by simp
   simp only [Xp,XH,Int.toNat_natCast,X0 _ _ _ hi,hw,e1,e2,Bool.and_self,cond_true]
   rw [X5f _ (hbd _ (List.getElem_mem hi))]
   simp only [Option.bind_some]
   rw [X6O _ _ hb]
   simp only [h _ (List.getElem_mem hi),decide_true,Option.bind_some,Bool.not_true,cond_false]) 0 () (by omega) trivial
 exact h1.trans (by rw [h2])

theorem X6r (f:ZJ) (l:List Zm):X2F f l=some true:=by
 rw [X3V];unfold WA
 rw [X6z]
 simp only [Option.bind_some]
 by_cases hc:(WZ f l).2=0
 ·have hs:=X69 hc
  have hf:(WY f).2.2=0:=by
   unfold WZ at hc
   by_cases h1:(WY f).2.2=0
   ·exact h1
   ·rw [if_pos h1] at hc;exact absurd hc h1
  have hf':=X80 hf
  have hg':=X5R hf'
  have hc':(WZ (X3h f) (l.map (X45 f))).2=0:=X7r hf' (by rw [List.length_map];exact hs.len) fun y hy=>by
   obtain ⟨x,hx,rfl⟩:=List.mem_map.1 hy
   exact X8b (hs.each x hx)
  simp only [hc,decide_true,Bool.not_true,cond_false]
  rw [X7S hs.fix,X7T hs.fix,X7U hs.fix,X7V hs.fix hs.each hs.len]
  simp only [Option.bind_some]
  rw [show (ZJ.mk (Zl.mk (f.Chart.Marks.map X5r) (f.Chart.Sands.map X6q)) f.Day f.Instruments (f.Areas.map X4M) f.Step f.Half)=X3h f from rfl]
  rw [X52,X52]
  have n1:=X6B hs.fix l
  have n2:=X6B hg' (l.map (X45 f))
  have hpl:=X7z hs.fix hg' hs.each
  have hlen:=X8p (X5V hs.fix l) (X5V hg' (l.map (X45 f))) hpl
  simp only [hc,hc',if_true,Option.bind_some,bne_self_eq_false,cond_false,hlen]
  rw [X7W _ _ (by omega) (by omega) (fun p hp=>by have:=X8i hs.fix (X5J.1 hp).1;unfold Bd at *;omega) (fun p hp=>(hpl p).2 hp)]
  simp
 ·simp [hc]
end Nore
