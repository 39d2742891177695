/- The plain functions of the program and of the document answer alike. -/
import Derived.Test.YtehofdemanfenaaD
import Derived.Test.YtehofdemanfenaaY
set_option linter.unusedSectionVars false
set_option linter.unusedVariables false
set_option linter.unusedSimpArgs false
open Go Go.Ab
namespace Nore

theorem w64 {x:Int} (h1 : -9223372036854775808≤x) (h2:x≤9223372036854775807):IntKind.wrap .i64 x=x:=by
 simp only [IntKind.wrap,IntKind.signed,IntKind.bits]
 simp
 omega

theorem X3K {σ ω γ:Type} (st:σ→Option (σ⊕ω)) (k:ω→Option γ) (s:σ):Option.bind (Z8S st s) k=Option.bind (st s) (Sum.elim (fun s'=>Option.bind (Z8S st s') k) k):=by
 rw [ZgX]
 cases st s with
 | none=>rfl
 | some r=>cases r<;>rfl

theorem X6 {β σ ω γ:Type} (st:σ→Option (σ⊕ω)) (k:ω→Option γ) (n:Nat) (emb:Nat→β→σ) (P:Nat→β→Prop) (nice:Nat→β→Option γ)
  (hd:∀ b,P n b→∀ R:σ→Option γ,Option.bind (st (emb n b)) (Sum.elim R k)=nice n b)
  (hn:∀ i b,i<n→P i b→∀ R:σ→Option γ,(∀ b',P (i+1) b'→R (emb (i+1) b')=nice (i+1) b')→Option.bind (st (emb i b)) (Sum.elim R k)=nice i b) :
  ∀ i b,i≤n→P i b→Option.bind (Z8S st (emb i b)) k=nice i b:=by
 intro i b hi hP
 induction hj:n-i generalizing i b with
 | zero =>
  have:i=n:=by omega
  subst this
  rw [X3K];exact hd b hP _
 | succ j ih =>
  rw [X3K]
  exact hn i b (by omega) hP _ fun b' hb'=>ih (i+1) b' (by omega) hb' (by omega)

theorem X2g {γ:Type} (o:Option γ):Option.bind o (fun x=>some x)=o:=by cases o<;>rfl

theorem X5z {β σ ω:Type} (st:σ→Option (σ⊕ω)) (n:Nat) (emb:Nat→β→σ) (P:Nat→β→Prop) (nice:Nat→β→Option ω)
  (hd:∀ b,P n b→∀ R:σ→Option ω,Option.bind (st (emb n b)) (Sum.elim R some)=nice n b)
  (hn:∀ i b,i<n→P i b→∀ R:σ→Option ω,(∀ b',P (i+1) b'→R (emb (i+1) b')=nice (i+1) b')→Option.bind (st (emb i b)) (Sum.elim R some)=nice i b)
  (i:Nat) (b:β) (hi:i≤n) (hP:P i b):Z8S st (emb i b)=nice i b:=by
 rw [←X2g (Z8S st (emb i b))]
 exact X6 st some n emb P nice hd hn i b hi hP

theorem X4c {a b:Int} (h:¬ a=b):(a==b)=false:=beq_eq_false_iff_ne.2 h
theorem WE {a b:Int} (h:¬ a=b):(a != b)=true:=bne_iff_ne.2 h

theorem X1 {α:Type} (l:List α) (i:Nat) (d:α) (h:i<l.length):l.getD i d=l[i]:=by simp [List.getD,h]

def X4 (lo hi:Int) (l:List Int):Bool:=l.any fun n=>decide (n<lo)||decide (n>hi)
@[simp] theorem X64 (lo hi:Int):X4 lo hi []=false:=rfl
@[simp] theorem X3V (lo hi n:Int) (l:List Int):X4 lo hi (n::l)=(decide (n<lo)||decide (n>hi)||X4 lo hi l):=rfl
def inN (n lo hi:Int):Bool:=decide (lo≤n)&&decide (n≤hi)

theorem WW (lo up:Int) (l:List Int) (hl:l.length<1000000):X1m lo up l=some (X4 lo up l):=by
 have key:=X6 (X1n (↑l.length) l up lo) (fun o3=>Sum.elim (fun y4:Int=>some (decide (y4≥0))) (fun _=>some (decide ((-1:Int)≥0))) o3) l.length (fun i (_:Unit)=>(i:Int)) (fun _ _=>True) (fun i _=>some (X4 lo up (l.drop i)))
  (by
   intro b _ R
   simp [X1n,X1s])
  (by
   intro i b hi _ R hR
   have hR':=hR () trivial
   simp only [X1n,X1s]
   rw [List.drop_eq_getElem_cons hi]
   simp only [Int.toNat_natCast,X1 _ _ _ hi,X3V]
   have hw:IntKind.wrap .i64 ((i:Int)+1)=((i+1:Nat):Int):=by rw [w64]<;>omega
   rw [hw]
   have h1:decide ((i:Int)<↑l.length)=true:=by simp [hi]
   have h2:decide ((0:Int)≤↑i)=true:=by simp
   simp only [h1,h2,Bool.and_self,cond_true]
   by_cases h3:l[i]<lo
   ·simp [h3]
   ·by_cases h4:l[i]>up
    ·simp [h3,h4]
    ·simp [h3,h4];exact hR')
 exact (key 0 () (by omega) trivial).trans (by simp)

theorem X1A (n lo hi:Int):X1S n lo hi=some (inN n lo hi):=by
 unfold X1S inN
 by_cases h:lo≤n<;>simp [h]
end Nore
open Go Go.Ab
namespace Nore

def X5l:Int→List UInt8→Option Int
 | last,[]=>some last
 | last,c::l=>if 97≤(c.toNat:Int)∧(c.toNat:Int)≤122 then X5l c.toNat l else if (c.toNat:Int)≠45∨last=45 then none else X5l c.toNat l
def X4m:Option Int→Bool
 | none=>false
 | some last=>last != 45
def X5m (s:ByteArray):Bool:=decide (s.size≤14)&&X4m (X5l 45 s.toList)

theorem X8k (s:ByteArray) (i:Nat) (h:(s.get! i).toNat<128):Utf8.decode s i=((s.get! i).toNat,1):=by
 unfold Utf8.decode;simp only [Nat.add_zero];rw [if_pos h]
theorem X8j (s:ByteArray) (i:Nat) (h:¬ (s.get! i).toNat<128):128≤(Utf8.decode s i).1:=by
 unfold Utf8.decode
 simp only [Nat.add_zero,Utf8.runeError]
 rw [if_neg h]
 repeat' split
 all_goals simp_all
 all_goals omega

theorem X1U (s:ByteArray):s.toList.length=s.size:=by rw [ByteArray.toList_eq];rfl
theorem X7T (s:ByteArray) (i:Nat) (h:i<s.toList.length):s.get! i=s.toList[i]:=by
 have hs:i<s.size:=by rw [←X1U];exact h
 simp only [ByteArray.toList_eq]
 show s.data[i]! = _
 have h2:i<s.data.size:=hs
 rw [getElem!_pos s.data i h2]
 rfl

theorem X4u (s:ByteArray):X2J s=some (X5m s):=by
 have key:=X6 (X10 s s) (fun o0=>Sum.elim (fun y1:Bool×Nat=>some y1.fst) (fun y2:Int×Nat=>bif decide ((↑(ByteArray.size s):Int)≤14) then some (y2.fst != 45) else some false) o0) s.toList.length (fun i (b:Int)=>(b,i)) (fun _ _=>True) (fun i b=>some (decide (s.size≤14)&&X4m (X5l b (s.toList.drop i))))
  (by
   intro b _ R
   have hh:(decide ((↑s.size:Int)≤14))=decide (s.size≤14):=by rw [decide_eq_decide];omega
   have hd:s.toList.drop s.size=[]:=List.drop_eq_nil_of_le (by rw [X1U];exact Nat.le_refl _)
   simp only [hd,X5l,X4m,X10,X13,X1U,hh,Nat.lt_irrefl,decide_false,cond_false,Option.bind_some,Sum.elim_inr]
   cases decide (s.size≤14)<;>simp)
  (by
   intro i b hi _ R hR
   have hs:i<s.size:=by rw [←X1U];exact hi
   have hg:=X7T s i hi
   simp only [X10,X13]
   rw [List.drop_eq_getElem_cons hi]
   simp only [X5l]
   by_cases h:(s.get! i).toNat<128
   ·rw [X8k s i h]
    have hR':=hR ((s.get! i).toNat:Int) trivial
    rw [hg] at *
    generalize s.toList[i]=c at *
    simp only [hs,decide_true,cond_true]
    by_cases h1:97≤(c.toNat:Int)
    ·have q1:decide ((c.toNat:Int)≥97)=true:=decide_eq_true h1
     by_cases h2:(c.toNat:Int)≤122
     ·have q2:decide ((c.toNat:Int)≤122)=true:=decide_eq_true h2
      simp only [decide_true,decide_false,q1,q2,cond_true,Option.bind_some,Sum.elim_inl,h1,h2,and_self,if_true]
      exact hR'
     ·have q2:decide ((c.toNat:Int)≤122)=false:=decide_eq_false h2
      have h3:¬ ((c.toNat:Int)=45):=by omega
      have q3:((c.toNat:Int) != 45)=true:=bne_iff_ne.2 h3
      simp only [decide_true,decide_false,q1,q2,q3,cond_true,cond_false,Option.bind_some,Sum.elim_inl,Sum.elim_inr,h2,and_false,if_false,ne_eq,h3,not_false_iff,true_or,if_true,X4m,Bool.and_false]
    ·have q1:decide ((c.toNat:Int)≥97)=false:=decide_eq_false h1
     by_cases h3:(c.toNat:Int)=45
     ·have q3:((c.toNat:Int) != 45)=false:=by rw [h3];rfl
      by_cases h4:b=45
      ·have q4:(b==45)=true:=by rw [h4];rfl
       rw [q1,q3,q4,if_neg (fun hc=>h1 hc.1),if_pos (Or.inr h4)]
       simp [X4m]
      ·have q4:(b==45)=false:=beq_eq_false_iff_ne.2 h4
       simp only [decide_true,decide_false,q1,q3,q4,cond_true,cond_false,Option.bind_some,Sum.elim_inl,Sum.elim_inr,h1,false_and,if_false,h4,ne_eq,h3,not_true,or_self,if_true]
       rw [h3] at hR'
       exact hR'
     ·have q3:((c.toNat:Int) != 45)=true:=bne_iff_ne.2 h3
      simp only [decide_true,decide_false,q1,q3,cond_true,cond_false,Option.bind_some,Sum.elim_inl,Sum.elim_inr,h1,false_and,if_false,ne_eq,h3,not_false_iff,true_or,if_true,X4m,Bool.and_false]
   ·have h':=X8j s i h
    rw [hg] at h
    generalize s.toList[i]=c at *
    simp only [hs,decide_true,cond_true]
    generalize (Utf8.decode s i)=d at *
    have e1:((d.1:Nat):Int)≥97:=by omega
    have e2:¬ ((d.1:Nat):Int)≤122:=by omega
    have e3:¬ ((d.1:Nat):Int)=45:=by omega
    have e4:¬ ((c.toNat:Int)≤122):=by omega
    have e5:¬ ((c.toNat:Int)=45):=by omega
    have q1:decide (((d.1:Nat):Int)≥97)=true:=decide_eq_true e1
    have q2:decide (((d.1:Nat):Int)≤122)=false:=decide_eq_false e2
    have q3:(((d.1:Nat):Int) != 45)=true:=bne_iff_ne.2 e3
    simp only [decide_true,decide_false,q1,q2,q3,cond_true,cond_false,Option.bind_some,Sum.elim_inl,Sum.elim_inr,e4,and_false,if_false,ne_eq,e5,not_false_iff,true_or,if_true,X4m,Bool.and_false])
 exact (key 0 45 (by omega) trivial).trans (by simp [X5m])

theorem X79 (s:ByteArray):X46 s=some (X5m s):=by
 unfold X46
 rw [X1A]
 simp only [Option.bind_some]
 by_cases hsz:1≤s.size∧s.size≤14
 ·have e1:inN (↑s.size) 1 14=true:=by simp [inN];omega
  rw [e1]
  simp only [Bool.not_true,cond_false]
  have hl:=X1U s
  have key:=X6 (X12 s) (fun o0=>Sum.elim (fun y76:Bool=>some y76) (fun _:Unit=>some true) o0) s.toList.length (fun i (_:Int)=>(i:Int)) (fun i b=>b=if i=0 then 45 else ((s.toList.getD (i-1) 0).toNat:Int)) (fun i b=>some (if i<s.toList.length then X4m (X5l b (s.toList.drop i)) else true))
   (by
    intro b _ R
    simp [X12,X1c,X1U])
   (by
    intro i b hi hP R hR
    have hs:i<s.size:=by rw [←X1U];exact hi
    simp only [X12,X1c]
    rw [List.drop_eq_getElem_cons hi]
    have hR':=hR ((s.toList[i]).toNat:Int) (by simp [List.getD,hi])
    have hw:IntKind.wrap .i64 ((i:Int)+1)=((i+1:Nat):Int):=by rw [w64]<;>omega
    have hw1:IntKind.wrap .i64 ((i:Int)-1)=((i:Int)-1):=by rw [w64]<;>omega
    have hw2:IntKind.wrap .i64 ((s.size:Int)-1)=((s.size:Int)-1):=by rw [w64]<;>omega
    simp only [X5l,Int.toNat_natCast,X1 _ _ _ hi,hw,hw1,hw2]
    have d1:decide ((i:Int)<↑s.size)=true:=by simp [hs]
    have d2:decide ((0:Int)≤↑i)=true:=by simp
    simp only [d1,d2,Bool.and_self,cond_true,hi,if_true]
    generalize hc:s.toList[i]=c at *
    by_cases h1:97≤(c.toNat:Int)∧(c.toNat:Int)≤122
    ·have q1:decide ((c.toNat:Int)≥97)=true:=decide_eq_true h1.1
     have q2:decide ((c.toNat:Int)≤122)=true:=decide_eq_true h1.2
     simp only [decide_true,decide_false,q1,q2,cond_true,Option.bind_some,Sum.elim_inl,h1,and_self,if_true]
     have hne:¬ ((c.toNat:Int)=45):=by omega
     rw [hR']
     by_cases hi2:i+1<s.toList.length
     ·simp [hi2]
     ·have:s.toList.drop (i+1)=[]:=List.drop_eq_nil_of_le (by omega)
      simp [hi2,this,X5l,X4m,hne]
    ·have g:(bif decide ((c.toNat:Int)≥97) then bif decide ((c.toNat:Int)≤122) then true else false else false)=false:=by
      by_cases a1:(c.toNat:Int)≥97
      ·by_cases a2:(c.toNat:Int)≤122
       ·exact absurd ⟨a1,a2⟩ h1
       ·simp [a1,a2]
      ·simp [a1]
     have g2:∀ (Z:Type) (x y:Z),(bif decide ((c.toNat:Int)≥97) then bif decide ((c.toNat:Int)≤122) then x else y else y)=y:=by
      intro Z x y
      by_cases a1:(c.toNat:Int)≥97
      ·by_cases a2:(c.toNat:Int)≤122
       ·exact absurd ⟨a1,a2⟩ h1
       ·simp [a1,a2]
      ·simp [a1]
     rw [g2,if_neg h1]
     by_cases h2:(c.toNat:Int)=45
     ·simp only [h2,bne_self_eq_false,cond_false]
      by_cases h3:i=0
      ·subst h3
       simp [hP,X4m]
      ·by_cases h4:i+1=s.size
       ·have:s.toList.drop (i+1)=[]:=List.drop_eq_nil_of_le (by omega)
        have e5:(i:Int)=(s.size:Int)-1:=by omega
        have e6:((s.size:Int)-1==0)=false:=by simp;omega
        simp only [e5,e6,this,X5l]
        by_cases h5:b=45<;>simp [h5,X4m]
       ·have e5:((i:Int)==(s.size:Int)-1)=false:=by simp;omega
        have e6:((i:Int)==0)=false:=by simp;omega
        have e7:(0:Int)≤(i:Int)-1:=by omega
        have e8:(i:Int)-1<(s.size:Int):=by omega
        have e9:((i:Int)-1).toNat=i-1:=by omega
        simp only [e5,e6,e7,e8,e9,cond_false,decide_true,Bool.and_self,cond_true]
        simp only [h3,if_false] at hP
        rw [←hP]
        by_cases h5:b=45
        ·simp [h5,X4m]
        ·have q5:(b==45)=false:=beq_eq_false_iff_ne.2 h5
         rw [h2] at hR'
         rw [q5]
         simp only [cond_false,Option.bind_some,Sum.elim_inl,ne_eq,not_true,false_or,h5,if_false]
         rw [hR']
         simp [show i+1<s.toList.length by omega]
     ·have:((c.toNat:Int) != 45)=true:=by simp [h2]
      simp [this,h2,X4m])
  have:=key 0 45 (by omega) (by simp)
  refine this.trans ?_
  simp [X5m,show 0<s.toList.length by omega,hsz.2]
 ·have e1:inN (↑s.size) 1 14=false:=by
   simp [inN];omega
  rw [e1]
  simp only [Bool.not_false,cond_true,X5m]
  by_cases h:s.size≤14
  ·have h0:s.toList=[]:=by
    apply List.eq_nil_of_length_eq_zero;rw [X1U];omega
   simp [h0,X5l,X4m]
  ·simp [h]

end Nore
open Go Go.Ab
namespace Nore

def X3v (m:Int) (p:Zu):Bool:=X4 (-m) m [p.X,p.Y]
def X4n:Int→List Zk→Int
 | _,[]=>0
 | last,p::l=>if X4 0 40000 [p.Day]||X4 0 4 [p.Colour] then 7 else if p.Day≤last then 2 else X4n p.Day l
def X3k (l:List Zk):Int:=if X4 1 4 [(l.length:Int)] then 3 else X4n (-1) l
def X7j (b:ZB) (m w:Int):Int:=if X4 (-m) m [b.X.Lo,b.X.Hi,b.Y.Lo,b.Y.Hi] then 7 else if X4 0 w [b.X.Hi-b.X.Lo,b.Y.Hi-b.Y.Lo] then 2 else 0

theorem X1g (n lo hi:Int):inN n lo hi = !X4 lo hi [n]:=by
 simp only [inN,X3V,X64,Bool.or_false,Bool.not_or]
 congr 1<;>rw [←decide_not,decide_eq_decide]<;>omega

theorem X4O (m:Int) (hm:0≤m∧m≤1000000) (l:List Zu) (hl:l.length<1000000):X3U m l=some (l.any (X3v m)):=by
 have hm1:IntKind.wrap .i64 (0-m) = -m:=by rw [w64]<;>omega
 have key:=X6 (X1l (↑l.length) l m) (fun o7=>Sum.elim (fun y8:Int×Zu×(List Int)=>some (decide (y8.fst≥0))) (fun _=>some (decide ((-1:Int)≥0))) o7) l.length (fun i (_:Unit)=>(i:Int)) (fun _ _=>True) (fun i _=>some ((l.drop i).any (X3v m)))
  (by
   intro b _ R
   simp [X1l,X1r])
  (by
   intro i b hi _ R hR
   have hR':=hR () trivial
   simp only [X1l,X1r]
   rw [List.drop_eq_getElem_cons hi]
   have hw:IntKind.wrap .i64 ((i:Int)+1)=((i+1:Nat):Int):=by rw [w64]<;>omega
   simp only [Int.toNat_natCast,X1 _ _ _ hi,List.any_cons,hm1,hw]
   rw [WW _ _ _ (by simp)]
   have h1:decide ((i:Int)<↑l.length)=true:=by simp [hi]
   have h2:decide ((0:Int)≤↑i)=true:=by simp
   simp only [h1,h2,Bool.and_self,cond_true,Option.bind_some]
   change Option.bind (bif X3v m l[i] then _ else _) _=_
   cases h3:X3v m l[i]
   ·simp;exact hR'
   ·simp)
 exact (key 0 () (by omega) trivial).trans (by simp)

theorem X57 (p:Zu) (m:Int) (hm:0≤m∧m≤1000000):X2u p m=some (!X3v m p):=by
 have hm1:IntKind.wrap .i64 (0-m) = -m:=by rw [w64]<;>omega
 unfold X2u
 rw [X1A,X1A,hm1,X1g,X1g]
 simp only [Option.bind_some,X3v,X3V,X64,Bool.or_false]
 cases (decide (p.X < -m)||decide (p.X>m))<;>simp

theorem X6A (l:List Zk):X30 l=some (X3k l):=by
 unfold X30 X3k
 rw [WW _ _ _ (by simp)]
 simp only [Option.bind_some]
 cases hb:X4 1 4 [(l.length:Int)]
 ·simp only [cond_false,Bool.false_eq_true,if_false]
  have hl:1≤l.length∧l.length≤4:=by simp at hb;omega
  exact X6 (W5 (↑l.length) l [↑l.length]) _ l.length (fun i (b:Int)=>(b,(i:Int))) (fun _ _=>True) (fun i b=>some (X4n b (l.drop i)))
   (by
    intro b _ R
    simp [W5,Wg,X4n])
   (by
    intro i b hi _ R hR
    have hR':=hR (l[i].Day) trivial
    simp only [W5,Wg]
    rw [List.drop_eq_getElem_cons hi]
    have hw:IntKind.wrap .i64 ((i:Int)+1)=((i+1:Nat):Int):=by rw [w64]<;>omega
    simp only [Int.toNat_natCast,X1 _ _ _ hi,X4n,hw]
    rw [WW _ _ _ (by simp),WW _ _ _ (by simp)]
    have h1:decide ((i:Int)<↑l.length)=true:=by simp [hi]
    have h2:decide ((0:Int)≤↑i)=true:=by simp
    simp only [h1,h2,Bool.and_self,cond_true,Option.bind_some]
    cases h3:X4 0 40000 [l[i].Day]
    ·cases h4:X4 0 4 [l[i].Colour]
     ·by_cases h5:l[i].Day≤b
      ·simp [h5]
      ·simp [h5];exact hR'
     ·simp
    ·simp) 0 (-1) (by omega) trivial
 ·simp

theorem X6C (l:List Zk):X2v l=some (X3k l):=by
 unfold X2v X3k
 rw [X1A,X1g]
 simp only [Option.bind_some]
 cases hb:X4 1 4 [(l.length:Int)]
 ·simp only [Bool.not_false,Bool.not_true,cond_false,Bool.false_eq_true,if_false]
  have hl:1≤l.length∧l.length≤4:=by simp at hb;omega
  exact X6 (Wa l) _ l.length (fun i (_:Int)=>(i:Int)) (fun i b=>b=if i=0 then -1 else (l.getD (i-1) ⟨0,0⟩).Day) (fun i b=>some (X4n b (l.drop i)))
   (by
    intro b _ R
    simp [Wa,Wm,X4n])
   (by
    intro i b hi hP R hR
    have hR':=hR (l[i].Day) (by simp [List.getD,hi])
    simp only [Wa,Wm]
    rw [List.drop_eq_getElem_cons hi]
    have hw:IntKind.wrap .i64 ((i:Int)+1)=((i+1:Nat):Int):=by rw [w64]<;>omega
    have hw1:IntKind.wrap .i64 ((i:Int)-1)=((i:Int)-1):=by rw [w64]<;>omega
    simp only [Int.toNat_natCast,X1 _ _ _ hi,X4n,hw,hw1]
    rw [X1A,X1A,X1g,X1g]
    have h1:decide ((i:Int)<↑l.length)=true:=by simp [hi]
    have h2:decide ((0:Int)≤↑i)=true:=by simp
    simp only [h1,h2,Bool.and_self,cond_true,Option.bind_some]
    cases h3:X4 0 40000 [l[i].Day]
    ·cases h4:X4 0 4 [l[i].Colour]
     ·by_cases h0:i=0
      ·subst h0
       simp at hP h3
       have h5:¬ l[0].Day≤b:=by omega
       simp [h5];simpa using hR'
      ·have e7:(0:Int)≤(i:Int)-1:=by omega
       have e8:(i:Int)-1<(l.length:Int):=by omega
       have e9:((i:Int)-1).toNat=i-1:=by omega
       have e10:(i:Int)>0:=by omega
       simp only [e7,e8,e9,e10,decide_true,Bool.and_self,cond_true]
       simp only [h0,if_false] at hP
       rw [←hP]
       by_cases h5:l[i].Day≤b
       ·simp [h5]
       ·simp [h5];exact hR'
     ·simp
    ·simp) 0 (-1) (by omega) (by simp)
 ·simp

theorem X7k (b:ZB) (m:Int) (hm:0≤m∧m≤1000000):X4C b m=some (X7j b m 40):=by
 have hm1:IntKind.wrap .i64 (0-m) = -m:=by rw [w64]<;>omega
 unfold X4C X7j
 rw [WW _ _ _ (by simp),hm1]
 simp only [Option.bind_some]
 cases hb:X4 (-m) m [b.X.Lo,b.X.Hi,b.Y.Lo,b.Y.Hi]
 ·simp at hb
  have h1:IntKind.wrap .i64 (b.X.Hi-b.X.Lo)=b.X.Hi-b.X.Lo:=by rw [w64]<;>omega
  have h2:IntKind.wrap .i64 (b.Y.Hi-b.Y.Lo)=b.Y.Hi-b.Y.Lo:=by rw [w64]<;>omega
  rw [h1,h2,WW _ _ _ (by simp)]
  simp only [Option.bind_some,cond_false,Bool.false_eq_true,if_false]
  cases X4 0 40 [b.X.Hi-b.X.Lo,b.Y.Hi-b.Y.Lo]<;>simp
 ·simp

def X2w (lo hi:Int):Int→List ZE→Int
 | e,[]=>e
 | e,s::l=>if X4 lo hi [s.Lo,s.Hi] then 7 else X2w lo hi (if s.Lo>s.Hi then 2 else e) l

theorem X2H (l:List ZE) (lo hi:Int) (hl:l.length<1000000):X22 l lo hi=some (X2w lo hi 0 l):=by
 unfold X22
 exact X6 (W9 lo l hi) _ l.length (fun i (b:Int)=>(b,(i:Int))) (fun _ _=>True) (fun i b=>some (X2w lo hi b (l.drop i)))
   (by
    intro b _ R
    simp [W9,Wl,X2w])
   (by
    intro i b hi' _ R hR
    simp only [W9,Wl]
    rw [List.drop_eq_getElem_cons hi']
    have hw:IntKind.wrap .i64 ((i:Int)+1)=((i+1:Nat):Int):=by rw [w64]<;>omega
    simp only [Int.toNat_natCast,X1 _ _ _ hi',X2w,hw]
    rw [X1A,X1A,X1g,X1g]
    have h1:decide ((i:Int)<↑l.length)=true:=by simp [hi']
    have h2:decide ((0:Int)≤↑i)=true:=by simp
    simp only [h1,h2,Bool.and_self,cond_true,Option.bind_some]
    have hsplit:X4 lo hi [l[i].Lo,l[i].Hi]=(X4 lo hi [l[i].Lo]||X4 lo hi [l[i].Hi]):=by simp
    rw [hsplit]
    cases h3:X4 lo hi [l[i].Lo]
    ·cases h4:X4 lo hi [l[i].Hi]
     ·by_cases h5:l[i].Lo>l[i].Hi
      ·have:=hR 2 trivial
       simp only [h5];simp;simpa using this
      ·have:=hR b trivial
       simp only [h5];simp;simpa using this
     ·simp
    ·simp) 0 0 (by omega) trivial

theorem X87 (b:ZB) (m w:Int) (hw:0≤w):(let e:=X2w (-m) m 0 [b.X,b.Y];if e=0 then (if b.X.Hi-b.X.Lo>w then 2 else if b.Y.Hi-b.Y.Lo>w then 2 else 0) else e)=X7j b m w:=by
 simp only [X2w,X7j,X3V,X64,Bool.or_false]
 generalize b.X.Lo=x,b.X.Hi=X,b.Y.Lo=y,b.Y.Hi=Y
 by_cases a1:x < -m∨x>m∨X < -m∨X>m
 ·have e1:(decide (x < -m)||decide (x>m)||(decide (X < -m)||decide (X>m)))=true:=by simp;omega
  have e2:(decide (x < -m)||decide (x>m)||(decide (X < -m)||decide (X>m)||(decide (y < -m)||decide (y>m)||(decide (Y < -m)||decide (Y>m)))))=true:=by simp;omega
  rw [e1,e2];simp
 ·have e1:(decide (x < -m)||decide (x>m)||(decide (X < -m)||decide (X>m)))=false:=by simp;omega
  rw [e1]
  by_cases a2:y < -m∨y>m∨Y < -m∨Y>m
  ·have e2:(decide (y < -m)||decide (y>m)||(decide (Y < -m)||decide (Y>m)))=true:=by simp;omega
   have e3:(decide (x < -m)||decide (x>m)||(decide (X < -m)||decide (X>m)||(decide (y < -m)||decide (y>m)||(decide (Y < -m)||decide (Y>m)))))=true:=by simp;omega
   rw [e3,e2];simp
  ·have e2:(decide (y < -m)||decide (y>m)||(decide (Y < -m)||decide (Y>m)))=false:=by simp;omega
   have e3:(decide (x < -m)||decide (x>m)||(decide (X < -m)||decide (X>m)||(decide (y < -m)||decide (y>m)||(decide (Y < -m)||decide (Y>m)))))=false:=by simp;omega
   rw [e3,e2]
   simp only [Bool.false_eq_true,if_false]
   by_cases b1:Y<y
   ·have e4:(decide (X-x<0)||decide (X-x>w)||(decide (Y-y<0)||decide (Y-y>w)))=true:=by simp;omega
    rw [e4]
    simp [b1]
   ·by_cases b2:X<x
    ·have e4:(decide (X-x<0)||decide (X-x>w)||(decide (Y-y<0)||decide (Y-y>w)))=true:=by simp;omega
     rw [e4]
     simp [b1,b2]
    ·simp only [gt_iff_lt,b1,b2,if_false]
     by_cases b3:X-x>w
     ·have e4:(decide (X-x<0)||decide (w<X-x)||(decide (Y-y<0)||decide (w<Y-y)))=true:=by simp;omega
      rw [e4];simp;omega
     ·by_cases b4:Y-y>w
      ·have e4:(decide (X-x<0)||decide (w<X-x)||(decide (Y-y<0)||decide (w<Y-y)))=true:=by simp;omega
       rw [e4];simp;omega
      ·have e4:(decide (X-x<0)||decide (w<X-x)||(decide (Y-y<0)||decide (w<Y-y)))=false:=by simp;omega
       rw [e4];simp;omega

theorem X8t (lo hi:Int) (b:ZB) (h:X2w lo hi 0 [b.X,b.Y]=0):lo≤b.X.Lo∧b.X.Hi≤hi∧b.X.Lo≤b.X.Hi∧lo≤b.Y.Lo∧b.Y.Hi≤hi∧b.Y.Lo≤b.Y.Hi:=by
 simp only [X2w,X3V,X64,Bool.or_false] at h
 split at h
 ·simp at h
 ·split at h
  ·simp at h
  ·rename_i h1 h2
   simp at h1 h2
   split at h
   ·simp at h
   ·split at h
    ·simp at h
    ·omega

theorem X7s (b:ZB) (m:Int) (hm:0≤m∧m≤1000000):X4H b (-m) m=some (X7j b m 40):=by
 unfold X4H
 rw [X2H _ _ _ (by simp)]
 rw [←X87 b m 40 (by omega)]
 simp only [Option.bind_some]
 by_cases h:X2w (-m) m 0 [b.X,b.Y]=0
 ·have hb:=X8t _ _ _ h
  have h1:IntKind.wrap .i64 (b.X.Hi-b.X.Lo)=b.X.Hi-b.X.Lo:=by rw [w64]<;>omega
  have h2:IntKind.wrap .i64 (b.Y.Hi-b.Y.Lo)=b.Y.Hi-b.Y.Lo:=by rw [w64]<;>omega
  rw [h1,h2,h]
  by_cases h3:b.X.Hi-b.X.Lo>40
  ·simp [h3]
  ·by_cases h4:b.Y.Hi-b.Y.Lo>40<;>simp [h3,h4]
 ·have h':(X2w (-m) m 0 [b.X,b.Y]==0)=false:=beq_eq_false_iff_ne.2 h
  rw [h',if_neg h];rfl

end Nore
open Go Go.Ab
namespace Nore

theorem X4y {a b:Int} (A B:Int) (h1 : -A≤a) (h2:a≤A) (h3 : -B≤b) (h4:b≤B) : -(A*B)≤a*b∧a*b≤A*B:=by
 have p1:=Int.mul_nonneg (show 0≤A-a by omega) (show 0≤B+b by omega)
 have p2:=Int.mul_nonneg (show 0≤A+a by omega) (show 0≤B-b by omega)
 have p3:=Int.mul_nonneg (show 0≤A-a by omega) (show 0≤B-b by omega)
 have p4:=Int.mul_nonneg (show 0≤A+a by omega) (show 0≤B+b by omega)
 constructor<;>grind

def X2r (p:Nat→Bool):Nat→Nat→Bool
 | _,0=>true
 | i,k+1=>p i&&X2r p (i+1) k

theorem X6h (p:Nat→Bool) (k i:Nat):X2r p i k=true↔∀ j,i≤j→j<i+k→p j=true:=by
 induction k generalizing i with
 | zero=>simp [X2r];intro j h1 h2;omega
 | succ k ih =>
  simp only [X2r,Bool.and_eq_true,ih]
  constructor
  ·rintro ⟨h1,h2⟩ j h3 h4
   by_cases h:j=i
   ·subst h;exact h1
   ·exact h2 j (by omega) (by omega)
  ·intro h
   exact ⟨h i (by omega) (by omega),fun j h1 h2=>h j (by omega) (by omega)⟩

def W0 (a b:Zu):Zu:=⟨a.X-b.X,a.Y-b.Y⟩
def X1R (a b:Zu):Int:=a.X*b.Y-a.Y*b.X
def P0:Zu:=⟨0,0⟩
def X7g (l:List Zu) (i:Nat):Bool :=
 X2r (fun m=>m==i||m==(i+1) % l.length||decide (0<X1R (W0 (l.getD ((i+1) % l.length) P0) (l.getD i P0)) (W0 (l.getD m P0) (l.getD i P0)))) 0 l.length
def X6g (l:List Zu):Bool:=X2r (X7g l) 0 l.length
def X69 (s:CtSand):Int :=
 if X4 3 8 [(s.Corners.length:Int)] then 3 else if s.Corners.any (X3v 10000) then 7 else if X7j s.Moves 500 40=0 then (if X6g s.Corners then 0 else 9) else X7j s.Moves 500 40

def Bd (A:Int) (p:Zu):Prop := -A≤p.X∧p.X≤A ∧ -A≤p.Y∧p.Y≤A
theorem X6G (A:Int) (p:Zu):X3v A p=false↔Bd A p:=by
 simp [X3v,Bd];omega
theorem X5u {A:Int} {l:List Zu} (h:l.any (X3v A)=false) (i:Nat) (hi:i<l.length):Bd A l[i]:=by
 rw [List.any_eq_false] at h
 rw [←X6G]
 simpa using h l[i] (List.getElem_mem hi)

theorem X6x {a b:Int} (A:Int) (hA:A≤1000000) (h1 : -A≤a∧a≤A) (h2 : -A≤b∧b≤A):IntKind.wrap .i64 (a-b)=a-b:=by rw [w64]<;>omega
theorem X8D {a b c d:Int} (A:Int) (hA:A=2000000) (h1 : -A≤a∧a≤A) (h2 : -A≤b∧b≤A) (h3 : -A≤c∧c≤A) (h4 : -A≤d∧d≤A):IntKind.wrap .i64 (IntKind.wrap .i64 (a*b)-IntKind.wrap .i64 (c*d))=a*b-c*d:=by
 subst hA
 have p:=X4y _ _ h1.1 h1.2 h2.1 h2.2
 have q:=X4y _ _ h3.1 h3.2 h4.1 h4.2
 rw [w64 (x:=a*b),w64 (x:=c*d),w64]<;>omega

theorem X7c (l:List Zu) (hl:3≤l.length∧l.length≤8) (hf:l.any (X3v 10000)=false) (i:Nat) (hi:i<l.length) :
  X23 (i:Int) l (((i+1) % l.length:Nat):Int) 0=some (if X7g l i then .inr () else .inl false):=by
 have hk:(i+1) % l.length<l.length:=Nat.mod_lt _ (by omega)
 unfold X7g
 generalize hkk:(i+1) % l.length=k at *
 have key:=X5z (WA (i:Int) l (k:Int)) l.length (fun j (_:Unit)=>(j:Int)) (fun _ _=>True) (fun j _=>some (if X2r (fun m=>m==i||m==k||decide (0<X1R (W0 (l.getD k P0) (l.getD i P0)) (W0 (l.getD m P0) (l.getD i P0)))) j (l.length-j) then .inr () else .inl false))
  (by
   intro b _ R
   simp [WA,WT,X2r])
  (by
   intro m b hm _ R hR
   have hR':=hR () trivial
   rw [show l.length-m=(l.length-(m+1))+1 by omega]
   simp only [X2r]
   simp only [WA,WT]
   have hw:IntKind.wrap .i64 ((m:Int)+1)=((m+1:Nat):Int):=by rw [w64]<;>omega
   simp only [Int.toNat_natCast,X1 _ _ _ hm,X1 _ _ _ hi,X1 _ _ _ hk,hw]
   have b1:=X5u hf m hm
   have b2:=X5u hf i hi
   have b3:=X5u hf k hk
   unfold Bd at b1 b2 b3
   rw [X6x 10000 (by omega) ⟨b3.1,b3.2.1⟩ ⟨b2.1,b2.2.1⟩,X6x 10000 (by omega) b1.2.2 b2.2.2,X6x 10000 (by omega) b3.2.2 b2.2.2,X6x 10000 (by omega) ⟨b1.1,b1.2.1⟩ ⟨b2.1,b2.2.1⟩]
   rw [X8D 2000000 rfl (by omega) (by omega) (by omega) (by omega)]
   have d1:decide ((m:Int)<↑l.length)=true:=by simp [hm]
   have d2:decide ((0:Int)≤↑m)=true:=by simp
   have d3:decide ((i:Int)<↑l.length)=true:=by simp [hi]
   have d4:decide ((0:Int)≤↑i)=true:=by simp
   have d5:decide ((k:Int)<↑l.length)=true:=by simp [hk]
   have d6:decide ((0:Int)≤↑k)=true:=by simp
   simp only [d1,d2,d3,d4,d5,d6,Bool.and_self,cond_true]
   change Option.bind (bif ((m:Int) != ↑i) then bif ((m:Int) != ↑k) then bif decide (X1R (W0 l[k] l[i]) (W0 l[m] l[i])≤0) then _ else _ else _ else _) _=_
   by_cases e1:m=i
   ·have:((m:Int) != (i:Int))=false:=by simp [e1]
    rw [this];simp [e1];simpa [e1,hi,hk] using hR'
   ·have t1:((m:Int) != (i:Int))=true:=by simp;omega
    by_cases e2:m=k
    ·have:((m:Int) != (k:Int))=false:=by simp [e2]
     rw [t1,this];simp [e2];simpa [e2,hi,hk] using hR'
    ·have t2:((m:Int) != (k:Int))=true:=by simp;omega
     rw [t1,t2]
     by_cases e3:X1R (W0 l[k] l[i]) (W0 l[m] l[i])≤0
     ·have t3:¬ 0<X1R (W0 l[k] l[i]) (W0 l[m] l[i]):=by omega
      simp [e1,e2,e3,t3]
     ·have t3:0<X1R (W0 l[k] l[i]) (W0 l[m] l[i]):=by omega
      simp [e1,e2,e3,t3];simpa [hi,hk] using hR')
 have:=key 0 () (by omega) trivial
 simpa [X23] using this

theorem X6X (l:List Zu) (hl:3≤l.length∧l.length≤8) (hf:l.any (X3v 10000)=false):X3H l=some (X6g l):=by
 unfold X3H X6g
 have key:=X6 (Wz l) (fun o103=>Sum.elim (fun y104:Bool=>some y104) (fun _:Unit=>some true) o103) l.length (fun i (_:Unit)=>(i:Int)) (fun _ _=>True) (fun i _=>some (X2r (X7g l) i (l.length-i)))
  (by
   intro b _ R
   simp [Wz,WS,X2r])
  (by
   intro i b hi _ R hR
   have hR':=hR () trivial
   rw [show l.length-i=(l.length-(i+1))+1 by omega]
   simp only [X2r]
   simp only [Wz,WS]
   have hw:IntKind.wrap .i64 ((i:Int)+1)=((i+1:Nat):Int):=by rw [w64]<;>omega
   have hm:Int.tmod ((i+1:Nat):Int) (l.length:Int)=(((i+1) % l.length:Nat):Int):=rfl
   have d1:decide ((i:Int)<↑l.length)=true:=by simp [hi]
   have d2:((l.length:Int)==0)=false:=by simp;intro h;simp [h] at hl
   simp only [hw,hm,d1,d2,cond_true,cond_false]
   rw [X7c l hl hf i hi]
   simp only [Option.bind_some]
   cases h:X7g l i
   ·simp
   ·simp;simpa using hR')
 exact (key 0 () (by omega) trivial).trans (by simp)

theorem X7a (s:CtSand):X48 s=some (X69 s):=by
 unfold X48 X69
 rw [X1A,X1g]
 simp only [Option.bind_some]
 cases hb:X4 3 8 [(s.Corners.length:Int)]
 ·have hl:3≤s.Corners.length∧s.Corners.length≤8:=by simp at hb;omega
  simp only [Bool.not_false,Bool.not_true,cond_false,Bool.false_eq_true,if_false]
  have key:=X5z (Wb s) s.Corners.length (fun i (_:Unit)=>(i:Int)) (fun _ _=>True) (fun i _=>some (if (s.Corners.drop i).any (X3v 10000) then .inl 7 else .inr ()))
   (by
    intro b _ R
    simp [Wb,X1d])
   (by
    intro i b hi _ R hR
    have hR':=hR () trivial
    simp only [Wb,X1d]
    rw [List.drop_eq_getElem_cons hi]
    have hw:IntKind.wrap .i64 ((i:Int)+1)=((i+1:Nat):Int):=by rw [w64]<;>omega
    simp only [Int.toNat_natCast,X1 _ _ _ hi,List.any_cons,hw]
    rw [X57 _ _ (by omega)]
    have h1:decide ((i:Int)<↑s.Corners.length)=true:=by simp [hi]
    have h2:decide ((0:Int)≤↑i)=true:=by simp
    simp only [h1,h2,Bool.and_self,cond_true,Option.bind_some]
    by_cases h3:X3v 10000 s.Corners[i]=true
    ·simp [h3]
    ·simp [h3];simpa using hR')
  have k0:=key 0 () (by omega) trivial
  simp only [List.drop_zero,Int.natCast_zero] at k0
  unfold X3m
  have k0':Z8S (Wb s) 0=some (if s.Corners.any (X3v 10000) then .inl 7 else .inr ()):=k0
  rw [k0']
  simp only [Option.bind_some]
  cases hf:s.Corners.any (X3v 10000)
  ·simp only [Bool.false_eq_true,if_false,Sum.elim_inr]
   rw [X7s _ _ (by omega),X6X _ hl hf]
   simp only [Option.bind_some]
   by_cases h:X7j s.Moves 500 40=0
   ·rw [h]
    cases X6g s.Corners<;>simp
   ·simp [h,X4c h]
  ·simp
 ·simp

end Nore
open Go Go.Ab
namespace Nore

theorem X8X {α:Type} (P:α→Bool) (l:List α):l.countP P=0↔∀ m,(h:m<l.length)→P l[m]=false:=by
 rw [List.countP_eq_zero]
 constructor
 ·intro h m hm;simpa using h l[m] (List.getElem_mem hm)
 ·intro h a ha
  obtain ⟨m,hm,rfl⟩:=List.getElem_of_mem ha
  simp [h m hm]

theorem X8U {α:Type} (P:α→Bool) (l:List α):∀ i,(hi:i<l.length)→P l[i]=true→(l.countP P=1↔∀ m,(h:m<l.length)→m≠i→P l[m]=false):=by
 induction l with
 | nil=>intro i hi;simp at hi
 | cons a t ih =>
  intro i hi hP
  cases i with
  | zero =>
   simp only [List.getElem_cons_zero] at hP
   rw [List.countP_cons_of_pos hP]
   rw [show (t.countP P+1=1)↔t.countP P=0 by omega,X8X]
   constructor
   ·intro h m hm hne
    cases m with
    | zero=>exact absurd rfl hne
    | succ m=>simpa using h m (by simpa using hm)
   ·intro h m hm
    exact h (m+1) (by simpa using hm) (by omega)
  | succ i =>
   simp only [List.getElem_cons_succ] at hP
   have hi':i<t.length:=by simpa using hi
   have hpos:0<t.countP P:=by
    rw [List.countP_pos_iff];exact ⟨t[i],List.getElem_mem hi',hP⟩
   have ih':=ih i hi' hP
   cases ha:P a
   ·rw [List.countP_cons_of_neg (by simp [ha]),ih']
    constructor
    ·intro h m hm hne
     cases m with
     | zero=>simpa using ha
     | succ m=>simpa using h m (by simpa using hm) (by omega)
    ·intro h m hm hne
     exact h (m+1) (by simpa using hm) (by omega)
   ·rw [List.countP_cons_of_pos ha]
    constructor
    ·intro h;omega
    ·intro h
     have:=h 0 (by simp) (by omega)
     simp [ha] at this

theorem X8V {α:Type} (P:α→Bool) (l:List α):∀ i k,(hi:i<l.length)→(hk:k<l.length)→i<k→P l[i]=true→P l[k]=true→(l.countP P=2↔∀ m,(h:m<l.length)→m≠i→m≠k→P l[m]=false):=by
 induction l with
 | nil=>intro i k hi;simp at hi
 | cons a t ih =>
  intro i k hi hk hik hP hQ
  cases k with
  | zero=>omega
  | succ k =>
   simp only [List.getElem_cons_succ] at hQ
   have hk':k<t.length:=by simpa using hk
   cases i with
   | zero =>
    simp only [List.getElem_cons_zero] at hP
    rw [List.countP_cons_of_pos hP]
    rw [show (t.countP P+1=2)↔t.countP P=1 by omega,X8U P t k hk' hQ]
    constructor
    ·intro h m hm hne hne2
     cases m with
     | zero=>exact absurd rfl hne
     | succ m=>simpa using h m (by simpa using hm) (by omega)
    ·intro h m hm hne
     exact h (m+1) (by simpa using hm) (by omega) (by omega)
   | succ i =>
    simp only [List.getElem_cons_succ] at hP
    have hi':i<t.length:=by simpa using hi
    have ih':=ih i k hi' hk' (by omega) hP hQ
    cases ha:P a
    ·rw [List.countP_cons_of_neg (by simp [ha]),ih']
     constructor
     ·intro h m hm hne hne2
      cases m with
      | zero=>simpa using ha
      | succ m=>simpa using h m (by simpa using hm) (by omega) (by omega)
     ·intro h m hm hne hne2
      exact h (m+1) (by simpa using hm) (by omega) (by omega)
    ·have hpos:2≤t.countP P:=by
      have h1:=X8U P t i hi' hP
      have:0<t.countP P:=by
       rw [List.countP_pos_iff];exact ⟨t[i],List.getElem_mem hi',hP⟩
      by_cases e:t.countP P=1
      ·have:=h1.1 e k hk' (by omega)
       simp [hQ] at this
      ·omega
     rw [List.countP_cons_of_pos ha]
     constructor
     ·intro h;omega
     ·intro h
      have:=h 0 (by simp) (by omega) (by omega)
      simp [ha] at this

def X42 (l:List Zu) (a b:Zu):Bool :=
 (l.countP fun p=>decide (X1R (W0 b a) (W0 p a)≤0))==2 && !((b.X-a.X==0)&&(b.Y-a.Y==0))
def X4A (l:List Zu):Zu→List Zu→Bool
 | _,[]=>true
 | last,p::r=>X42 l last p&&X4A l p r

theorem X8m (a b:Zu):X1R (W0 b a) (W0 b a)=0:=by simp [X1R,Int.mul_comm]
theorem X8n (a b:Zu):X1R (W0 b a) (W0 a a)=0:=by simp [X1R,W0]

theorem X7n (l:List Zu) (hl:3≤l.length) (i k:Nat) (hi:i<l.length) (hk:k<l.length) (hne:i≠k) :
  X42 l l[i] l[k]=X2r (fun m=>m==i||m==k||decide (0<X1R (W0 (l.getD k P0) (l.getD i P0)) (W0 (l.getD m P0) (l.getD i P0)))) 0 l.length:=by
 rw [Bool.eq_iff_iff,X6h]
 have hPi:decide (X1R (W0 l[k] l[i]) (W0 l[i] l[i])≤0)=true:=by rw [X8n];rfl
 have hPk:decide (X1R (W0 l[k] l[i]) (W0 l[k] l[i])≤0)=true:=by rw [X8m];rfl
 have hc:(l.countP fun p=>decide (X1R (W0 l[k] l[i]) (W0 p l[i])≤0))=2↔∀ m,(h:m<l.length)→m≠i→m≠k→decide (X1R (W0 l[k] l[i]) (W0 l[m] l[i])≤0)=false:=by
  by_cases hik:i<k
  ·exact X8V (fun p=>decide (X1R (W0 l[k] l[i]) (W0 p l[i])≤0)) l i k hi hk hik hPi hPk
  ·have:=X8V (fun p=>decide (X1R (W0 l[k] l[i]) (W0 p l[i])≤0)) l k i hk hi (by omega) hPk hPi
   rw [this]
   constructor
   ·intro h m hm h1 h2;exact h m hm h2 h1
   ·intro h m hm h1 h2;exact h m hm h2 h1
 simp only [X42,Bool.and_eq_true,beq_iff_eq,hc]
 constructor
 ·rintro ⟨h,_⟩ m _ hm
  have hm':m<l.length:=by omega
  by_cases e1:m=i
  ·simp [e1]
  ·by_cases e2:m=k
   ·simp [e2]
   ·have:=h m hm' e1 e2
    simp only [X1 _ _ _ hm',X1 _ _ _ hi,X1 _ _ _ hk]
    simp at this
    simp [this]
 ·intro h
  have h':∀ m,(hm:m<l.length)→m≠i→m≠k→0<X1R (W0 l[k] l[i]) (W0 l[m] l[i]):=fun m hm e1 e2=>by
   have:=h m (by omega) (by omega)
   simp only [X1 _ _ _ hm,X1 _ _ _ hi,X1 _ _ _ hk] at this
   simpa [e1,e2] using this
  refine ⟨fun m hm e1 e2 => ?_,?_⟩
  ·have:=h' m hm e1 e2
   simp;omega
  ·have:∃ m,m<l.length∧m≠i∧m≠k:=by
    by_cases a0:0≠i∧0≠k
    ·exact ⟨0,by omega,a0⟩
    ·by_cases a1:1≠i∧1≠k
     ·exact ⟨1,by omega,a1⟩
     ·exact ⟨2,by omega,by omega,by omega⟩
   obtain ⟨m,hm,e1,e2⟩:=this
   have:=h' m hm e1 e2
   rw [Bool.not_eq_true',Bool.eq_false_iff]
   intro hz
   simp only [Bool.and_eq_true,beq_iff_eq] at hz
   simp [X1R,W0,hz.1,hz.2] at this

theorem X85 (l:List Zu):∀ k i,i+k=l.length→1≤i→(hi:i-1<l.length)→(X4A l l[i-1] (l.drop i)=true↔∀ j,(h1:i≤j)→(h2:j<l.length)→X42 l l[j-1] l[j]=true):=by
 intro k
 induction k with
 | zero =>
  intro i hk h1 hi
  rw [List.drop_eq_nil_of_le (by omega)]
  simp [X4A]
  intro j h1 h2;omega
 | succ k ih =>
  intro i hk h1 hi
  have hi2:i<l.length:=by omega
  rw [List.drop_eq_getElem_cons hi2]
  simp only [X4A,Bool.and_eq_true]
  have:=ih (i+1) (by omega) (by omega) (by omega)
  simp only [Nat.add_sub_cancel] at this
  rw [this]
  constructor
  ·rintro ⟨g,h⟩ j a b
   by_cases e:j=i
   ·subst e;exact g
   ·exact h j (by omega) b
  ·intro h
   exact ⟨h i (by omega) hi2,fun j a b=>h j (by omega) b⟩

theorem X7M (l:List Zu) (hl:3≤l.length):X4A l (l.getD (l.length-1) P0) l=X6g l:=by
 rw [Bool.eq_iff_iff]
 have e:X4A l (l.getD (l.length-1) P0) l=(X42 l l[l.length-1] l[0]&&X4A l l[1-1] (l.drop 1)):=by
  conv=>lhs;rw [show l=l[0]::l.drop 1 by rw [←List.drop_eq_getElem_cons (by omega)];rfl]
  rw [←show l=l[0]::l.drop 1 by rw [←List.drop_eq_getElem_cons (by omega)];rfl]
  rw [X1 _ _ _ (by omega)]
  conv=>lhs;arg 3;rw [show l=l[0]::l.drop 1 by rw [←List.drop_eq_getElem_cons (by omega)];rfl]
  rfl
 rw [e]
 simp only [Bool.and_eq_true]
 rw [X85 l (l.length-1) 1 (by omega) (by omega) (by omega)]
 unfold X6g
 rw [X6h]
 have hside:∀ i,(hi:i<l.length)→X7g l i=X42 l l[i] (l[(i+1) % l.length]'(Nat.mod_lt _ (by omega))):=fun i hi=>by
  have hk:(i+1) % l.length<l.length:=Nat.mod_lt _ (by omega)
  have hne:i≠(i+1) % l.length:=by
   by_cases h:i+1<l.length
   ·rw [Nat.mod_eq_of_lt h];omega
   ·have:i+1=l.length:=by omega
    rw [this,Nat.mod_self];omega
  rw [X7n l hl i _ hi hk hne]
  rfl
 constructor
 ·rintro ⟨h0,h⟩ i _ hi
  have hi':i<l.length:=by omega
  rw [hside i hi']
  by_cases hh:i+1<l.length
  ·have:=h (i+1) (by omega) hh
   simp only [Nat.mod_eq_of_lt hh]
   simpa using this
  ·have e1:i=l.length-1:=by omega
   subst e1
   simp only [show l.length-1+1=l.length by omega,Nat.mod_self]
   exact h0
 ·intro h
  constructor
  ·have:=h (l.length-1) (by omega) (by omega)
   rw [hside _ (by omega)] at this
   simpa only [show l.length-1+1=l.length by omega,Nat.mod_self] using this
  ·intro j h1 h2
   have:=h (j-1) (by omega) (by omega)
   rw [hside _ (by omega)] at this
   simpa only [show j-1+1=j by omega,Nat.mod_eq_of_lt h2] using this

theorem X6z (l:List Zu) (hl:l.length≤8) (hf:l.any (X3v 10000)=false) (x4:Z8) (x5:Bool) (x6:Int) (x7:Bool) (x8:Z8) (x9:Bool) (x10:Int) (x11:Z8) (s:Z6) (a b:Zu) (ha:Bd 10000 a) (hb:Bd 10000 b) (hs:s=⟨a,W0 b a⟩) :
  Wq (↑l.length) l x4 x5 x6 x7 x8 x9 x10 x11 s (0,0)=some ((l.countP fun p=>decide (X1R (W0 b a) (W0 p a)≤0):Nat):Int):=by
 subst hs
 unfold Bd at ha hb
 have key:=X5z (Xo (↑l.length) l x4 x5 x6 x7 x8 x9 x10 x11 ⟨a,W0 b a⟩) l.length (fun i (c:Nat)=>((c:Int),(i:Int))) (fun i c=>c≤i) (fun i c=>some (((c+(l.drop i).countP fun p=>decide (X1R (W0 b a) (W0 p a)≤0):Nat)):Int))
  (by
   intro b _ R
   simp [Xo,Xv])
  (by
   intro i c hi hc R hR
   simp only [Xo,Xv]
   rw [List.drop_eq_getElem_cons hi]
   have hw:IntKind.wrap .i64 ((i:Int)+1)=((i+1:Nat):Int):=by rw [w64]<;>omega
   have hw2:IntKind.wrap .i64 ((c:Int)+1)=((c+1:Nat):Int):=by rw [w64]<;>omega
   have bp:=X5u hf i hi
   unfold Bd at bp
   simp only [Int.toNat_natCast,X1 _ _ _ hi,hw,hw2,W0]
   rw [X6x 10000 (by omega) bp.2.2 ha.2.2,X6x 10000 (by omega) ⟨bp.1,bp.2.1⟩ ⟨ha.1,ha.2.1⟩]
   rw [X8D 2000000 rfl (by omega) (by omega) (by omega) (by omega)]
   have h1:decide ((i:Int)<↑l.length)=true:=by simp [hi]
   have h2:decide ((0:Int)≤↑i)=true:=by simp
   simp only [h1,h2,Bool.and_self,cond_true]
   change Option.bind (bif decide (X1R (W0 b a) (W0 l[i] a)≤0) then _ else _) _=_
   change _=some (((c+List.countP (fun p=>decide (X1R (W0 b a) (W0 p a)≤0)) (l[i]::List.drop (i+1) l):Nat)):Int)
   by_cases h:X1R (W0 b a) (W0 l[i] a)≤0
   ·rw [List.countP_cons_of_pos (by simpa using h)]
    simp only [h,decide_true,cond_true,Option.bind_some,Sum.elim_inl]
    rw [hR (c+1) (by omega)]
    congr 1
    show ((_:Nat):Int)=((_:Nat):Int)
    congr 1
    show c+1+_=c+(_+1)
    simp only [W0]
    omega
   ·rw [List.countP_cons_of_neg (by simpa using h)]
    simp only [h,decide_false,cond_false,Option.bind_some,Sum.elim_inl]
    rw [hR c (by omega)])
 have:=key 0 0 (by omega) (by omega)
 simpa [Wq] using this

theorem X5A (s:Z8):X1K s=some (X69 s.CtSand):=by
 obtain ⟨s⟩:=s
 unfold X1K X69
 rw [WW _ _ _ (by simp)]
 simp only [Option.bind_some]
 cases hb:X4 3 8 [(s.Corners.length:Int)]
 ·have hl:3≤s.Corners.length∧s.Corners.length≤8:=by simp at hb;omega
  simp only [cond_false,Bool.false_eq_true,if_false]
  rw [X4O _ (by omega) _ (by omega)]
  simp only [Option.bind_some]
  cases hf:s.Corners.any (X3v 10000)
  ·simp only [cond_false,Bool.false_eq_true,if_false]
   rw [X7k _ _ (by omega)]
   simp only [Option.bind_some]
   by_cases h:X7j s.Moves 500 40=0
   ·have hw:IntKind.wrap .i64 ((s.Corners.length:Int)-1)=(s.Corners.length:Int)-1:=by rw [w64]<;>omega
    have ht:((s.Corners.length:Int)-1).toNat=s.Corners.length-1:=by omega
    have h1:decide ((0:Int)≤(s.Corners.length:Int)-1)=true:=by simp;omega
    have h2:decide ((s.Corners.length:Int)-1<(s.Corners.length:Int))=true:=by simp;omega
    simp only [h,hw,ht,h1,h2,bne_self_eq_false,cond_false,Bool.and_self,cond_true,if_true]
    rw [←X7M _ hl.1]
    have hlast:Bd 10000 (s.Corners.getD (s.Corners.length-1) P0):=by
     rw [X1 _ _ _ (by omega)];exact X5u hf _ (by omega)
    refine (X6 (Xn (↑s.Corners.length) s.Corners ⟨s⟩ false 0 false ⟨s⟩ false 0 ⟨s⟩ [(↑s.Corners.length:Int)]) _ s.Corners.length (fun i (b:Zu)=>((i:Int),b)) (fun _ b=>Bd 10000 b) (fun i b=>some (if X4A s.Corners b (s.Corners.drop i) then 0 else 9)) ?_ ?_ 0 _ (by omega) hlast).trans (by simp)
    ·intro b _ R
     simp [Xn,Xu,X4A]
    ·intro i b hi hP R hR
     have bp:=X5u hf i hi
     have hR':=hR s.Corners[i] bp
     simp only [Xn,Xu]
     rw [List.drop_eq_getElem_cons hi]
     have hw:IntKind.wrap .i64 ((i:Int)+1)=((i+1:Nat):Int):=by rw [w64]<;>omega
     simp only [Int.toNat_natCast,X1 _ _ _ hi,hw,X4A]
     have bp':=bp
     have hP':=hP
     unfold Bd at bp' hP'
     rw [X6x 10000 (by omega) bp'.2.2 hP'.2.2,X6x 10000 (by omega) ⟨bp'.1,bp'.2.1⟩ ⟨hP'.1,hP'.2.1⟩]
     rw [X6z s.Corners hl.2 hf _ _ _ _ _ _ _ _ ⟨⟨b.X,b.Y⟩,⟨s.Corners[i].X-b.X,s.Corners[i].Y-b.Y⟩⟩ b s.Corners[i] hP bp rfl]
     have h1:decide ((i:Int)<↑s.Corners.length)=true:=by simp [hi]
     have h2:decide ((0:Int)≤↑i)=true:=by simp
     simp only [h1,h2,Bool.and_self,cond_true,Option.bind_some]
     have hg:X42 s.Corners b s.Corners[i]=((s.Corners.countP fun p=>decide (X1R (W0 s.Corners[i] b) (W0 p b)≤0))==2 && !((s.Corners[i].X-b.X==0)&&(s.Corners[i].Y-b.Y==0))):=rfl
     generalize (s.Corners.countP fun p=>decide (X1R (W0 s.Corners[i] b) (W0 p b)≤0))=c at hg ⊢
     by_cases h3:c=2
     ·subst h3
      cases h4:(s.Corners[i].X-b.X==0)
      ·simp only [h4,Bool.false_and,Bool.not_false,Bool.and_true,beq_self_eq_true] at hg
       simp [hg];simpa using hR'
      ·cases h5:(s.Corners[i].Y-b.Y==0)
       ·simp only [h4,h5,Bool.and_false,Bool.not_false,Bool.and_true,beq_self_eq_true] at hg
        simp [hg];simpa using hR'
       ·simp only [h4,h5,Bool.and_self,Bool.not_true,Bool.and_false] at hg
        simp [hg]
     ·have h3':(((c:Nat):Int) != 2)=true:=by simp;omega
      have h3'':(c==2)=false:=by simp [h3]
      rw [h3'',Bool.false_and] at hg
      simp [h3',hg]
   ·rw [WE h,if_neg h];rfl
  ·simp
 ·simp

end Nore
open Go Go.Ab
namespace Nore

theorem Z7X (a b:ByteArray):(a==b)=(a.data==b.data):=by cases a;cases b;rfl
instance:LawfulBEq ByteArray where
 rfl:=by intro a;rw [Z7X];simp
 eq_of_beq:=by
  intro a b h
  rw [Z7X] at h
  have:=eq_of_beq h
  cases a;cases b
  simp only at this
  rw [this]
instance:DecidableEq ByteArray:=fun a b=>if h:(a==b)=true then isTrue (eq_of_beq h) else isFalse (fun e=>h (by rw [e];simp))

theorem X5U {v:Int} (s k:ByteArray):∀ m:List (ByteArray×Int),Z8z (fun a b=>a==b) s (Zgh (fun a b=>a==b) k v m)=if s=k then some v else Z8z (fun a b=>a==b) s m
 | []=>by
  by_cases h:s=k
  ·simp [Zgh,Z8z,h]
  ·have h':(s==k)=false:=beq_eq_false_iff_ne.2 h
   simp [Zgh,Z8z,h,h']
 | (k',v')::m=>by
  have ih:=X5U s k m (v:=v)
  simp only [Zgh]
  by_cases h1:k=k'
  ·subst h1
   simp only [beq_self_eq_true,cond_true,Z8z]
   by_cases h:s=k
   ·simp [h]
   ·have h':(s==k)=false:=beq_eq_false_iff_ne.2 h
    simp [h,h']
  ·have:(k==k')=false:=by simp [h1]
   simp only [this,cond_false,Z8z]
   by_cases h2:s=k'
   ·subst h2
    have h3:s≠k:=fun h=>h1 h.symm
    simp [h3]
   ·have:(s==k')=false:=by simp [h2]
    simp only [this,cond_false,ih]

def X19 (s:ByteArray) (names:List ByteArray):Int:=if X5m s then (if s∈names then 5 else 0) else 6

theorem X5V {a b:ByteArray} (h:a.toList=b.toList):a=b:=by
 cases a;cases b
 simp only [ByteArray.toList_eq] at h
 congr 1
 exact Array.ext' h

theorem X45 (s:ByteArray) (names:List ByteArray) (hl:names.length<1000000):X2o s names=some (X19 s names):=by
 unfold X2o X19
 rw [X79]
 simp only [Option.bind_some]
 cases X5m s
 ·simp
 ·simp only [Bool.not_true,cond_false,if_true]
  unfold X4q
  have key:=X6 (XW s names) (fun o78=>Option.bind (Sum.elim (fun y79:Int=>some y79) (fun _:Unit=>some (-1)) o78) fun r82=>bif decide (r82≥0) then some (5:Int) else some 0) names.length (fun i (_:Unit)=>(i:Int)) (fun _ _=>True) (fun i _=>some (if s∈names.drop i then 5 else 0))
   (by
    intro b _ R
    simp [XW,WQ])
   (by
    intro i b hi _ R hR
    have hR':=hR () trivial
    simp only [XW,WQ]
    rw [List.drop_eq_getElem_cons hi]
    have hw:IntKind.wrap .i64 ((i:Int)+1)=((i+1:Nat):Int):=by rw [w64]<;>omega
    simp only [Int.toNat_natCast,X1 _ _ _ hi,hw]
    have h1:decide ((i:Int)<↑names.length)=true:=by simp [hi]
    have h2:decide ((0:Int)≤↑i)=true:=by simp
    simp only [h1,h2,Bool.and_self,cond_true]
    by_cases h:names[i]=s
    ·simp [h]
    ·have h':(names[i].toList==s.toList)=false:=by
      simp only [beq_eq_false_iff_ne];intro hh;exact h (X5V hh)
     have h'':¬ s=names[i]:=fun hh=>h hh.symm
     simp only [h',cond_false,Option.bind_some,Sum.elim_inl,List.mem_cons,h'',false_or]
     exact hR')
  have:=key 0 () (by omega) trivial
  simp only [List.drop_zero] at this
  rw [←this]
  show Option.bind (Option.bind _ _) _=Option.bind _ _
  unfold X2M
  simp only [Int.natCast_zero]
  cases Z8S (XW s names) 0<;>rfl

def X3t (m:Zw) (names:List ByteArray):Int:=if X19 m.Name names=0 then (if X3v 30000 m.At then 7 else X3k m.Paints) else X19 m.Name names
def X58 (s:CtSand) (names:List ByteArray):Int:=if X19 s.Name names=0 then X69 s else X19 s.Name names
def X4z:Nat→List ByteArray→List CtSand→Int×Int×Int
 | _,_,[]=>(0,0,0)
 | i,names,s::l=>if X58 s names=0 then X4z (i+1) (names++[s.Name]) l else (2,(i:Int),X58 s names)
def X4w (sands:List CtSand):Nat→List ByteArray→List Zw→Int×Int×Int
 | _,names,[]=>if 4<sands.length then (2,0,3) else X4z 0 names sands
 | i,names,m::l=>if X3t m names=0 then X4w sands (i+1) (names++[m.Name]) l else (1,(i:Int),X3t m names)
def X3L (c:Zl):Int×Int×Int:=if 8<c.Marks.length then (1,0,3) else X4w c.Sands 0 [] c.Marks

def Z2P (m:List (ByteArray×Int)) (names:List ByteArray):Prop:=∀ s,Option.getD (Z8z (fun a b=>a==b) s m) 0=if s∈names then 1 else 0

theorem X7F {m:List (ByteArray×Int)} {names:List ByteArray} (h:Z2P m names) (s:ByteArray) (hs:s∉names):Z2P (Zgh (fun a b=>a==b) s (IntKind.wrap .i64 (Option.getD (Z8z (fun a b=>a==b) s m) 0+1)) m) (names++[s]):=by
 intro t
 rw [X5U,h s,if_neg hs]
 by_cases e:t=s
 ·simp [e];rfl
 ·simp [e];simpa using h t

theorem X6P {m:List (ByteArray×Int)} {names:List ByteArray} (h:Z2P m names) (s:ByteArray):decide (Option.getD (Z8z (fun a b=>a==b) s (Zgh (fun a b=>a==b) s (IntKind.wrap .i64 (Option.getD (Z8z (fun a b=>a==b) s m) 0+1)) m)) 0>1)=decide (s∈names):=by
 rw [X5U,h s]
 simp only [if_true,Option.getD_some]
 by_cases e:s∈names
 ·simp only [e,if_true];rfl
 ·simp only [e,if_false];rfl

theorem X7B (c:Zl) (hl:c.Sands.length≤4) (m:List (ByteArray×Int)) (names:List ByteArray) (hm:Z2P m names) (k:_→Option (Int×Int×Int))
  (hk:k=fun o56=>Sum.elim (fun (y57:Int×Int×Int×(List (ByteArray×Int))×CtSand)=>some (y57.snd.snd.fst,y57.fst,y57.snd.fst)) (fun y58=>Sum.elim (fun (y59:Int×Int×Int×(List (ByteArray×Int))×CtSand)=>some (y59.snd.snd.fst,y59.fst,y59.snd.fst)) (fun y60=>Sum.elim (fun (y61:Int×Int×Int×(List (ByteArray×Int))×CtSand)=>some (y61.snd.snd.fst,y61.fst,y61.snd.fst)) (fun (_:List (ByteArray×Int))=>some (0,0,0)) y60) y58) o56) :
  Option.bind (X1V (↑c.Sands.length) c.Sands c (0,m)) k=some (X4z 0 names c.Sands):=by
 subst hk
 unfold X1V
 exact X6 (Wp (↑c.Sands.length) c.Sands c) _ c.Sands.length (fun i (b:List (ByteArray×Int)×List ByteArray)=>((i:Int),b.1)) (fun _ b=>Z2P b.1 b.2) (fun i b=>some (X4z i b.2 (c.Sands.drop i)))
  (by
   intro b _ R
   simp [Wp,WG,X4z])
  (by
   intro i b hi hP R hR
   simp only [Wp,WG]
   rw [List.drop_eq_getElem_cons hi]
   have hw:IntKind.wrap .i64 ((i:Int)+1)=((i+1:Nat):Int):=by rw [w64]<;>omega
   simp only [Int.toNat_natCast,X1 _ _ _ hi,hw,X4z]
   rw [X4u,X5A,X6P hP]
   have h1:decide ((i:Int)<↑c.Sands.length)=true:=by simp [hi]
   have h2:decide ((0:Int)≤↑i)=true:=by simp
   simp only [h1,h2,Bool.and_self,cond_true,Option.bind_some]
   by_cases hn:X5m c.Sands[i].Name=true
   ·by_cases he:c.Sands[i].Name∈b.2
    ·have hE:X58 c.Sands[i] b.2=5:=by simp [X58,X19,hn,he]
     simp [hn,he,hE]
    ·have e0:(⟨c.Sands[i].Name,c.Sands[i].Corners,c.Sands[i].Moves⟩:CtSand)=c.Sands[i]:=rfl
     have hE:X58 c.Sands[i] b.2=X69 c.Sands[i]:=by simp [X58,X19,hn,he]
     rw [e0]
     simp only [hn,he,Bool.not_true,decide_false,cond_false,hE]
     by_cases hs:X69 c.Sands[i]=0
     ·simp only [hs,bne_self_eq_false,cond_false,if_true,Option.bind_some,Sum.elim_inl]
      exact hR (_,b.2++[c.Sands[i].Name]) (X7F hP _ he)
     ·simp [hs,WE hs]
   ·have hE:X58 c.Sands[i] b.2=6:=by simp [X58,X19,hn]
    simp [hn,hE]) 0 (m,names) (by omega) hm

theorem X5c (c:Zl):X2R c=some (X3L c):=by
 unfold X2R X3L
 by_cases h8:8<c.Marks.length
 ·have:decide ((c.Marks.length:Int)>8)=true:=by simp;omega
  rw [this];simp [h8]
 ·have:decide ((c.Marks.length:Int)>8)=false:=by simp;omega
  rw [this]
  simp only [cond_false,h8,if_false]
  exact X6 (Wo (↑c.Marks.length) c.Marks c) _ c.Marks.length (fun i (b:List (ByteArray×Int)×List ByteArray)=>((i:Int),b.1)) (fun _ b=>Z2P b.1 b.2) (fun i b=>some (X4w c.Sands i b.2 (c.Marks.drop i)))
   (by
    intro b hP R
    simp only [Wo,WF]
    have h1:decide ((c.Marks.length:Int)<↑c.Marks.length)=false:=by simp
    simp only [h1,cond_false,Option.bind_some,Sum.elim_inr,List.drop_length,X4w]
    by_cases h4:4<c.Sands.length
    ·have:decide ((c.Sands.length:Int)>4)=true:=by simp;omega
     rw [this];simp [h4]
    ·have:decide ((c.Sands.length:Int)>4)=false:=by simp;omega
     rw [this]
     simp only [cond_false,h4,if_false]
     exact X7B c (by omega) _ _ hP _ rfl)
   (by
    intro i b hi hP R hR
    simp only [Wo,WF]
    rw [List.drop_eq_getElem_cons hi]
    have hw:IntKind.wrap .i64 ((i:Int)+1)=((i+1:Nat):Int):=by rw [w64]<;>omega
    simp only [Int.toNat_natCast,X1 _ _ _ hi,hw,X4w]
    rw [X4u,X6A,X6P hP,X4O _ (by omega) _ (by simp)]
    have h1:decide ((i:Int)<↑c.Marks.length)=true:=by simp [hi]
    have h2:decide ((0:Int)≤↑i)=true:=by simp
    simp only [h1,h2,Bool.and_self,cond_true,Option.bind_some,List.any_cons,List.any_nil,Bool.or_false]
    by_cases hn:X5m c.Marks[i].Name=true
    ·by_cases he:c.Marks[i].Name∈b.2
     ·have hE:X3t c.Marks[i] b.2=5:=by simp [X3t,X19,hn,he]
      simp [hn,he,hE]
     ·by_cases hfar:X3v 30000 c.Marks[i].At=true
      ·have hE:X3t c.Marks[i] b.2=7:=by simp [X3t,X19,hn,he,hfar]
       simp [hn,he,hfar,hE]
      ·have hE:X3t c.Marks[i] b.2=X3k c.Marks[i].Paints:=by simp [X3t,X19,hn,he,hfar]
       simp only [hn,he,hfar,Bool.not_true,decide_false,cond_false,hE]
       by_cases hs:X3k c.Marks[i].Paints=0
       ·simp only [hs,bne_self_eq_false,cond_false,if_true,Option.bind_some,Sum.elim_inl]
        exact hR (_,b.2++[c.Marks[i].Name]) (X7F hP _ he)
       ·simp [hs,WE hs]
    ·have hE:X3t c.Marks[i] b.2=6:=by simp [X3t,X19,hn]
     simp [hn,hE]) 0 ([],[]) (by omega) (by intro s;simp [Z8z])

theorem X7K (c:Zl) (hl:c.Sands.length≤4) (names:List ByteArray) (hm:names.length≤8) (k:_→Option (Int×Int×Int))
  (hk:k=fun o134=>Sum.elim (fun (y135:Int×Int×Int×(List ByteArray)×(List ByteArray))=>some (y135.snd.snd.fst,y135.fst,y135.snd.fst)) (fun y136=>Sum.elim (fun (y137:Int×Int×Int×(List ByteArray)×(List ByteArray))=>some (y137.snd.snd.fst,y137.fst,y137.snd.fst)) (fun (_:List ByteArray)=>some (0,0,0)) y136) o134) :
  Option.bind (X21 c (0,names)) k=some (X4z 0 names c.Sands):=by
 subst hk
 unfold X21
 exact X6 (Wx c) _ c.Sands.length (fun i (b:List ByteArray)=>((i:Int),b)) (fun i b=>b.length≤8+i) (fun i b=>some (X4z i b (c.Sands.drop i)))
  (by
   intro b _ R
   simp [Wx,WP,X4z])
  (by
   intro i b hi hP R hR
   simp only [Wx,WP]
   rw [List.drop_eq_getElem_cons hi]
   have hw:IntKind.wrap .i64 ((i:Int)+1)=((i+1:Nat):Int):=by rw [w64]<;>omega
   simp only [Int.toNat_natCast,X1 _ _ _ hi,hw,X4z]
   rw [X45 _ _ (by omega),X7a]
   have h1:decide ((i:Int)<↑c.Sands.length)=true:=by simp [hi]
   have h2:decide ((0:Int)≤↑i)=true:=by simp
   have h3:Nat.ble ((b.length+[c.Sands[i].Name].length)*(16+1)) 200000000000000=true:=by
    rw [Nat.ble_eq];simp;omega
   simp only [h1,h2,h3,Bool.and_self,cond_true,Option.bind_some]
   by_cases hf:X19 c.Sands[i].Name b=0
   ·have hE:X58 c.Sands[i] b=X69 c.Sands[i]:=by simp [X58,hf]
    simp only [hf,hE,beq_self_eq_true,cond_true]
    by_cases hs:X69 c.Sands[i]=0
    ·simp only [hs,bne_self_eq_false,cond_false,if_true,Option.bind_some,Sum.elim_inl]
     exact hR (b++[c.Sands[i].Name]) (by simp;omega)
    ·simp [hs,WE hs]
   ·have hE:X58 c.Sands[i] b=X19 c.Sands[i].Name b:=by simp [X58,hf]
    simp [hE,hf,X4c hf,WE hf]) 0 names (by omega) (by omega)

theorem X6U (c:Zl):X3F c=some (X3L c):=by
 unfold X3F X3L
 by_cases h8:8<c.Marks.length
 ·have:decide ((c.Marks.length:Int)>8)=true:=by simp;omega
  rw [this];simp [h8]
 ·have:decide ((c.Marks.length:Int)>8)=false:=by simp;omega
  rw [this]
  simp only [cond_false,h8,if_false]
  exact X6 (Ww c) _ c.Marks.length (fun i (b:List ByteArray)=>((i:Int),b)) (fun i b=>b.length≤i) (fun i b=>some (X4w c.Sands i b (c.Marks.drop i)))
   (by
    intro b hP R
    simp only [Ww,WO]
    have h1:decide ((c.Marks.length:Int)<↑c.Marks.length)=false:=by simp
    simp only [h1,cond_false,Option.bind_some,Sum.elim_inr,List.drop_length,X4w]
    by_cases h4:4<c.Sands.length
    ·have:decide ((c.Sands.length:Int)>4)=true:=by simp;omega
     rw [this];simp [h4]
    ·have:decide ((c.Sands.length:Int)>4)=false:=by simp;omega
     rw [this]
     simp only [cond_false,h4,if_false]
     exact X7K c (by omega) _ (by omega) _ rfl)
   (by
    intro i b hi hP R hR
    simp only [Ww,WO]
    rw [List.drop_eq_getElem_cons hi]
    have hw:IntKind.wrap .i64 ((i:Int)+1)=((i+1:Nat):Int):=by rw [w64]<;>omega
    simp only [Int.toNat_natCast,X1 _ _ _ hi,hw,X4w]
    rw [X45 _ _ (by omega),X6C,X57 _ _ (by omega)]
    have h1:decide ((i:Int)<↑c.Marks.length)=true:=by simp [hi]
    have h2:decide ((0:Int)≤↑i)=true:=by simp
    have h3:Nat.ble ((b.length+[c.Marks[i].Name].length)*(16+1)) 200000000000000=true:=by
     rw [Nat.ble_eq];simp;omega
    simp only [h1,h2,h3,Bool.and_self,cond_true,Option.bind_some]
    by_cases hf:X19 c.Marks[i].Name b=0
    ·by_cases hfar:X3v 30000 c.Marks[i].At=true
     ·have hE:X3t c.Marks[i] b=7:=by simp [X3t,hf,hfar]
      simp [hf,hfar,hE]
     ·have hE:X3t c.Marks[i] b=X3k c.Marks[i].Paints:=by simp [X3t,hf,hfar]
      simp only [hf,hfar,hE,Bool.not_false,Bool.not_true,cond_false,beq_self_eq_true,cond_true]
      by_cases hs:X3k c.Marks[i].Paints=0
      ·simp only [hs,bne_self_eq_false,cond_false,if_true,Option.bind_some,Sum.elim_inl]
       exact hR (b++[c.Marks[i].Name]) (by simp;omega)
      ·simp [hs,WE hs]
    ·have hE:X3t c.Marks[i] b=X19 c.Marks[i].Name b:=by simp [X3t,hf]
     simp [hE,hf,X4c hf,WE hf]) 0 [] (by omega) (by simp)

end Nore
open Go Go.Ab
namespace Nore

theorem X3 (lo up:Int) (l:List Int) (hl:l.length<1000000):X2 lo up l=some (X4 lo up l):=by
 rw [X5j];unfold X27
 have key:=X6 (Wv (↑l.length) l up lo) (fun o3=>Sum.elim (fun y4:Int=>some (decide (y4≥0))) (fun _=>some (decide ((-1:Int)≥0))) o3) l.length (fun i (_:Unit)=>(i:Int)) (fun _ _=>True) (fun i _=>some (X4 lo up (l.drop i)))
  (by
   intro b _ R
   simp [Wv,WM])
  (by
   intro i b hi _ R hR
   have hR':=hR () trivial
   simp only [Wv,WM]
   rw [List.drop_eq_getElem_cons hi]
   simp only [Int.toNat_natCast,X1 _ _ _ hi,X3V]
   have hw:IntKind.wrap .i64 ((i:Int)+1)=((i+1:Nat):Int):=by rw [w64]<;>omega
   rw [hw]
   have h1:decide ((i:Int)<↑l.length)=true:=by simp [hi]
   have h2:decide ((0:Int)≤↑i)=true:=by simp
   simp only [h1,h2,Bool.and_self,cond_true]
   by_cases h3:l[i]<lo
   ·simp [h3]
   ·by_cases h4:l[i]>up
    ·simp [h3,h4]
    ·simp [h3,h4];exact hR')
 exact (key 0 () (by omega) trivial).trans (by simp)

theorem We (n lo hi:Int):X1T n lo hi=some (inN n lo hi):=by
 rw [X6u];unfold X3n inN
 by_cases h:lo≤n<;>simp [h]

def X5B (x:Z5):Int:=if x.Lead then 20 else 4
theorem X7b (x:Z5):X4K x=some (X5B x):=by
 rw [X66];unfold X2F X5B
 cases x.Lead<;>rfl

def X6n (x:Z5) (names:List ByteArray):Int :=
 if X19 x.Name names≠0 then X19 x.Name names else if X4 (-X5B x) (X5B x) [x.Off.Lo,x.Off.Hi] then 7 else if x.Off.Lo>x.Off.Hi then 2 else 0

theorem X7U (x:Z5) (l:List Z5) (hl:l.length<1000000) (k:(Int×Z5)⊕Unit→Option Int) (r1 r2:Option Int) (h1:∀ (i:Nat) y,k (.inl ((i:Int),y))=r1) (h2:k (.inr ())=r2) :
  Option.bind (X2b (↑l.length) l x 0) k=if x.Name∈l.map (·.Name) then r1 else r2:=by
 have key:=X6 (XI (↑l.length) l x) k l.length (fun i (_:Unit)=>(i:Int)) (fun _ _=>True) (fun i _=>if x.Name∈(l.drop i).map (·.Name) then r1 else r2)
  (by
   intro b _ R
   simp [XI,XT,h2])
  (by
   intro i b hi _ R hR
   have hR':=hR () trivial
   simp only [XI,XT]
   rw [List.drop_eq_getElem_cons hi]
   simp only [Int.toNat_natCast,X1 _ _ _ hi,List.map_cons,List.mem_cons]
   have hw:IntKind.wrap .i64 ((i:Int)+1)=((i+1:Nat):Int):=by rw [w64]<;>omega
   rw [hw]
   have e1:decide ((i:Int)<↑l.length)=true:=by simp [hi]
   have e2:decide ((0:Int)≤↑i)=true:=by simp
   simp only [e1,e2,Bool.and_self,cond_true]
   by_cases h3:l[i].Name.toList=x.Name.toList
   ·have h4:x.Name=l[i].Name:=X5V h3.symm
    simp [h3,h4,h1]
   ·have h4:¬ x.Name=l[i].Name:=fun e=>h3 (by rw [e])
    have h5:(l[i].Name.toList==x.Name.toList)=false:=beq_eq_false_iff_ne.2 h3
    simp only [h5,cond_false,h4,false_or]
    exact hR')
 exact (key 0 () (by omega) trivial).trans (by simp)

theorem X7V (x:Z5) (l:List Z5) (hl:l.length<1000000) (k:(Int×Z5)⊕Unit→Option Int) (r1 r2:Option Int) (h1:∀ (i:Nat) y,k (.inl ((i:Int),y))=r1) (h2:k (.inr ())=r2) :
  Option.bind (X2c (↑l.length) l x 0) k=if x.Name∈l.map (·.Name) then r1 else r2:=by
 have key:=X6 (XJ (↑l.length) l x) k l.length (fun i (_:Unit)=>(i:Int)) (fun _ _=>True) (fun i _=>if x.Name∈(l.drop i).map (·.Name) then r1 else r2)
  (by
   intro b _ R
   simp [XJ,XU,h2])
  (by
   intro i b hi _ R hR
   have hR':=hR () trivial
   simp only [XJ,XU]
   rw [List.drop_eq_getElem_cons hi]
   simp only [Int.toNat_natCast,X1 _ _ _ hi,List.map_cons,List.mem_cons]
   have hw:IntKind.wrap .i64 ((i:Int)+1)=((i+1:Nat):Int):=by rw [w64]<;>omega
   rw [hw]
   have e1:decide ((i:Int)<↑l.length)=true:=by simp [hi]
   have e2:decide ((0:Int)≤↑i)=true:=by simp
   simp only [e1,e2,Bool.and_self,cond_true]
   by_cases h3:l[i].Name.toList=x.Name.toList
   ·have h4:x.Name=l[i].Name:=X5V h3.symm
    simp [h3,h4,h1]
   ·have h4:¬ x.Name=l[i].Name:=fun e=>h3 (by rw [e])
    have h5:(l[i].Name.toList==x.Name.toList)=false:=beq_eq_false_iff_ne.2 h3
    simp only [h5,cond_false,h4,false_or]
    exact hR')
 exact (key 0 () (by omega) trivial).trans (by simp)

theorem X5T (x:Z5) (l:List Z5) (hl:l.length<1000000):X3h x l=some (X6n x (l.map (·.Name))):=by
 rw [X4g];unfold X18 X6n X19 X5B
 have hw20:IntKind.wrap .i64 (0-20) = -20:=by rw [w64]<;>omega
 have hw4:IntKind.wrap .i64 (0-4) = -4:=by rw [w64]<;>omega
 rw [X4u]
 simp only [Option.bind_some,hw20,hw4]
 cases hb:x.Lead
 ·simp only [cond_false,Bool.false_eq_true,if_false]
  cases hn:X5m x.Name
  ·simp
  ·simp only [Bool.not_true,cond_false,if_true]
   rw [X7V x l hl _ (some 5) (if X4 (-4) 4 [x.Off.Lo,x.Off.Hi] then some 7 else if x.Off.Lo>x.Off.Hi then some 2 else some 0) (fun i y=>by simp) (by
    simp only [Sum.elim_inr]
    rw [X3 _ _ _ (by simp)]
    simp only [Option.bind_some]
    cases X4 (-4) 4 [x.Off.Lo,x.Off.Hi]
    ·by_cases h:x.Off.Lo>x.Off.Hi<;>simp [h]
    ·simp)]
   by_cases hm:x.Name∈l.map (·.Name)
   ·simp [hm]
   ·simp only [hm,if_false,ne_eq,not_true]
    cases X4 (-4) 4 [x.Off.Lo,x.Off.Hi]
    ·by_cases h:x.Off.Lo>x.Off.Hi<;>simp [h]
    ·simp
 ·simp only [cond_true,if_true]
  cases hn:X5m x.Name
  ·simp
  ·simp only [Bool.not_true,cond_false,if_true]
   rw [X7U x l hl _ (some 5) (if X4 (-20) 20 [x.Off.Lo,x.Off.Hi] then some 7 else if x.Off.Lo>x.Off.Hi then some 2 else some 0) (fun i y=>by simp) (by
    simp only [Sum.elim_inr]
    rw [X3 _ _ _ (by simp)]
    simp only [Option.bind_some]
    cases X4 (-20) 20 [x.Off.Lo,x.Off.Hi]
    ·by_cases h:x.Off.Lo>x.Off.Hi<;>simp [h]
    ·simp)]
   by_cases hm:x.Name∈l.map (·.Name)
   ·simp [hm]
   ·simp only [hm,if_false,ne_eq,not_true]
    cases X4 (-20) 20 [x.Off.Lo,x.Off.Hi]
    ·by_cases h:x.Off.Lo>x.Off.Hi<;>simp [h]
    ·simp

def X4b (a:Zt):Int:=if X4 (-30000) 30000 [a.X.Lo,a.X.Hi,a.Y.Lo,a.Y.Hi]||X4 0 1000 [a.Depth.Lo,a.Depth.Hi]||X4 1 4 [a.Ground] then 7 else if a.X.Lo>a.X.Hi∨a.Y.Lo>a.Y.Hi∨a.Depth.Lo>a.Depth.Hi then 2 else 0

theorem X7m (a:Zt):X62 a=some (X4b a):=by
 rw [X6l];unfold X33 X4b
 rw [X3 _ _ _ (by simp),X3 _ _ _ (by simp),X3 _ _ _ (by simp)]
 simp only [Option.bind_some]
 cases X4 (-30000) 30000 [a.X.Lo,a.X.Hi,a.Y.Lo,a.Y.Hi]
 ·cases X4 0 1000 [a.Depth.Lo,a.Depth.Hi]
  ·cases X4 1 4 [a.Ground]
   ·by_cases h1:a.X.Lo>a.X.Hi
    ·simp [h1]
    ·by_cases h2:a.Y.Lo>a.Y.Hi
     ·simp [h1,h2]
     ·by_cases h3:a.Depth.Lo>a.Depth.Hi<;>simp [h1,h2,h3]
   ·simp
  ·simp
 ·simp

theorem X6B (i:Int) (a:Zt):X3C i a=some (X4b a):=by
 rw [X5d];unfold X24
 rw [X7m];rfl

theorem X8Y (lo hi a b c d:Int):X4 lo hi [a,b,c,d]=(X4 lo hi [a,b]||X4 lo hi [c,d]):=by simp [Bool.or_assoc]

theorem X6Y (a:Zt):X4V a=some (X4b a):=by
 rw [X5N];unfold X2q X4b X2W
 rw [X2H _ _ _ (by simp),X2H _ _ _ (by simp),We,X1g,X8Y]
 simp only [Option.bind_some,X2w]
 cases X4 (-30000) 30000 [a.X.Lo,a.X.Hi]
 ·cases X4 (-30000) 30000 [a.Y.Lo,a.Y.Hi]
  ·cases X4 0 1000 [a.Depth.Lo,a.Depth.Hi]
   ·cases X4 1 4 [a.Ground]
    ·by_cases h1:a.X.Lo>a.X.Hi<;>by_cases h2:a.Y.Lo>a.Y.Hi<;>by_cases h3:a.Depth.Lo>a.Depth.Hi<;>simp [h1,h2,h3]
    ·by_cases h1:a.X.Lo>a.X.Hi<;>by_cases h2:a.Y.Lo>a.Y.Hi<;>by_cases h3:a.Depth.Lo>a.Depth.Hi<;>simp [h1,h2,h3]
   ·by_cases h1:a.X.Lo>a.X.Hi<;>by_cases h2:a.Y.Lo>a.Y.Hi<;>simp [h1,h2]
  ·simp
 ·simp

def X1Q:Nat→List ByteArray→List Z5→Int×Int×Int
 | _,_,[]=>(0,0,0)
 | i,names,x::l=>if X6n x names=0 then X1Q (i+1) (names++[x.Name]) l else (3,(i:Int),X6n x names)
def X2I:Nat→List Zt→Int×Int×Int
 | _,[]=>(0,0,0)
 | i,a::l=>if X4b a=0 then X2I (i+1) l else (4,(i:Int),X4b a)
def X1W (f:ZJ):Int×Int×Int :=
 if (X3L f.Chart).2.2≠0 then (1,0,(X3L f.Chart).2.2) else
 if X4 0 40000 [f.Day]||X4 1 500 [f.Step]||X4 0 8 [f.Half] then (2,0,7) else
 if X4 1 4 [(f.Instruments.length:Int)] then (3,0,3) else
 if (X1Q 0 [] f.Instruments).2.2≠0 then X1Q 0 [] f.Instruments else
 if 6<f.Areas.length then (4,0,3) else X2I 0 f.Areas

theorem X7w (l:List Zt) (hl:l.length≤6) (k:(Int×Int×Zt)⊕Unit→Option (Int×Int×Int)) (h1:∀ (i e:Int) y,e≠0→k (.inl (e,i,y))=some (4,i,e)) (h2:k (.inr ())=some (0,0,0)) :
  Option.bind (X3x l (↑l.length) 0) k=some (X2I 0 l):=by
 have key:=X6 (X1p l (↑l.length)) k l.length (fun i (_:Unit)=>(i:Int)) (fun _ _=>True) (fun i _=>some (X2I i (l.drop i)))
  (by
   intro b _ R
   simp [X1p,X1u,h2,X2I])
  (by
   intro i b hi _ R hR
   have hR':=hR () trivial
   simp only [X1p,X1u]
   rw [List.drop_eq_getElem_cons hi]
   simp only [Int.toNat_natCast,X1 _ _ _ hi,X2I]
   have hw:IntKind.wrap .i64 ((i:Int)+1)=((i+1:Nat):Int):=by rw [w64]<;>omega
   rw [hw,X6B]
   have e1:decide ((i:Int)<↑l.length)=true:=by simp [hi]
   have e2:decide ((0:Int)≤↑i)=true:=by simp
   simp only [e1,e2,Bool.and_self,cond_true,Option.bind_some]
   by_cases h3:X4b l[i]=0
   ·simp only [h3,bne_self_eq_false,cond_false,Option.bind_some,Sum.elim_inl,if_true]
    exact hR'
   ·simp [h3,WE h3,h1])
 exact (key 0 () (by omega) trivial).trans (by simp)
theorem X7x (l:List Zt) (hl:l.length≤6) (k:(Int×Int×Zt)⊕Unit→Option (Int×Int×Int)) (h1:∀ (i e:Int) y,e≠0→k (.inl (e,i,y))=some (4,i,e)) (h2:k (.inr ())=some (0,0,0)) :
  Option.bind (X2s l (↑l.length) 0) k=some (X2I 0 l):=X7w l hl k h1 h2

theorem X7W (f:ZJ) (hl:f.Instruments.length≤4) (k:(Int×Int×Z5×Z5)⊕Unit→Option (Int×Int×Int)) (r:Option (Int×Int×Int)) (h1:∀ (i e:Int) y y',e≠0→k (.inl (e,i,y,y'))=some (3,i,e)) (h2:k (.inr ())=r) :
  Option.bind (X3w f.Instruments (↑f.Instruments.length) f 0) k=if (X1Q 0 [] f.Instruments).2.2≠0 then some (X1Q 0 [] f.Instruments) else r:=by
 have key:=X6 (X1o f.Instruments (↑f.Instruments.length) f) k f.Instruments.length (fun i (_:Unit)=>(i:Int)) (fun _ _=>True) (fun i _=>if (X1Q i ((f.Instruments.take i).map (·.Name)) (f.Instruments.drop i)).2.2≠0 then some (X1Q i ((f.Instruments.take i).map (·.Name)) (f.Instruments.drop i)) else r)
  (by
   intro b _ R
   simp [X1o,X1t,h2,X1Q])
  (by
   intro i b hi _ R hR
   have hR':=hR () trivial
   simp only [X1o,X1t]
   rw [List.drop_eq_getElem_cons hi]
   rw [←List.take_concat_get hi] at hR'
   simp only [List.concat_eq_append,List.map_append,List.map_cons,List.map_nil] at hR'
   simp only [Int.toNat_natCast,X1 _ _ _ hi,X1Q,List.drop_zero]
   have hw:IntKind.wrap .i64 ((i:Int)+1)=((i+1:Nat):Int):=by rw [w64]<;>omega
   rw [hw,X5T _ _ (by simp;omega)]
   have e1:decide ((i:Int)<↑f.Instruments.length)=true:=by simp [hi]
   have e2:decide ((0:Int)≤↑i)=true:=by simp
   have e3:decide ((i:Int)≤↑f.Instruments.length)=true:=by simp;omega
   simp only [e1,e2,e3,Bool.and_self,cond_true,Option.bind_some]
   by_cases h3:X6n f.Instruments[i] ((f.Instruments.take i).map (·.Name))=0
   ·simp only [h3,bne_self_eq_false,cond_false,Option.bind_some,Sum.elim_inl,if_true]
    exact hR'
   ·simp only [WE h3,cond_true,Option.bind_some,Sum.elim_inr,h1 _ _ _ _ h3,if_neg h3]
    rw [if_pos h3])
 exact (key 0 () (by omega) trivial).trans (by simp)

theorem X78 (f:ZJ):X5v f=some (X1W f):=by
 rw [X5X];unfold X2B X1W
 rw [X5c,X3 _ _ _ (by simp),X3 _ _ _ (by simp),X3 _ _ _ (by simp),X3 _ _ _ (by simp)]
 simp only [Option.bind_some]
 by_cases h1:(X3L f.Chart).2.2=0
 ·simp only [h1,bne_self_eq_false,cond_false,ne_eq,not_true,if_false]
  cases X4 0 40000 [f.Day]
  ·cases X4 1 500 [f.Step]
   ·cases X4 0 8 [f.Half]
    ·cases hi:X4 1 4 [(f.Instruments.length:Int)]
     ·have hl:f.Instruments.length≤4:=by simp at hi;omega
      simp only [cond_false,Bool.or_self,Bool.false_eq_true,if_false]
      have ha:(bif decide ((f.Areas.length:Int)>6) then some (4,0,3) else Option.bind (X2s f.Areas (↑f.Areas.length) 0) fun o257↦Sum.elim (fun y258↦bif y258.fst != 0 then some (4,y258.snd.fst,y258.fst) else some ((0:Int),(0:Int),(0:Int))) (fun y259↦some (0,0,0)) o257)=(some (if 6<f.Areas.length then (4,0,3) else X2I 0 f.Areas):Option (Int×Int×Int)):=by
       by_cases h6:6<f.Areas.length
       ·have:decide ((f.Areas.length:Int)>6)=true:=by simp;omega
        rw [this];simp [h6]
       ·have:decide ((f.Areas.length:Int)>6)=false:=by simp;omega
        rw [this]
        simp only [cond_false,h6,if_false]
        exact X7x _ (by omega) _ (fun i e y he=>by simp [WE he]) rfl
      rw [X7W f hl _ _ (fun i e y y' he=>by simp [WE he]) (by simp only [Sum.elim_inr];exact ha)]
      by_cases h3:(X1Q 0 [] f.Instruments).2.2=0<;>simp [h3]
     ·simp
    ·simp
   ·simp
  ·simp
 ·simp [h1,WE h1]

theorem X70 (f:ZJ) (hl:f.Instruments.length≤4) (k:(Int×Int×Int×List ByteArray×List ByteArray×Z5)⊕((Int×Int×Int×List ByteArray×List ByteArray×Z5)⊕List ByteArray)→Option (Int×Int×Int)) (r:Option (Int×Int×Int))
  (h1:∀ (i e:Int) y y' z,k (.inl (i,e,3,y,y',z))=some (3,i,e)) (h1':∀ (i e:Int) y y' z,k (.inr (.inl (i,e,3,y,y',z)))=some (3,i,e)) (h2:∀ l,k (.inr (.inr l))=r) :
  Option.bind (X2O f (0,[])) k=if (X1Q 0 [] f.Instruments).2.2≠0 then some (X1Q 0 [] f.Instruments) else r:=by
 have key:=X6 (WB f) k f.Instruments.length (fun i (b:List ByteArray)=>((i:Int),b)) (fun i b=>b=(f.Instruments.take i).map (·.Name)) (fun i b=>if (X1Q i b (f.Instruments.drop i)).2.2≠0 then some (X1Q i b (f.Instruments.drop i)) else r)
  (by
   intro b _ R
   simp [WB,WU,h2,X1Q])
  (by
   intro i b hi hb R hR
   have hR':=hR (b++[f.Instruments[i].Name]) (by rw [hb,←List.take_concat_get hi,List.concat_eq_append,List.map_append];rfl)
   have hbl:b.length≤4:=by rw [hb];simp;omega
   simp only [WB,WU]
   rw [List.drop_eq_getElem_cons hi]
   simp only [Int.toNat_natCast,X1 _ _ _ hi,X1Q]
   have hw:IntKind.wrap .i64 ((i:Int)+1)=((i+1:Nat):Int):=by rw [w64]<;>omega
   rw [hw,X45 _ _ (by omega),X7b]
   have e1:decide ((i:Int)<↑f.Instruments.length)=true:=by simp [hi]
   have e2:decide ((0:Int)≤↑i)=true:=by simp
   have e3:Nat.ble ((b.length+[f.Instruments[i].Name].length)*(16+1)) 200000000000000=true:=by
    apply Nat.ble_eq_true_of_le;simp;omega
   have hf:IntKind.wrap .i64 (0-X5B f.Instruments[i]) = -X5B f.Instruments[i]:=by unfold X5B;split<;>(rw [w64]<;>omega)
   simp only [e1,e2,e3,Bool.and_self,cond_true,Option.bind_some,hf,X2W]
   rw [X2H _ _ _ (by simp)]
   unfold X6n
   by_cases h3:X19 f.Instruments[i].Name b=0
   ·simp only [h3,beq_self_eq_true,cond_true,ne_eq,not_true,if_false,Option.bind_some,X2w]
    cases ho:X4 (-X5B f.Instruments[i]) (X5B f.Instruments[i]) [f.Instruments[i].Off.Lo,f.Instruments[i].Off.Hi]
    ·by_cases h4:f.Instruments[i].Off.Lo>f.Instruments[i].Off.Hi
     ·simp [h4,h1]
     ·simp only [h4,Bool.false_eq_true,if_false,bne_self_eq_false,cond_false,Option.bind_some,Sum.elim_inl,if_true]
      exact hR'
    ·simp [h1]
   ·have h5:=WE h3
    simp [h3,X4c h3,h5,h1'])
 exact (key 0 [] (by omega) (by simp)).trans (by simp)

theorem X6Z (f:ZJ) (hl:f.Areas.length≤6) (k:(Int×Int×Int)⊕Unit→Option (Int×Int×Int)) (h1:∀ (i e:Int),k (.inl (i,e,4))=some (4,i,e)) (h2:k (.inr ())=some (0,0,0)) :
  Option.bind (X2P f 0) k=some (X2I 0 f.Areas):=by
 have key:=X6 (WC f) k f.Areas.length (fun i (_:Unit)=>(i:Int)) (fun _ _=>True) (fun i _=>some (X2I i (f.Areas.drop i)))
  (by
   intro b _ R
   simp [WC,WV,h2,X2I])
  (by
   intro i b hi _ R hR
   have hR':=hR () trivial
   simp only [WC,WV]
   rw [List.drop_eq_getElem_cons hi]
   simp only [Int.toNat_natCast,X1 _ _ _ hi,X2I]
   have hw:IntKind.wrap .i64 ((i:Int)+1)=((i+1:Nat):Int):=by rw [w64]<;>omega
   rw [hw,X6Y]
   have e1:decide ((i:Int)<↑f.Areas.length)=true:=by simp [hi]
   have e2:decide ((0:Int)≤↑i)=true:=by simp
   simp only [e1,e2,Bool.and_self,cond_true,Option.bind_some]
   by_cases h3:X4b f.Areas[i]=0
   ·simp only [h3,bne_self_eq_false,cond_false,Option.bind_some,Sum.elim_inl,if_true]
    exact hR'
   ·simp [h3,WE h3,h1])
 exact (key 0 () (by omega) trivial).trans (by simp)

theorem X6D (f:ZJ):X4r f=some (X1W f):=by
 rw [X5p];unfold X29 X1W
 rw [X6U,We,We,We,We,X1g,X1g,X1g,X1g]
 simp only [Option.bind_some,Bool.not_not]
 by_cases h1:(X3L f.Chart).2.2=0
 ·simp only [h1,bne_self_eq_false,cond_false,ne_eq,not_true,if_false]
  cases X4 0 40000 [f.Day]
  ·cases X4 1 500 [f.Step]
   ·cases X4 0 8 [f.Half]
    ·cases hi:X4 1 4 [(f.Instruments.length:Int)]
     ·have hl:f.Instruments.length≤4:=by simp at hi;omega
      simp only [cond_false,Bool.or_self,Bool.false_eq_true,if_false]
      rw [X70 f hl _ (some (if 6<f.Areas.length then (4,0,3) else X2I 0 f.Areas)) (fun i e y y' z=>rfl) (fun i e y y' z=>rfl) (fun l=>by
       simp only [Sum.elim_inr]
       by_cases h6:6<f.Areas.length
       ·have:decide ((f.Areas.length:Int)>6)=true:=by simp;omega
        rw [this];simp [h6]
       ·have:decide ((f.Areas.length:Int)>6)=false:=by simp;omega
        rw [this]
        simp only [cond_false,h6,if_false]
        exact X6Z f (by omega) _ (fun i e=>rfl) rfl)]
      by_cases h3:(X1Q 0 [] f.Instruments).2.2=0<;>simp [h3]
     ·simp
    ·simp
   ·simp
  ·simp
 ·simp [h1,WE h1]
end Nore
open Go Go.Ab
namespace Nore

def X43 (d:Int):Int→List Zk→Int
 | c,[]=>c
 | c,p::l=>X43 d (if p.Day≤d then p.Colour else c) l
def X4G (m:Zw) (d:Int):Int:=X43 d 0 m.Paints

theorem X6t (d:Int) (p:Zk):∀ (l:List Zk) (c:Int),X43 d c (l++[p])=if p.Day≤d then p.Colour else X43 d c l
 | [],c=>rfl
 | q::l,c=>by simp only [List.cons_append,X43,X6t d p l]

theorem X65 (m:Zw) (d:Int) (hl:m.Paints.length<1000000):X3B m d=some (X4G m d):=by
 rw [X4I];unfold X1y X4G
 have key:=X6 (XZ d m) (fun o=>some o) m.Paints.length (fun i (b:Int)=>(b,(i:Int))) (fun _ _=>True) (fun i b=>some (X43 d b (m.Paints.drop i)))
  (by
   intro b _ R
   simp [XZ,W2,X43])
  (by
   intro i b hi _ R hR
   simp only [XZ,W2]
   rw [List.drop_eq_getElem_cons hi]
   simp only [Int.toNat_natCast,X1 _ _ _ hi,X43]
   have hw:IntKind.wrap .i64 ((i:Int)+1)=((i+1:Nat):Int):=by rw [w64]<;>omega
   rw [hw]
   have e1:decide ((i:Int)<↑m.Paints.length)=true:=by simp [hi]
   have e2:decide ((0:Int)≤↑i)=true:=by simp
   simp only [e1,e2,Bool.and_self,cond_true]
   by_cases h3:m.Paints[i].Day≤d
   ·simp only [h3,decide_true,cond_true,Option.bind_some,Sum.elim_inl,if_true]
    exact hR _ trivial
   ·simp only [h3,decide_false,cond_false,Option.bind_some,Sum.elim_inl,if_false]
    exact hR _ trivial)
 exact key 0 0 (by omega) trivial

theorem X7G (d:Int) (l:List Zk) (hl:l.length<1000000) (k:(Zk×Int×Int)⊕Unit→Option (Zw×Int×Int)) (mk:Zw) (h1:∀ p c e,k (.inl (p,c,e))=some (mk,c,e)) (h2:k (.inr ())=some (mk,0,0)) :
  Option.bind (X1D d l ((l.length:Int)-1)) k=some (mk,X43 d 0 l,0):=by
 have key:=X6 (W4 d l) k l.length (fun i (_:Unit)=>(l.length:Int)-1-i) (fun _ _=>True) (fun i _=>some (mk,X43 d 0 (l.take (l.length-i)),0))
  (by
   intro b _ R
   have:decide ((l.length:Int)-1-l.length≥0)=false:=by simp;omega
   simp only [W4,Wf,this,cond_false,Option.bind_some,Sum.elim_inr,h2]
   simp [X43])
  (by
   intro i b hi _ R hR
   have hR':=hR () trivial
   have ht:((l.length:Int)-1-i).toNat=l.length-1-i:=by omega
   have hj:l.length-1-i<l.length:=by omega
   simp only [W4,Wf,ht,X1 _ _ _ hj]
   have e1:decide ((l.length:Int)-1-i≥0)=true:=by simp;omega
   have e2:decide ((0:Int)≤(l.length:Int)-1-i)=true:=by simp;omega
   have e3:decide ((l.length:Int)-1-i<l.length)=true:=by simp;omega
   have hw:IntKind.wrap .i64 ((l.length:Int)-1-i-1)=(l.length:Int)-1-((i+1:Nat):Int):=by rw [w64]<;>omega
   simp only [e1,e2,e3,Bool.and_self,cond_true,hw]
   have hs:l.take (l.length-i)=l.take (l.length-(i+1))++[l[l.length-1-i]]:=by
    have:=List.take_concat_get hj
    rw [show l.length-i=l.length-1-i+1 by omega,←this,List.concat_eq_append,show l.length-(i+1)=l.length-1-i by omega]
   rw [hs,X6t]
   by_cases h3:l[l.length-1-i].Day≤d
   ·simp [h3,h1]
   ·simp only [h3,decide_false,cond_false,Option.bind_some,Sum.elim_inl,if_false]
    exact hR')
 have:=key 0 () (by omega) trivial
 unfold X1D
 simpa using this

theorem X7Y (l:List Zk) (h:X3k l=0):l.length≤4:=by
 unfold X3k at h
 cases ho:X4 1 4 [(l.length:Int)]
 ·simp at ho;omega
 ·rw [ho] at h;simp at h

theorem X7H (sands:List CtSand):∀ (l:List Zw) (i:Nat) (names:List ByteArray),(X4w sands i names l).2.2=0→∀ m∈l,X3v 30000 m.At=false∧m.Paints.length≤4
 | [],_,_,_,m,hm=>by cases hm
 | x::l,i,names,h,m,hm=>by
  simp only [X4w] at h
  by_cases h0:X3t x names=0
  ·simp only [h0,if_true] at h
   rcases List.mem_cons.1 hm with e|e
   ·subst e
    unfold X3t at h0
    by_cases h1:X19 m.Name names=0
    ·simp only [h1,if_true] at h0
     cases hf:X3v 30000 m.At
     ·rw [hf] at h0
      exact ⟨rfl,X7Y _ (by simpa using h0)⟩
     ·rw [hf] at h0;simp at h0
    ·simp only [h1,if_false] at h0
   ·exact X7H sands l _ _ h m e
  ·simp only [h0,if_false] at h

structure Wn (f:ZJ):Prop where
 chart:(X3L f.Chart).2.2=0
 marks:f.Chart.Marks.length≤8
 mark:∀ m∈f.Chart.Marks,X3v 30000 m.At=false∧m.Paints.length≤4
 day:0≤f.Day∧f.Day≤40000
 step:1≤f.Step∧f.Step≤500
 half:0≤f.Half∧f.Half≤8
 inst:1≤f.Instruments.length∧f.Instruments.length≤4
 off:∀ x∈f.Instruments,-X5B x≤x.Off.Lo∧x.Off.Lo≤x.Off.Hi∧x.Off.Hi≤X5B x
 areas:f.Areas.length≤6
 area:∀ a∈f.Areas,X4b a=0

theorem X7E:∀ (l:List Z5) (i:Nat) (names:List ByteArray),(X1Q i names l).2.2=0→∀ x∈l,-X5B x≤x.Off.Lo∧x.Off.Lo≤x.Off.Hi∧x.Off.Hi≤X5B x
 | [],_,_,_,m,hm=>by cases hm
 | x::l,i,names,h,m,hm=>by
  simp only [X1Q] at h
  by_cases h0:X6n x names=0
  ·simp only [h0,if_true] at h
   rcases List.mem_cons.1 hm with e|e
   ·subst e
    unfold X6n at h0
    by_cases h1:X19 m.Name names=0
    ·simp only [h1,ne_eq,not_true,if_false] at h0
     cases ho:X4 (-X5B m) (X5B m) [m.Off.Lo,m.Off.Hi]
     ·rw [ho] at h0
      simp at ho h0
      omega
     ·rw [ho] at h0;simp at h0
    ·simp only [ne_eq,h1,not_false_eq_true,if_true] at h0
   ·exact X7E l _ _ h m e
  ·simp only [h0,if_false] at h
theorem X7y:∀ (l:List Zt) (i:Nat),(X2I i l).2.2=0→∀ x∈l,X4b x=0
 | [],_,_,m,hm=>by cases hm
 | x::l,i,h,m,hm=>by
  simp only [X2I] at h
  by_cases h0:X4b x=0
  ·simp only [h0,if_true] at h
   rcases List.mem_cons.1 hm with e|e
   ·subst e;exact h0
   ·exact X7y l _ h m e
  ·simp only [h0,if_false] at h

theorem X6N {f:ZJ} (h:(X1W f).2.2=0):Wn f:=by
 unfold X1W at h
 by_cases h1:(X3L f.Chart).2.2=0
 ·simp only [h1,ne_eq,not_true,if_false] at h
  cases h2:(X4 0 40000 [f.Day]||X4 1 500 [f.Step]||X4 0 8 [f.Half])
  ·rw [h2] at h
   cases h3:X4 1 4 [(f.Instruments.length:Int)]
   ·rw [h3] at h
    simp only [Bool.false_eq_true,if_false] at h
    by_cases h4:(X1Q 0 [] f.Instruments).2.2=0
    ·simp only [h4,ne_eq,not_true,if_false] at h
     by_cases h5:6<f.Areas.length
     ·rw [if_pos h5] at h;simp at h
     ·rw [if_neg h5] at h
      simp at h2 h3
      have hm:¬ 8<f.Chart.Marks.length:=fun q=>by unfold X3L at h1;rw [if_pos q] at h1;simp at h1
      have h1':=h1
      unfold X3L at h1'
      rw [if_neg hm] at h1'
      exact ⟨h1,by omega,X7H _ _ _ _ h1',by omega,by omega,by omega,by omega,X7E _ _ _ h4,by omega,X7y _ _ h⟩
    ·exfalso
     rw [if_pos h4] at h;exact h4 h
   ·rw [h3] at h;simp at h
  ·rw [h2] at h;simp at h
 ·rw [if_pos h1] at h;exact absurd h h1

theorem X4E {f:ZJ} (hg:Wn f) (mark:Int) (h0:0≤mark) (h1:mark<f.Chart.Marks.length) :
  X2Z f.Chart f.Day mark=some (f.Chart.Marks.getD mark.toNat ⟨ByteArray.empty,⟨0,0⟩,[]⟩,X4G (f.Chart.Marks.getD mark.toNat ⟨ByteArray.empty,⟨0,0⟩,[]⟩) f.Day,0):=by
 rw [X50];unfold X1J
 have hm:=hg.marks
 have hd:=hg.day
 have hj:mark.toNat<f.Chart.Marks.length:=by omega
 have hp:=(hg.mark _ (List.getElem_mem hj)).2
 have hw:IntKind.wrap .i64 ((f.Chart.Marks.length:Int)-1)=(f.Chart.Marks.length:Int)-1:=by rw [w64]<;>omega
 rw [X5c,WW _ _ _ (by simp),WW _ _ _ (by simp),hw]
 have o1:X4 0 40000 [f.Day]=false:=by simp;omega
 have o2:X4 0 ((f.Chart.Marks.length:Int)-1) [mark]=false:=by simp;omega
 have e1:decide (0≤mark)=true:=by simp [h0]
 have e2:decide (mark<(f.Chart.Marks.length:Int))=true:=by simp [h1]
 simp only [Option.bind_some,hg.chart,bne_self_eq_false,cond_false,o1,o2,e1,e2,Bool.and_self,cond_true,X1 _ _ _ hj]
 have hw2:IntKind.wrap .i64 ((f.Chart.Marks[mark.toNat].Paints.length:Int)-1)=(f.Chart.Marks[mark.toNat].Paints.length:Int)-1:=by rw [w64]<;>omega
 rw [hw2]
 exact X7G f.Day _ (by omega) _ _ (fun p c e=>rfl) rfl

def Z8y (f:ZJ) (mark:Int):Zw:=f.Chart.Marks.getD mark.toNat ⟨ByteArray.empty,⟨0,0⟩,[]⟩
def X3T (f:ZJ) (mark:Int):Bool:=X4G (Z8y f mark) f.Day != 0

theorem X88 {f:ZJ} (hg:Wn f) (mark:Int) (h0:0≤mark) (h1:mark<f.Chart.Marks.length) (l:List Zm) (kit:Nat→Nat) (m:List (Zh×Int)) :
  XX (mark,f,l,kit,m)=some (X3T f mark,f,l,kit,m):=by
 rw [X38];unfold XE
 rw [X4Y];unfold X1I
 rw [X4E hg mark h0 h1]
 rfl

def Kit (f:ZJ) (kit:Nat→Nat):Prop:=∀ i,(h:i<f.Instruments.length)→kit i=if f.Instruments[i].Lead then 2 else 1
def X2d (f:ZJ) (i:Int):Z5:=f.Instruments.getD i.toNat ⟨ByteArray.empty,false,⟨0,0⟩⟩

def Wc (f:ZJ) (x:Zm):Int :=
 if X4 0 ((f.Instruments.length:Int)-1) [x.Instrument] then 4 else
 if (X2d f x.Instrument).Lead then (if X4 0 1000 [x.Shown]||X4 0 4 [x.Ground] then 7 else if x.Mark≠0 then 2 else 0)
 else if X4 0 ((f.Chart.Marks.length:Int)-1) [x.Mark] then 4 else if X3T f x.Mark=false then 9 else if X4 0 31 [x.Shown] then 7 else if x.Ground≠0 then 7 else 0

theorem X8q {f:ZJ} (hg:Wn f) (x:Zm) (l:List Zm) {kit:Nat→Nat} (hk:Kit f kit) (m:List (Zh×Int)) :
  X16 (x,f,l,kit,m)=some (Wc f x,f,l,kit,m):=by
 rw [X3r];unfold XS Wc
 have hm:=hg.marks
 have hi:=hg.inst
 have hw:IntKind.wrap .i64 ((f.Chart.Marks.length:Int)-1)=(f.Chart.Marks.length:Int)-1:=by rw [w64]<;>omega
 have hw2:IntKind.wrap .i64 ((f.Instruments.length:Int)-1)=(f.Instruments.length:Int)-1:=by rw [w64]<;>omega
 simp only [hw,hw2]
 rw [X3 _ _ _ (by simp),X3 _ _ _ (by simp),X3 _ _ _ (by simp),X3 _ _ _ (by simp),X3 _ _ _ (by simp)]
 simp only [Option.bind_some]
 cases ho:X4 0 ((f.Instruments.length:Int)-1) [x.Instrument]
 ·simp at ho
  have hj:x.Instrument.toNat<f.Instruments.length:=by omega
  have e1:decide (0≤x.Instrument)=true:=by simp;omega
  have e2:decide (x.Instrument<((4:Nat):Int))=true:=by simp;omega
  have e3:Nat.blt x.Instrument.toNat 4=true:=by rw [Tr.blt_dec];simp;omega
  have hkk:=hk _ hj
  have hio:X2d f x.Instrument=f.Instruments[x.Instrument.toNat]:=X1 _ _ _ hj
  rw [hio]
  have e2':decide (x.Instrument<(4:Int))=true:=by simp;omega
  simp only [cond_false,Bool.false_eq_true,if_false,e1,e2,e2',e3,Bool.and_self,cond_true]
  cases hL:f.Instruments[x.Instrument.toNat].Lead
  ·rw [hL] at hkk
   simp only [Bool.false_eq_true,if_false] at hkk
   simp only [hkk,show Nat.beq 1 0=false from rfl,show Nat.beq 1 1=true from rfl,cond_false,cond_true,Bool.false_eq_true,if_false]
   cases hmk:X4 0 ((f.Chart.Marks.length:Int)-1) [x.Mark]
   ·simp at hmk
    simp only [cond_false,Bool.false_eq_true,if_false]
    rw [X88 hg x.Mark (by omega) (by omega)]
    simp only [Option.bind_some]
    cases X3T f x.Mark
    ·simp
    ·cases X4 0 31 [x.Shown]
     ·by_cases h5:x.Ground=0<;>simp [h5,WE]
     ·simp
   ·simp
  ·rw [hL] at hkk
   simp only [if_true] at hkk
   simp only [hkk,show Nat.beq 2 0=false from rfl,show Nat.beq 2 1=false from rfl,show Nat.beq 2 (1+1)=true from rfl,cond_false,cond_true,if_true]
   cases X4 0 1000 [x.Shown]
   ·cases X4 0 4 [x.Ground]
    ·by_cases h5:x.Mark=0<;>simp [h5,WE]
    ·simp
   ·simp
 ·simp

theorem X6E {f:ZJ} (hg:Wn f) (x:Zm):X4s f x=some (Wc f x):=by
 rw [X5r];unfold X2a Wc
 have hm:=hg.marks
 have hi:=hg.inst
 have hw:IntKind.wrap .i64 ((f.Chart.Marks.length:Int)-1)=(f.Chart.Marks.length:Int)-1:=by rw [w64]<;>omega
 have hw2:IntKind.wrap .i64 ((f.Instruments.length:Int)-1)=(f.Instruments.length:Int)-1:=by rw [w64]<;>omega
 simp only [hw,hw2]
 rw [We,We,We,We,We,X1g,X1g,X1g,X1g,X1g]
 simp only [Option.bind_some,Bool.not_not]
 cases ho:X4 0 ((f.Instruments.length:Int)-1) [x.Instrument]
 ·simp at ho
  have hj:x.Instrument.toNat<f.Instruments.length:=by omega
  have e1:decide (0≤x.Instrument)=true:=by simp;omega
  have e2:decide (x.Instrument<(f.Instruments.length:Int))=true:=by simp;omega
  have hio:X2d f x.Instrument=f.Instruments[x.Instrument.toNat]:=X1 _ _ _ hj
  rw [hio]
  simp only [cond_false,Bool.false_eq_true,if_false,e1,e2,Bool.and_self,cond_true,X1 _ _ _ hj]
  cases hL:f.Instruments[x.Instrument.toNat].Lead
  ·simp only [cond_false,Bool.false_eq_true,if_false]
   cases hmk:X4 0 ((f.Chart.Marks.length:Int)-1) [x.Mark]
   ·simp at hmk
    have hj2:x.Mark.toNat<f.Chart.Marks.length:=by omega
    have e3:decide (0≤x.Mark)=true:=by simp;omega
    have e4:decide (x.Mark<(f.Chart.Marks.length:Int))=true:=by simp;omega
    have hp:=(hg.mark _ (List.getElem_mem hj2)).2
    simp only [cond_false,Bool.false_eq_true,if_false,e3,e4,Bool.and_self,cond_true,X1 _ _ _ hj2]
    rw [X65 _ _ (by omega)]
    unfold X3T Z8y
    rw [X1 _ _ _ hj2]
    simp only [Option.bind_some]
    by_cases h0:X4G f.Chart.Marks[x.Mark.toNat] f.Day=0
    ·simp [h0]
    ·simp only [X4c h0,WE h0,cond_false,Bool.true_eq_false,if_false]
     cases X4 0 31 [x.Shown]
     ·by_cases h5:x.Ground=0<;>simp [h5,WE]
     ·simp
   ·simp
  ·simp only [cond_true,if_true]
   cases X4 0 1000 [x.Shown]
   ·cases X4 0 4 [x.Ground]
    ·by_cases h5:x.Mark=0<;>simp [h5,WE]
    ·simp
   ·simp
 ·simp

def W1 (f:ZJ):Nat→List Zm→Int×Int
 | _,[]=>(0,0)
 | i,x::l=>if Wc f x=0 then W1 f (i+1) l else ((i:Int),Wc f x)
def XM (f:ZJ) (l:List Zm):Int×Int:=if (X1W f).2.2≠0 then (0,(X1W f).2.2) else if 8<l.length then (0,3) else W1 f 0 l

theorem X59 (f:ZJ) (l:List Zm):X2f f l=some (XM f l):=by
 rw [X3I];unfold W3 XM
 rw [X6D]
 simp only [Option.bind_some]
 by_cases h:(X1W f).2.2=0
 ·have hg:=X6N h
  simp only [h,beq_self_eq_true,cond_true,bne_self_eq_false,cond_false,ne_eq,not_true,if_false]
  by_cases h8:8<l.length
  ·have:decide ((l.length:Int)>8)=true:=by simp;omega
   rw [this];simp [h8]
  ·have:decide ((l.length:Int)>8)=false:=by simp;omega
   rw [this]
   simp only [cond_false,h8,if_false]
   exact X6 (Xj l f) _ l.length (fun i (_:Unit)=>(i:Int)) (fun _ _=>True) (fun i _=>some (W1 f i (l.drop i)))
    (by
     intro b _ R
     simp [Xj,Xq,W1])
    (by
     intro i b hi _ R hR
     have hR':=hR () trivial
     simp only [Xj,Xq]
     rw [List.drop_eq_getElem_cons hi]
     have hw:IntKind.wrap .i64 ((i:Int)+1)=((i+1:Nat):Int):=by rw [w64]<;>omega
     simp only [Int.toNat_natCast,X1 _ _ _ hi,hw,W1]
     rw [X6E hg]
     have h1:decide ((i:Int)<↑l.length)=true:=by simp [hi]
     have h2:decide ((0:Int)≤↑i)=true:=by simp
     simp only [h1,h2,Bool.and_self,cond_true,Option.bind_some]
     by_cases he:Wc f l[i]=0
     ·simp only [he,bne_self_eq_false,cond_false,Option.bind_some,Sum.elim_inl,if_true]
      exact hR'
     ·simp [he,WE he]) 0 () (by omega) trivial
 ·simp [h,WE h,X4c h]

theorem X8B (f:ZJ) (hi:f.Instruments.length≤4):∃ kit,X2K f.Instruments (↑f.Instruments.length) (0,fun _=>0)=some kit∧Kit f kit:=by
 have key:∀ j i (b:Nat→Nat),f.Instruments.length-i=j→i≤f.Instruments.length→(∀ q,(h:q<f.Instruments.length)→q<i→b q=if f.Instruments[q].Lead then 2 else 1) →
   ∃ kit,Z8S (Wt f.Instruments (↑f.Instruments.length)) ((i:Int),b)=some kit∧Kit f kit:=fun j=>by
  induction j with
  | zero =>
   intro i b hj hil hb
   have:i=f.Instruments.length:=by omega
   subst this
   refine ⟨b,?_,fun q hq=>hb q hq hq⟩
   rw [←X2g (Z8S _ _),X3K]
   simp [Wt,WK]
  | succ j ih =>
   intro i b hj hil hb
   have hlt:i<f.Instruments.length:=by omega
   have hw:IntKind.wrap .i64 ((i:Int)+1)=((i+1:Nat):Int):=by rw [w64]<;>omega
   have e1:decide ((i:Int)<↑f.Instruments.length)=true:=by simp [hlt]
   have e2:decide ((0:Int)≤↑i)=true:=by simp
   have e3:decide ((i:Int)<((4:Nat):Int))=true:=by simp;omega
   have e3':decide ((i:Int)<(4:Int))=true:=by simp;omega
   have e4:Nat.blt i 4=true:=by rw [Tr.blt_dec];simp;omega
   obtain ⟨kit,h1,h2⟩:=ih (i+1) (fun q=>if q=i then (if f.Instruments[i].Lead then 2 else 1) else b q) (by omega) (by omega) (fun q hq hq2=>by
    by_cases e:q=i
    ·subst e;simp
    ·simp only [e,if_false];exact hb q hq (by omega))
   refine ⟨kit,?_,h2⟩
   rw [←X2g (Z8S _ _),X3K]
   simp only [Wt,WK,Int.toNat_natCast,X1 _ _ _ hlt,hw,e1,e2,e3,e3',e4,Bool.and_self,cond_true]
   have hfun:(fun j=>bif Nat.beq j i then 1+1 else bif Nat.beq j i then 1 else b j)=fun q=>if q=i then 2 else b q:=by
    funext q;rw [Tr.beq_dec];by_cases e:q=i<;>simp [e]
   have hfun2:(fun j=>bif Nat.beq j i then 1 else b j)=fun q=>if q=i then 1 else b q:=by
    funext q;rw [Tr.beq_dec];by_cases e:q=i<;>simp [e]
   rw [hfun,hfun2]
   cases hL:f.Instruments[i].Lead
   ·rw [hL] at h1
    simp only [Bool.false_eq_true,if_false] at h1
    simp only [cond_false,Option.bind_some,Sum.elim_inl]
    rw [X2g];exact h1
   ·rw [hL] at h1
    simp only [if_true] at h1
    simp only [cond_true,Option.bind_some,Sum.elim_inl]
    rw [X2g];exact h1
 exact key _ 0 _ rfl (by omega) (fun q _ h=>by omega)

theorem X8o {f:ZJ} (hg:Wn f) (l:List Zm) (h8:l.length≤8) {kit:Nat→Nat} (hk:Kit f kit) {γ:Type} (k:_→Option γ) :
  Option.bind (X2L l (↑l.length) (0,f,l,kit,[])) k=if (W1 f 0 l).2=0 then k (.inr (f,l,kit,[])) else k (.inl ((W1 f 0 l).2,(W1 f 0 l).1,f,l,kit,l.getD (W1 f 0 l).1.toNat ⟨0,0,0,0⟩,l.getD (W1 f 0 l).1.toNat ⟨0,0,0,0⟩,[])):=by
 refine (X6 (Wu l (↑l.length)) k l.length (fun i (_:Unit)=>((i:Int),f,l,kit,[])) (fun _ _=>True) (fun i _=>if (W1 f i (l.drop i)).2=0 then k (.inr (f,l,kit,[])) else k (.inl ((W1 f i (l.drop i)).2,(W1 f i (l.drop i)).1,f,l,kit,l.getD (W1 f i (l.drop i)).1.toNat ⟨0,0,0,0⟩,l.getD (W1 f i (l.drop i)).1.toNat ⟨0,0,0,0⟩,[])))
  (by
   intro b _ R
   simp [Wu,WL,W1])
  (by
   intro i b hi _ R hR
   have hR':=hR () trivial
   simp only [Wu,WL]
   rw [List.drop_eq_getElem_cons hi]
   have hw:IntKind.wrap .i64 ((i:Int)+1)=((i+1:Nat):Int):=by rw [w64]<;>omega
   simp only [Int.toNat_natCast,X1 _ _ _ hi,hw,W1]
   rw [X8q hg _ _ hk]
   have h1:decide ((i:Int)<↑l.length)=true:=by simp [hi]
   have h2:decide ((0:Int)≤↑i)=true:=by simp
   simp only [h1,h2,Bool.and_self,cond_true,Option.bind_some]
   by_cases he:Wc f l[i]=0
   ·simp only [he,bne_self_eq_false,cond_false,Option.bind_some,Sum.elim_inl,if_true]
    exact hR'
   ·simp only [WE he,cond_true,Option.bind_some,Sum.elim_inr,if_neg he]
    rw [show ((i:Int)).toNat=i from rfl,X1 _ _ _ hi]) 0 () (by omega) trivial).trans (by simp)

theorem X6e (f:ZJ) (l:List Zm):((X1W f).2.2≠0∨8<l.length)∧X1x (l,f)=some (.inl (XM f l).2)∧(XM f l).2≠0 ∨
  ∃ kit,Wn f∧l.length≤8∧Kit f kit∧X1x (l,f)=some (.inr ((XM f l).2,f,l,kit,[])):=by
 rw [X54];unfold X1P
 rw [X5h];unfold X26
 rw [X78]
 unfold XM
 simp only [Option.bind_some]
 by_cases h:(X1W f).2.2=0
 ·have hg:=X6N h
  simp only [h,bne_self_eq_false,cond_false,ne_eq,not_true,if_false]
  by_cases h8:8<l.length
  ·have:decide ((l.length:Int)>8)=true:=by simp;omega
   rw [this];simp [h8]
  ·have:decide ((l.length:Int)>8)=false:=by simp;omega
   rw [this]
   simp only [cond_false,h8,if_false]
   obtain ⟨kit,hk1,hk2⟩:=X8B f hg.inst.2
   refine .inr ⟨kit,hg,by omega,hk2,?_⟩
   rw [hk1,Option.bind_some]
   rw [X8o hg l (by omega) hk2]
   by_cases he:(W1 f 0 l).2=0<;>simp [he]
 ·left
  simp [h,WE h]
end Nore
open Go Go.Ab
namespace Nore

theorem X3A {β σ ω γ:Type} (st:σ→Option (σ⊕ω)) (k:ω→Option γ) (n:Nat) (emb:Nat→β→σ) (P:Nat→β→Prop) (Q:Nat→β→Option γ→Prop)
  (hd:∀ b,P n b→∀ R:σ→Option γ,Q n b (Option.bind (st (emb n b)) (Sum.elim R k)))
  (hn:∀ i b,i<n→P i b→∀ R:σ→Option γ,(∀ b',P (i+1) b'→Q (i+1) b' (R (emb (i+1) b')))→Q i b (Option.bind (st (emb i b)) (Sum.elim R k))) :
  ∀ i b,i≤n→P i b→Q i b (Option.bind (Z8S st (emb i b)) k):=by
 intro i b hi hP
 induction hj:n-i generalizing i b with
 | zero =>
  have:i=n:=by omega
  subst this
  rw [X3K];exact hd b hP _
 | succ j ih =>
  rw [X3K]
  exact hn i b (by omega) hP _ fun b' hb'=>ih (i+1) b' (by omega) hb' (by omega)

instance decPoint:DecidableEq Zu:=fun a b=>decidable_of_iff (a.X=b.X∧a.Y=b.Y) ⟨fun h=>Zu.ext h.1 h.2,fun h=>by subst h;exact ⟨rfl,rfl⟩⟩

def X4o (v:Zu):Int×Zu :=
 if 0≤v.X∧0<v.Y then (0,v) else if 0<v.X∧v.Y≤0 then (8,⟨-v.Y,v.X⟩) else if v.X≤0∧v.Y<0 then (16,⟨-v.X,-v.Y⟩) else (24,⟨v.Y,-v.X⟩)
def Xl:List Zu:=[⟨0,1000⟩,⟨195,981⟩,⟨383,924⟩,⟨556,831⟩,⟨707,707⟩,⟨831,556⟩,⟨924,383⟩,⟨981,195⟩]
def X7l (v:Zu) (l:List Zu):Nat:=l.countP fun q=>decide (q.X*v.Y-q.Y*v.X≤0)
def X6f (v:Zu):Int:=(X4o v).1+(X7l (X4o v).2 Xl:Nat)-1

theorem X8f {v:Zu} (hb : -60000≤v.X∧v.X≤60000 ∧ -60000≤v.Y∧v.Y≤60000) (h0:¬ (v.X=0∧v.Y=0)):0≤(X4o v).1∧(X4o v).1≤24∧0≤(X4o v).2.X∧(X4o v).2.X≤60000∧0<(X4o v).2.Y∧(X4o v).2.Y≤60000:=by
 unfold X4o
 split
 ·simp only;omega
 ·split
  ·simp only;omega
  ·split<;>simp only<;>omega

theorem X7u {γ:Type} (v:Zu) (hb : -60000≤v.X∧v.X≤60000 ∧ -60000≤v.Y∧v.Y≤60000) (h0:¬ (v.X=0∧v.Y=0)) (k:Int×Zu→Option γ) :
  Option.bind (X1E (0,v)) k=k (X4o v):=by
 obtain ⟨x,y⟩:=v
 simp only at hb h0
 have stop:∀ (n:Int) (x y:Int),0≤x→0<y→Option.bind (Z8S Xd (n,⟨x,y⟩)) k=k (n,⟨x,y⟩):=fun n x y hx hy=>by
  rw [X3K]
  have e1:decide (x<0)=false:=by simp;omega
  have e2:decide (y≤0)=false:=by simp;omega
  simp only [Xd,Xz,e1,e2,cond_false,Option.bind_some,Sum.elim_inr]
 have go:∀ (n:Int) (x y:Int),0≤n→n≤24 → -60000≤x→x≤60000 → -60000≤y→y≤60000→(x<0∨y≤0)→Option.bind (Z8S Xd (n,⟨x,y⟩)) k=Option.bind (Z8S Xd (n+8,⟨-y,x⟩)) k:=fun n x y h1 h2 h3 h4 h5 h6 h7=>by
  rw [X3K]
  have w1:IntKind.wrap .i64 (n+8)=n+8:=by rw [w64]<;>omega
  have w2:IntKind.wrap .i64 (0-y) = -y:=by rw [w64]<;>omega
  by_cases e1:x<0
  ·simp only [Xd,Xz,e1,decide_true,cond_true,Option.bind_some,Sum.elim_inl,w1,w2]
  ·have e2:y≤0:=by omega
   simp only [Xd,Xz,e1,e2,decide_true,decide_false,cond_true,cond_false,Option.bind_some,Sum.elim_inl,w1,w2]
 unfold X1E X4o
 simp only
 by_cases c1:0≤x∧0<y
 ·rw [if_pos c1];exact stop _ _ _ c1.1 c1.2
 ·rw [if_neg c1]
  by_cases c2:0<x∧y≤0
  ·rw [if_pos c2,go 0 x y (by omega) (by omega) (by omega) (by omega) (by omega) (by omega) (by omega)]
   exact stop _ _ _ (by omega) (by omega)
  ·rw [if_neg c2]
   by_cases c3:x≤0∧y<0
   ·rw [if_pos c3,go 0 x y (by omega) (by omega) (by omega) (by omega) (by omega) (by omega) (by omega),go _ _ _ (by omega) (by omega) (by omega) (by omega) (by omega) (by omega) (by omega)]
    exact stop _ _ _ (by omega) (by omega)
   ·rw [if_neg c3,go 0 x y (by omega) (by omega) (by omega) (by omega) (by omega) (by omega) (by omega),go _ _ _ (by omega) (by omega) (by omega) (by omega) (by omega) (by omega) (by omega),go _ _ _ (by omega) (by omega) (by omega) (by omega) (by omega) (by omega) (by omega)]
    rw [show (- - y:Int)=y by omega]
    exact stop _ _ _ (by omega) (by omega)

theorem X7v {γ:Type} (q:Nat→Zu) (hq:∀ i,(h:i<8)→q i=Xl[i]) (v:Zu) (hb:0≤v.X∧v.X≤60000∧0≤v.Y∧v.Y≤60000) (n:Int) (hn:0≤n∧n≤24) (k:Int→Option γ) :
  Option.bind (X2z q v (n,0)) k=k (n+(X7l v Xl:Nat)):=by
 refine (X6 (W6 q v) k 8 (fun i (b:Int)=>(b,(i:Int))) (fun i b=>0≤b∧b≤24+i) (fun i b=>k (b+(X7l v (Xl.drop i):Nat))) ?_ ?_ 0 n (by omega) (by omega)).trans (by simp)
 ·intro b _ R
  simp [W6,Wh,X7l,Xl]
 ·intro i b hi hP R hR
  simp only [W6,Wh]
  rw [List.drop_eq_getElem_cons (show i<Xl.length from hi)]
  have hw:IntKind.wrap .i64 ((i:Int)+1)=((i+1:Nat):Int):=by rw [w64]<;>omega
  have hwb:IntKind.wrap .i64 (b+1)=b+1:=by rw [w64]<;>omega
  have e1:decide ((i:Int)<8)=true:=by simp;omega
  have e2:decide ((0:Int)≤↑i)=true:=by simp
  have e3:decide ((i:Int)<((8:Nat):Int))=true:=by simp;omega
  have hqb:0≤(Xl[i]'hi).X∧(Xl[i]'hi).X≤1000∧0≤(Xl[i]'hi).Y∧(Xl[i]'hi).Y≤1000:=by
   have:i=0∨i=1∨i=2∨i=3∨i=4∨i=5∨i=6∨i=7:=by omega
   rcases this with rfl|rfl|rfl|rfl|rfl|rfl|rfl|rfl<;>simp [Xl]
  have b1:=X4y (a:=(Xl[i]'hi).X) (b:=v.Y) 1000 60000 (by omega) (by omega) (by omega) (by omega)
  have b2:=X4y (a:=(Xl[i]'hi).Y) (b:=v.X) 1000 60000 (by omega) (by omega) (by omega) (by omega)
  simp only [Int.toNat_natCast,hq i hi,hw,hwb]
  rw [w64 (x:=(Xl[i]'hi).X*v.Y) (by omega) (by omega),w64 (x:=(Xl[i]'hi).Y*v.X) (by omega) (by omega),w64 (x:=(Xl[i]'hi).X*v.Y-_) (by omega) (by omega)]
  simp only [e1,e2,e3,Bool.and_self,cond_true]
  unfold X7l at hR ⊢
  generalize Xl[i]'hi=Q at *
  by_cases h:Q.X*v.Y-Q.Y*v.X≤0
  ·rw [List.countP_cons_of_pos (by simpa using h)]
   simp only [h,decide_true,cond_true,Option.bind_some,Sum.elim_inl]
   rw [hR (b+1) (by omega)]
   congr 1
   push_cast
   omega
  ·rw [List.countP_cons_of_neg (by simpa using h)]
   simp only [h,decide_false,cond_false,Option.bind_some,Sum.elim_inl]
   exact hR b (by omega)

theorem X6d (v:Zu) (hb : -60000≤v.X∧v.X≤60000 ∧ -60000≤v.Y∧v.Y≤60000) (h0:¬ (v.X=0∧v.Y=0)):X3S v=some (X6f v):=by
 rw [X52];unfold X1L
 have hq:=X8f hb h0
 rw [X7u v hb h0,X7v _ (fun i hi=>by
   have:i=0∨i=1∨i=2∨i=3∨i=4∨i=5∨i=6∨i=7:=by omega
   rcases this with rfl|rfl|rfl|rfl|rfl|rfl|rfl|rfl<;>rfl) _ (by omega) _ (by omega)]
 have hc:X7l (X4o v).2 Xl≤8:=List.countP_le_length (l:=Xl)
 unfold X6f
 rw [w64 (by omega) (by omega)]

theorem X8F {v:Zu} (hb : -60000≤v.X∧v.X≤60000 ∧ -60000≤v.Y∧v.Y≤60000) (h0:¬ (v.X=0∧v.Y=0)):0≤X6f v∧X6f v≤31:=by
 have hq:=X8f hb h0
 have hc:X7l (X4o v).2 Xl≤8:=List.countP_le_length (l:=Xl)
 have h1:1≤X7l (X4o v).2 Xl:=by
  unfold X7l Xl
  rw [List.countP_cons_of_pos (by simp;omega)]
  omega
 unfold X6f
 omega

def X71 (f:ZJ) (mark:Int) (p:Zu):Int×Int :=
 if X3T f mark=false then (0,9) else if X3v 30000 p then (0,7) else if (Z8y f mark).At=p then (0,8) else (X6f (W0 (Z8y f mark).At p),0)
def X4t (f:ZJ) (mark:Int) (p:Zu):Int:=if (X71 f mark p).2≠0 then -1 else (X71 f mark p).1

theorem X8e {f:ZJ} (hg:Wn f) {mark:Int} (h0:0≤mark) (h1:mark<f.Chart.Marks.length):Bd 30000 (Z8y f mark).At:=by
 have hj:mark.toNat<f.Chart.Marks.length:=by omega
 have:=(hg.mark _ (List.getElem_mem hj)).1
 rw [X6G] at this
 unfold Z8y
 rw [X1 _ _ _ hj];exact this

theorem X6J {f:ZJ} (hg:Wn f) (mark:Int) (h0:0≤mark) (h1:mark<f.Chart.Marks.length) (p:Zu):X4N f.Chart f.Day mark p=some (X71 f mark p):=by
 rw [X5D];unfold X2h X71
 rw [X4e];unfold X14
 rw [X4E hg mark h0 h1]
 have hb:=X8e hg h0 h1
 unfold X3T Z8y at *
 generalize hM:f.Chart.Marks.getD mark.toNat ⟨ByteArray.empty,⟨0,0⟩,[]⟩=M at *
 simp only [Option.bind_some,beq_self_eq_true,cond_true]
 by_cases hp:X4G M f.Day=0
 ·simp [hp]
 ·simp only [X4c hp,cond_false,Option.bind_some,bne_self_eq_false,WE hp,Bool.true_eq_false,if_false]
  rw [X4O _ (by omega) _ (by simp)]
  simp only [Option.bind_some,List.any_cons,List.any_nil,Bool.or_false]
  cases hf:X3v 30000 p
  ·rw [X6G] at hf
   unfold Bd at hb hf
   simp only [cond_false,Bool.false_eq_true,if_false,Bool.and_true]
   by_cases he:M.At=p
   ·subst he;simp
   ·have:(M.At.X==p.X&&M.At.Y==p.Y)=false:=by
     cases hc:(M.At.X==p.X&&M.At.Y==p.Y)
     ·rfl
     ·exfalso;simp at hc;exact he (Zu.ext hc.1 hc.2)
    rw [this,if_neg he]
    simp only [cond_false]
    rw [w64 (x:=M.At.X-p.X) (by omega) (by omega),w64 (x:=M.At.Y-p.Y) (by omega) (by omega)]
    have h00:¬ (M.At.X-p.X=0∧M.At.Y-p.Y=0):=fun q=>he (Zu.ext (by omega) (by omega))
    rw [X6d _ (by simp only;omega) h00]
    rfl
  ·simp

theorem X8N {f:ZJ} (hg:Wn f) {mark:Int} (h0:0≤mark) (h1:mark<f.Chart.Marks.length) (p:Zu) : -1≤X4t f mark p∧X4t f mark p≤31:=by
 have hb:=X8e hg h0 h1
 unfold X4t X71
 by_cases h:X3T f mark=false
 ·simp [h]
 ·rw [if_neg h]
  by_cases h3:X3v 30000 p=true
  ·simp [h3]
  ·rw [if_neg h3]
   by_cases h4:(Z8y f mark).At=p
   ·simp [h4]
   ·rw [if_neg h4]
    simp only [Bool.not_eq_true] at h3
    rw [X6G] at h3
    unfold Bd at hb h3
    have:=X8F (v:=W0 (Z8y f mark).At p) (by unfold W0;simp only;omega) (fun q=>h4 (by unfold W0 at q;simp only at q;exact Zu.ext (by omega) (by omega)))
    simp only [ne_eq,not_true,if_false]
    omega

theorem X4W (a b:Zh):Zh.eqb a b=true↔a=b:=by
 obtain ⟨m,⟨x,y⟩⟩:=a
 obtain ⟨m',⟨x',y'⟩⟩:=b
 simp [Zh.eqb]
theorem X6s {v:Int} (s k:Zh):∀ m:List (Zh×Int),Z8z Zh.eqb s (Zgh Zh.eqb k v m)=bif Zh.eqb s k then some v else Z8z Zh.eqb s m
 | []=>by
  simp only [Zgh,Z8z]
 | (a,b)::m=>by
  have ih:=X6s (v:=v) s k m
  simp only [Zgh]
  have sym:∀ x y,Zh.eqb x y=Zh.eqb y x:=fun x y=>by
   cases h:Zh.eqb y x with
   | true=>rw [(X4W _ _).1 h,(X4W x x).2 rfl]
   | false=>cases h2:Zh.eqb x y with
    | false=>rfl
    | true=>rw [(X4W _ _).1 h2,(X4W y y).2 rfl] at h;cases h
  cases e:Zh.eqb a k with
  | true =>
   have:=(X4W _ _).1 e
   subst this
   simp only [e,cond_true,Z8z]
   cases Zh.eqb s a<;>rfl
  | false =>
   have e6:Zh.eqb k a=false:=by rw [sym];exact e
   simp only [e,e6,cond_false,Z8z,ih]
   cases h:Zh.eqb s k with
   | true =>
    have:=(X4W _ _).1 h
    subst this
    simp [e,e6]
   | false=>rfl

def Xm (f:ZJ) (m:List (Zh×Int)):Prop:=∀ (mark:Int) p n,0≤mark→mark<f.Chart.Marks.length→Z8z Zh.eqb ⟨mark,p⟩ m=some n→n=X4t f mark p
theorem X5R (f:ZJ):Xm f []:=fun _ _ _ _ _ h=>by cases h

theorem X8a {f:ZJ} (hg:Wn f) {mark:Int} (h0:0≤mark) (h1:mark<f.Chart.Marks.length) (p:Zu) (l:List Zm) (kit:Nat→Nat) {m:List (Zh×Int)} (hm:Xm f m) :
  ∃ m',Xm f m'∧XY (mark,p,f,l,kit,m)=some (X4t f mark p,f,l,kit,m'):=by
 rw [X3d];unfold XG
 cases hf:Z8z Zh.eqb ⟨mark,p⟩ m with
 | some n=>exact ⟨m,hm,by simp only [hf,Option.isSome_some,Bool.not_true,cond_false,Option.getD_some];rw [hm _ _ _ h0 h1 hf]⟩
 | none =>
  simp only [hf,Option.isSome_none,Bool.not_false,cond_true]
  rw [X6J hg mark h0 h1]
  have put:∀ v,v=X4t f mark p→Xm f (Zgh Zh.eqb ⟨mark,p⟩ v m):=fun v hv mk q n k0 k1 hq=>by
   rw [X6s] at hq
   cases e:Zh.eqb ⟨mk,q⟩ ⟨mark,p⟩ with
   | true =>
    rw [e] at hq
    cases (X4W _ _).1 e;cases hq;exact hv
   | false =>
    rw [e] at hq
    exact hm _ _ _ k0 k1 hq
  simp only [Option.bind_some]
  by_cases he:(X71 f mark p).2=0
  ·have hs:X4t f mark p=(X71 f mark p).1:=by unfold X4t;rw [if_neg (by simp [he])]
   refine ⟨_,put _ hs.symm,?_⟩
   simp only [he,bne_self_eq_false,cond_false,hs]
  ·have hs:X4t f mark p = -1:=by unfold X4t;rw [if_pos he]
   refine ⟨_,put _ hs.symm,?_⟩
   simp only [WE he,cond_true,hs]

def X8R (shown Z5R:Int):Int:=if (shown-Z5R+32) % 32>16 then (shown-Z5R+32) % 32-32 else (shown-Z5R+32) % 32
def X4T (a:Zt) (p:Zu):Bool := !X4 a.X.Lo a.X.Hi [p.X] && !X4 a.Y.Lo a.Y.Hi [p.Y]
def X8y (f:ZJ) (p:Zu):Option Zt:=f.Areas.find? fun a=>X4T a p
def X2Y (f:ZJ) (p:Zu) (x:Zm):ZE×Bool :=
 if (X2d f x.Instrument).Lead then (match X8y f p with
  | none=>(⟨-20,20⟩,true)
  | some a=>(⟨x.Shown-a.Depth.Hi,x.Shown-a.Depth.Lo⟩,x.Ground==0||x.Ground==a.Ground))
 else (⟨X8R x.Shown (X4t f x.Mark p),X8R x.Shown (X4t f x.Mark p)⟩,decide (X4t f x.Mark p≥0))

theorem X4L {f:ZJ} {x:Zm} (h:Wc f x=0):(0≤x.Instrument∧x.Instrument<f.Instruments.length)∧((X2d f x.Instrument).Lead=true→0≤x.Shown∧x.Shown≤1000∧0≤x.Ground∧x.Ground≤4∧x.Mark=0) ∧
  ((X2d f x.Instrument).Lead=false→0≤x.Mark∧x.Mark<f.Chart.Marks.length∧X3T f x.Mark=true∧0≤x.Shown∧x.Shown≤31∧x.Ground=0):=by
 unfold Wc at h
 cases h1:X4 0 ((f.Instruments.length:Int)-1) [x.Instrument]
 ·rw [h1] at h
  simp only [Bool.false_eq_true,if_false] at h
  simp at h1
  refine ⟨by omega,fun hL => ?_,fun hL => ?_⟩
  ·rw [if_pos hL] at h
   cases h2:X4 0 1000 [x.Shown]
   ·cases h3:X4 0 4 [x.Ground]
    ·rw [h2,h3] at h
     simp at h h2 h3
     omega
    ·rw [h2,h3] at h;simp at h
   ·rw [h2] at h;simp at h
  ·rw [if_neg (by simp [hL])] at h
   cases h2:X4 0 ((f.Chart.Marks.length:Int)-1) [x.Mark]
   ·rw [h2] at h
    cases h3:X3T f x.Mark
    ·rw [h3] at h;simp at h
    ·cases h4:X4 0 31 [x.Shown]
     ·rw [h3,h4] at h
      simp at h h2 h4
      exact ⟨by omega,by omega,rfl,by omega,by omega,by omega⟩
     ·rw [h3,h4] at h;simp at h
   ·rw [h2] at h;simp at h
 ·rw [h1] at h;simp at h

theorem X7C {f:ZJ} (hg:Wn f) {x:Zm} (hx:Wc f x=0) (hL:(X2d f x.Instrument).Lead=false) (p:Zu) (l:List Zm) (kit:Nat→Nat) {m:List (Zh×Int)} (hm:Xm f m) :
  ∃ m',Xm f m'∧Xr (p,x,f,l,kit,m)=some ((X2Y f p x).1,(X2Y f p x).2,f,l,kit,m'):=by
 obtain ⟨h1,_,h3⟩:=X4L hx
 have h3:=h3 hL
 obtain ⟨m',hm',ht⟩:=X8a hg h3.1 h3.2.1 p l kit hm
 refine ⟨m',hm',?_⟩
 rw [X3f];unfold XH X2Y X8R
 rw [ht,if_neg (by simp [hL])]
 have hs:=X8N hg h3.1 h3.2.1 p
 generalize X4t f x.Mark p=s at *
 simp only [Option.bind_some]
 rw [w64 (x:=x.Shown-s) (by omega) (by omega),w64 (x:=x.Shown-s+32) (by omega) (by omega)]
 have ht:(x.Shown-s+32).tmod 32=(x.Shown-s+32) % 32:=Int.tmod_eq_emod_of_nonneg (by omega)
 rw [ht]
 by_cases hc:(x.Shown-s+32) % 32>16
 ·have hw:IntKind.wrap .i64 ((x.Shown-s+32) % 32-32)=(x.Shown-s+32) % 32-32:=by rw [w64]<;>omega
  simp only [hc,decide_true,cond_true,if_true,hw]
 ·simp only [hc,decide_false,cond_false,if_false]

theorem X8I {a:Zt} (h:X4b a=0):0≤a.Depth.Lo∧a.Depth.Lo≤a.Depth.Hi∧a.Depth.Hi≤1000∧a.X.Lo≤a.X.Hi∧a.Y.Lo≤a.Y.Hi∧1≤a.Ground∧a.Ground≤4:=by
 unfold X4b at h
 cases h1:(X4 (-30000) 30000 [a.X.Lo,a.X.Hi,a.Y.Lo,a.Y.Hi]||X4 0 1000 [a.Depth.Lo,a.Depth.Hi]||X4 1 4 [a.Ground])
 ·rw [h1] at h
  simp at h h1
  omega
 ·rw [h1] at h;simp at h

theorem X8C {f:ZJ} (hg:Wn f) {x:Zm} (hx:Wc f x=0) (hL:(X2d f x.Instrument).Lead=true) (p:Zu) (l:List Zm) (kit:Nat→Nat) (m:List (Zh×Int)) :
  W7 (p,x,f,l,kit,m)=some ((X2Y f p x).1,(X2Y f p x).2,f,l,kit,m):=by
 obtain ⟨h1,h2,_⟩:=X4L hx
 have h2:=h2 hL
 rw [X3O];unfold Wj X2Y
 rw [if_pos hL]
 have ha:=hg.areas
 refine (X6 (Xp (↑f.Areas.length) f.Areas p) _ f.Areas.length (fun i (_:Unit)=>(i:Int)) (fun _ _=>True) (fun i _=>match (f.Areas.drop i).find? fun a=>X4T a p with
   | none=>some (⟨-20,20⟩,true,f,l,kit,m)
   | some a=>some (⟨x.Shown-a.Depth.Hi,x.Shown-a.Depth.Lo⟩,x.Ground==0||x.Ground==a.Ground,f,l,kit,m)) ?_ ?_ 0 () (by omega) trivial).trans ?_
 ·intro b _ R
  simp [Xp,Xx]
 ·intro i b hi _ R hR
  have hR':=hR () trivial
  have hab:=X8I (hg.area _ (List.getElem_mem hi))
  simp only [Xp,Xx]
  rw [List.drop_eq_getElem_cons hi,List.find?_cons]
  have hw:IntKind.wrap .i64 ((i:Int)+1)=((i+1:Nat):Int):=by rw [w64]<;>omega
  simp only [Int.toNat_natCast,X1 _ _ _ hi,hw]
  rw [X3 _ _ _ (by simp),X3 _ _ _ (by simp)]
  have e1:decide ((i:Int)<↑f.Areas.length)=true:=by simp [hi]
  have e2:decide ((0:Int)≤↑i)=true:=by simp
  have e3:decide ((i:Int)<0)=false:=by simp
  simp only [e1,e2,Bool.and_self,cond_true,Option.bind_some]
  have w1:IntKind.wrap .i64 (x.Shown-f.Areas[i].Depth.Hi)=x.Shown-f.Areas[i].Depth.Hi:=by rw [w64]<;>omega
  have w2:IntKind.wrap .i64 (x.Shown-f.Areas[i].Depth.Lo)=x.Shown-f.Areas[i].Depth.Lo:=by rw [w64]<;>omega
  cases o1:X4 f.Areas[i].X.Lo f.Areas[i].X.Hi [p.X]
  ·cases o2:X4 f.Areas[i].Y.Lo f.Areas[i].Y.Hi [p.Y]
   ·have:X4T f.Areas[i] p=true:=by unfold X4T;rw [o1,o2];rfl
    simp only [this,Bool.not_false,cond_true,Option.bind_some,Sum.elim_inr,Sum.elim_inl,e3,cond_false,e1,e2,Bool.and_self,Int.toNat_natCast,X1 _ _ _ hi,w1,w2]
    by_cases hG:x.Ground=0
    ·simp [hG]
    ·simp [X4c hG]
   ·have:X4T f.Areas[i] p=false:=by unfold X4T;rw [o1,o2];rfl
    simp only [this,Bool.not_false,Bool.not_true,cond_true,cond_false,Option.bind_some,Sum.elim_inl]
    exact hR'
  ·have:X4T f.Areas[i] p=false:=by unfold X4T;rw [o1];rfl
   simp only [this,Bool.not_true,cond_false,Option.bind_some,Sum.elim_inl]
   exact hR'
 ·simp only [List.drop_zero,X8y]
  cases f.Areas.find? fun a=>X4T a p<;>rfl
end Nore
open Go Go.Ab
namespace Nore

def X6c (x k:Int):Bool:=IntKind.wrap IntKind.i64 (↑(BitVec.toNat (BitVec.ofInt (IntKind.bits IntKind.i64) (Int.fdiv x (2 ^ min (Int.toNat k) (IntKind.bits IntKind.i64))) &&& BitVec.ofInt (IntKind.bits IntKind.i64) 1)):Int)==1
theorem X8i (k:Int):X6c 0 k=false:=by
 unfold X6c
 rw [show Int.fdiv 0 (2 ^ min (Int.toNat k) (IntKind.bits IntKind.i64))=0 from Int.zero_fdiv _]
 decide

def X2x (f:ZJ) (ib mb:Int) (x:Zm):Bool:=X6c ib x.Instrument||(!(X2d f x.Instrument).Lead&&X6c mb x.Mark)
def X4P (n a:ZE):ZE:=⟨if a.Lo>n.Lo then a.Lo else n.Lo,if a.Hi<n.Hi then a.Hi else n.Hi⟩
def atL (f:ZJ) (p:Zu) (ib mb:Int):(Nat→ZE)→List Zm→(Nat→ZE)×Bool
 | s,[]=>(s,true)
 | s,x::l=>if X2x f ib mb x then atL f p ib mb s l else
  if (X2Y f p x).2=false∨(X4P (X2Y f p x).1 (s x.Instrument.toNat)).Lo>(X4P (X2Y f p x).1 (s x.Instrument.toNat)).Hi then (s,false) else
  atL f p ib mb (fun j=>if j=x.Instrument.toNat then X4P (X2Y f p x).1 (s x.Instrument.toNat) else s j) l
def X3E (f:ZJ) (i:Nat):ZE:=if h:i<f.Instruments.length then f.Instruments[i].Off else ⟨0,0⟩
def atN (f:ZJ) (l:List Zm) (p:Zu) (ib mb:Int):(Nat→ZE)×Bool:=atL f p ib mb (X3E f) l

theorem X8z {γ:Type} (f:ZJ) (hi4:f.Instruments.length≤4) (x0 x2:Int) (l:List Zm) (kit:Nat→Nat) (m:List (Zh×Int)) (p:Zu) (k:(Nat→ZE)→Option γ) :
  Option.bind (X1Y (↑f.Instruments.length) x0 x2 f.Instruments f l kit m p (0,fun _=>⟨0,0⟩)) k=k (X3E f):=by
 refine (X6 (Xs (↑f.Instruments.length) x0 x2 f.Instruments f l kit m p) k f.Instruments.length (fun i (b:Nat→ZE)=>((i:Int),b)) (fun i b=>∀ j,b j=if j<i then X3E f j else ⟨0,0⟩) (fun _ _=>k (X3E f)) ?_ ?_ 0 _ (by omega) (fun j=>by simp))
 ·intro b hb R
  have:b=X3E f:=by
   funext j
   rw [hb]
   by_cases h:j<f.Instruments.length
   ·simp [h]
   ·simp [h,X3E]
  simp [Xs,XB,this]
 ·intro i b hi hb R hR
  have hw:IntKind.wrap .i64 ((i:Int)+1)=((i+1:Nat):Int):=by rw [w64]<;>omega
  have e1:decide ((i:Int)<↑f.Instruments.length)=true:=by simp [hi]
  have e2:decide ((0:Int)≤↑i)=true:=by simp
  have e3:decide ((i:Int)<((4:Nat):Int))=true:=by simp;omega
  have e3':decide ((i:Int)<(4:Int))=true:=by simp;omega
  have e4:Nat.blt i 4=true:=by rw [Tr.blt_dec];simp;omega
  simp only [Xs,XB,Int.toNat_natCast,X1 _ _ _ hi,hw,e1,e2,e3,e3',e4,Bool.and_self,cond_true,Option.bind_some,Sum.elim_inl]
  refine hR _ fun j => ?_
  rw [Tr.beq_dec]
  by_cases e:j=i
  ·subst e;simp [X3E,hi]
  ·simp only [e,decide_false,cond_false,hb j]
   by_cases h:j<i
   ·simp [h,show j<i+1 by omega]
   ·simp [h,show ¬ j<i+1 by omega]

theorem X7R {f:ZJ} (hg:Wn f) {l:List Zm} (hl:∀ x∈l,Wc f x=0) (hll:l.length≤8) {kit:Nat→Nat} (hk:Kit f kit) {m:List (Zh×Int)} (hm:Xm f m) (p:Zu) (ib mb:Int) :
  ∃ m',Xm f m'∧Xy (ib,p,mb,f,l,kit,m)=some ((atN f l p ib mb).1,(atN f l p ib mb).2,f,l,kit,m'):=by
 rw [X3Y];unfold WH atN
 rw [X8z f hg.inst.2]
 have main:=X3A (Xt ib l mb (↑l.length) p) (fun o=>Sum.elim (fun (y:Bool×(Nat→ZE)×ZJ×List Zm×(Nat→Nat)×ZE×List (Zh×Int)×Zm)=>some (y.snd.fst,y.fst,y.snd.snd.fst,y.snd.snd.snd.fst,y.snd.snd.snd.snd.fst,y.snd.snd.snd.snd.snd.snd.fst)) (fun y=>Sum.elim (fun (y:Bool×(Nat→ZE)×ZJ×List Zm×(Nat→Nat)×ZE×List (Zh×Int)×Zm)=>some (y.snd.fst,y.fst,y.snd.snd.fst,y.snd.snd.snd.fst,y.snd.snd.snd.snd.fst,y.snd.snd.snd.snd.snd.snd.fst)) (fun (y:(Nat→ZE)×ZJ×List Zm×(Nat→Nat)×List (Zh×Int))=>some (y.fst,true,y.snd.fst,y.snd.snd.fst,y.snd.snd.snd.fst,y.snd.snd.snd.snd)) y) o) l.length
  (fun i (b:(Nat→ZE)×List (Zh×Int))=>((i:Int),b.1,f,l,kit,b.2)) (fun _ b=>Xm f b.2) (fun i b r=>∃ m',Xm f m'∧r=some ((atL f p ib mb b.1 (l.drop i)).1,(atL f p ib mb b.1 (l.drop i)).2,f,l,kit,m'))
  (by
   intro b hb R
   refine ⟨b.2,hb,?_⟩
   simp [Xt,XC,atL])
  (by
   intro i b hi hb R hR
   have hx:=hl _ (List.getElem_mem hi)
   obtain ⟨x,hxd⟩:∃ x,l[i]=x:=⟨_,rfl⟩
   rw [hxd] at hx
   have hgd:l.getD i ⟨0,0,0,0⟩=x:=(X1 _ _ _ hi).trans hxd
   obtain ⟨h1,h2,h3⟩:=X4L hx
   have hi4:=hg.inst.2
   have hw:IntKind.wrap .i64 ((i:Int)+1)=((i+1:Nat):Int):=by rw [w64]<;>omega
   have e1:decide ((i:Int)<↑l.length)=true:=by simp [hi]
   have e2:decide ((0:Int)≤↑i)=true:=by simp
   simp only [Xt,XC,Int.toNat_natCast,hgd,hw,e1,e2,Bool.and_self,cond_true]
   rw [List.drop_eq_getElem_cons hi,hxd]
   have hj:x.Instrument.toNat<f.Instruments.length:=by omega
   have i1:decide (0≤x.Instrument)=true:=by simp;omega
   have i2:decide (x.Instrument<((4:Nat):Int))=true:=by simp;omega
   have i2':decide (x.Instrument<(4:Int))=true:=by simp;omega
   have i3:Nat.blt x.Instrument.toNat 4=true:=by rw [Tr.blt_dec];simp;omega
   have i4:decide (x.Instrument<0)=false:=by simp;omega
   have hkk:=hk _ hj
   have hio:X2d f x.Instrument=f.Instruments[x.Instrument.toNat]:=X1 _ _ _ hj
   have hcut:∀ (n a:ZE),(⟨bif decide (a.Lo>n.Lo) then a.Lo else n.Lo,bif decide (a.Hi<n.Hi) then a.Hi else n.Hi⟩:ZE)=X4P n a:=fun n a=>by
    unfold X4P
    by_cases c1:a.Lo>n.Lo<;>by_cases c2:a.Hi<n.Hi<;>simp [c1,c2]
   have hcut1:∀ (n a:ZE),(bif decide (a.Lo>n.Lo) then a.Lo else n.Lo)=(X4P n a).Lo:=fun n a=>by rw [←hcut]
   have hcut2:∀ (n a:ZE),(bif decide (a.Hi<n.Hi) then a.Hi else n.Hi)=(X4P n a).Hi:=fun n a=>by rw [←hcut]
   have hfun:∀ (c:ZE) (s:Nat→ZE),(fun j=>bif Nat.beq j x.Instrument.toNat then c else s j)=fun j=>if j=x.Instrument.toNat then c else s j:=fun c s=>by
    funext j;rw [Tr.beq_dec];by_cases e:j=x.Instrument.toNat<;>simp [e]
   simp only [i1,i2,i2',i3,i4,Bool.and_self,cond_true,cond_false,atL]
   rcases Bool.eq_false_or_eq_true (X2d f x.Instrument).Lead with hL|hL
   rotate_left
   ·rw [←hio,hL] at hkk
    simp only [Bool.false_eq_true,if_false] at hkk
    have h3:=h3 hL
    have i5:decide (x.Mark<0)=false:=by simp;omega
    simp only [hkk,show Nat.beq 1 0=false from rfl,show Nat.beq 1 1=true from rfl,cond_false,cond_true,i5]
    have hib:(IntKind.wrap IntKind.i64 (↑(BitVec.toNat (BitVec.ofInt (IntKind.bits IntKind.i64) (Int.fdiv ib (2 ^ min (Int.toNat x.Instrument) (IntKind.bits IntKind.i64))) &&& BitVec.ofInt (IntKind.bits IntKind.i64) 1)):Int)==1)=X6c ib x.Instrument:=rfl
    have hmb:(IntKind.wrap IntKind.i64 (↑(BitVec.toNat (BitVec.ofInt (IntKind.bits IntKind.i64) (Int.fdiv mb (2 ^ min (Int.toNat x.Mark) (IntKind.bits IntKind.i64))) &&& BitVec.ofInt (IntKind.bits IntKind.i64) 1)):Int)==1)=X6c mb x.Mark:=rfl
    rw [hib,hmb]
    rcases Bool.eq_false_or_eq_true (X6c ib x.Instrument) with hb1|hb1
    rotate_left
    ·rcases Bool.eq_false_or_eq_true (X6c mb x.Mark) with hb2|hb2
     rotate_left
     ·have hsk:X2x f ib mb x=false:=by unfold X2x;rw [hL,hb1,hb2];rfl
      simp only [hb1,hb2,cond_false,hsk,Bool.false_eq_true,if_false]
      obtain ⟨m',hm',hc⟩:=X7C hg hx hL p l kit hb
      rw [hc]
      simp only [Option.bind_some,hcut,hcut1,hcut2,hfun]
      cases ho:(X2Y f p x).2
      ·exact ⟨m',hm',by simp⟩
      ·by_cases hc:(X4P (X2Y f p x).1 (b.1 x.Instrument.toNat)).Lo>(X4P (X2Y f p x).1 (b.1 x.Instrument.toNat)).Hi
       ·exact ⟨m',hm',by simp [hc]⟩
       ·simp only [Bool.not_true,cond_false,hc,decide_false,Option.bind_some,Sum.elim_inl,Bool.true_eq_false,or_self,if_false]
        exact hR (_,m') hm'
     ·have hsk:X2x f ib mb x=true:=by unfold X2x;rw [hL,hb1,hb2];rfl
      simp only [hb1,hb2,cond_true,cond_false,Option.bind_some,Sum.elim_inl,hsk,if_true]
      exact hR b hb
    ·have hsk:X2x f ib mb x=true:=by unfold X2x;rw [hb1];rfl
     simp only [hb1,cond_true,Option.bind_some,Sum.elim_inl,hsk,if_true]
     exact hR b hb
   ·rw [←hio,hL] at hkk
    simp only [if_true] at hkk
    have h2:=h2 hL
    simp only [hkk,show Nat.beq 2 0=false from rfl,show Nat.beq 2 1=false from rfl,show Nat.beq 2 (1+1)=true from rfl,cond_false,cond_true]
    have hib:(IntKind.wrap IntKind.i64 (↑(BitVec.toNat (BitVec.ofInt (IntKind.bits IntKind.i64) (Int.fdiv ib (2 ^ min (Int.toNat x.Instrument) (IntKind.bits IntKind.i64))) &&& BitVec.ofInt (IntKind.bits IntKind.i64) 1)):Int)==1)=X6c ib x.Instrument:=rfl
    rw [hib]
    rcases Bool.eq_false_or_eq_true (X6c ib x.Instrument) with hb1|hb1
    rotate_left
    ·have hsk:X2x f ib mb x=false:=by unfold X2x;rw [hL,hb1];rfl
     simp only [hb1,cond_false,hsk,Bool.false_eq_true,if_false]
     rw [X8C hg hx hL p l kit]
     simp only [Option.bind_some,hcut,hcut1,hcut2,hfun]
     cases ho:(X2Y f p x).2
     ·exact ⟨b.2,hb,by simp⟩
     ·by_cases hc:(X4P (X2Y f p x).1 (b.1 x.Instrument.toNat)).Lo>(X4P (X2Y f p x).1 (b.1 x.Instrument.toNat)).Hi
      ·exact ⟨b.2,hb,by simp [hc]⟩
      ·simp only [Bool.not_true,cond_false,hc,decide_false,Option.bind_some,Sum.elim_inl,Bool.true_eq_false,or_self,if_false]
       exact hR (_,b.2) hb
    ·have hsk:X2x f ib mb x=true:=by unfold X2x;rw [hb1];rfl
     simp only [hb1,cond_true,Option.bind_some,Sum.elim_inl,hsk,if_true]
     exact hR b hb)
 have:=main 0 (X3E f,m) (by omega) hm
 unfold X1Z
 simpa using this
end Nore
open Go Go.Ab
namespace Nore

def XO (f:ZJ) (x y:Int):Nat→List Zu
 | 0=>[]
 | n+1=>⟨x*f.Step,y*f.Step⟩::XO f x (y+1) n
def X9 (f:ZJ):Nat:=(2*f.Half+1).toNat
def WN (f:ZJ) (x:Int):Nat→List Zu
 | 0=>[]
 | n+1=>XO f x (-f.Half) (X9 f)++WN f (x+1) n
def X56 (f:ZJ):List Zu:=WN f (-f.Half) (X9 f)
def X20 (f:ZJ) (l:List Zm):List Zu:=(X56 f).filter fun p=>(atN f l p 0 0).2

theorem X5t (f:ZJ) (x:Int):∀ (n:Nat) (y:Int),(XO f x y n).length=n
 | 0,_=>rfl
 | n+1,y=>by simp [XO,X5t f x n]
theorem X6r (f:ZJ) (x:Int) (p:Zu):∀ (n:Nat) (y:Int),p∈XO f x y n↔∃ j:Int,y≤j∧j<y+n∧p=⟨x*f.Step,j*f.Step⟩
 | 0,y=>by simp [XO];intro j h1 h2;omega
 | n+1,y=>by
  simp only [XO,List.mem_cons,X6r f x p n]
  constructor
  ·rintro (h|⟨j,h1,h2,h3⟩)
   ·exact ⟨y,by omega,by push_cast;omega,h⟩
   ·exact ⟨j,by omega,by push_cast;omega,h3⟩
  ·rintro ⟨j,h1,h2,h3⟩
   by_cases e:j=y
   ·subst e;exact .inl h3
   ·exact .inr ⟨j,by omega,by push_cast at h2;omega,h3⟩
theorem X63 (f:ZJ) (p:Zu):∀ (n:Nat) (x:Int),p∈WN f x n↔∃ i j:Int,x≤i∧i<x+n ∧ -f.Half≤j∧j < -f.Half+X9 f∧p=⟨i*f.Step,j*f.Step⟩
 | 0,x=>by simp [WN];intro i h1 h2;omega
 | n+1,x=>by
  simp only [WN,List.mem_append,X6r,X63 f p n]
  constructor
  ·rintro (⟨j,h1,h2,h3⟩|⟨i,j,h1,h2,h3,h4,h5⟩)
   ·exact ⟨x,j,by omega,by push_cast;omega,h1,h2,h3⟩
   ·exact ⟨i,j,by omega,by push_cast;omega,h3,h4,h5⟩
  ·rintro ⟨i,j,h1,h2,h3,h4,h5⟩
   by_cases e:i=x
   ·subst e;exact .inl ⟨j,h3,h4,h5⟩
   ·exact .inr ⟨i,j,by omega,by push_cast at h2;omega,h3,h4,h5⟩
theorem X7I {f:ZJ} (hh:0≤f.Half) (p:Zu):p∈X56 f↔∃ i j:Int,-f.Half≤i∧i≤f.Half ∧ -f.Half≤j∧j≤f.Half∧p=⟨i*f.Step,j*f.Step⟩:=by
 unfold X56
 rw [X63]
 have:(X9 f:Int)=2*f.Half+1:=by unfold X9;omega
 constructor
 ·rintro ⟨i,j,h1,h2,h3,h4,h5⟩;exact ⟨i,j,by omega,by omega,by omega,by omega,h5⟩
 ·rintro ⟨i,j,h1,h2,h3,h4,h5⟩;exact ⟨i,j,by omega,by omega,by omega,by omega,h5⟩
structure X5W (f:ZJ) (l:List Zm):Prop where
 fix:Wn f
 len:l.length≤8
 each:∀ x∈l,Wc f x=0
theorem X7h (f:ZJ):∀ (l:List Zm) (i:Nat),(W1 f i l).2=0→∀ x∈l,Wc f x=0
 | [],_,_,m,hm=>by cases hm
 | x::l,i,h,m,hm=>by
  simp only [W1] at h
  by_cases h0:Wc f x=0
  ·simp only [h0,if_true] at h
   rcases List.mem_cons.1 hm with e|e
   ·subst e;exact h0
   ·exact X7h f l _ h m e
  ·simp only [h0,if_false] at h
theorem X72 (f:ZJ):∀ (l:List Zm) (i:Nat),(∀ x∈l,Wc f x=0)→(W1 f i l).2=0
 | [],_,_=>rfl
 | x::l,i,h=>by
  simp only [W1,h x (by simp),if_true]
  exact X72 f l _ fun y hy=>h y (by simp [hy])
theorem X4j {f:ZJ} {l:List Zm} (h:(XM f l).2=0):X5W f l:=by
 unfold XM at h
 by_cases h1:(X1W f).2.2=0
 ·simp only [h1,ne_eq,not_true,if_false] at h
  by_cases h8:8<l.length
  ·rw [if_pos h8] at h;simp at h
  ·rw [if_neg h8] at h
   exact ⟨X6N h1,by omega,X7h f l 0 h⟩
 ·rw [if_pos h1] at h;exact absurd h h1
theorem X7S {f:ZJ} {l:List Zm} (h1:(X1W f).2.2=0) (h2:l.length≤8) (h3:∀ x∈l,Wc f x=0):(XM f l).2=0:=by
 unfold XM
 rw [if_neg (by simp [h1]),if_neg (by omega)]
 exact X72 f l 0 h3

theorem X7r {f:ZJ} {l:List Zm} (hg:X5W f l) {kit:Nat→Nat} (hk:Kit f kit) (x:Int) (hx : -8≤x∧x≤8) {m:List (Zh×Int)} (hm:Xm f m) (acc:List Zu) (ha:acc.length≤1000000) {γ:Type} (k:_→Option γ) (Q:Option γ→Prop)
  (hQ:∀ m',Xm f m'→Q (k (f,l,kit,m',acc++(XO f x (-f.Half) (X9 f)).filter fun p=>(atN f l p 0 0).2))) :
  Q (Option.bind (XR x (-f.Half,f,l,kit,m,acc)) k):=by
 have hh:=hg.fix.half
 have hs:=hg.fix.step
 have hw0:(X9 f:Int)=2*f.Half+1:=by unfold X9;omega
 refine (X3A (Xb x) k (X9 f) (fun i (b:List (Zh×Int)×List Zu)=>(-f.Half+i,f,l,kit,b.1,b.2)) (fun i b=>Xm f b.1∧b.2.length≤1000000+i∧b.2++((XO f x (-f.Half+i) (X9 f-i)).filter fun p=>(atN f l p 0 0).2)=acc++(XO f x (-f.Half) (X9 f)).filter fun p=>(atN f l p 0 0).2) (fun _ _ r=>Q r) ?_ ?_ 0 (m,acc) (by omega) ⟨hm,by simpa using ha,by simp⟩) |> fun h=>by simpa [XR] using h
 ·intro b hb R
  have e1:decide (-f.Half+(X9 f:Int)≤f.Half)=false:=by simp;omega
  simp only [Xb,Xh,e1,cond_false,Option.bind_some,Sum.elim_inr]
  have h3:=hb.2.2
  simp only [Nat.sub_self,XO,List.filter_nil,List.append_nil] at h3
  rw [h3]
  exact hQ _ hb.1
 ·intro i b hi hb R hR
  obtain ⟨hb1,hb2,hb3⟩:=hb
  have e1:decide (-f.Half+(i:Int)≤f.Half)=true:=by simp;omega
  have hw:IntKind.wrap .i64 (-f.Half+(i:Int)+1) = -f.Half+((i+1:Nat):Int):=by rw [w64]<;>omega
  have m1:=X4y (a:=x) (b:=f.Step) 8 500 (by omega) (by omega) (by omega) (by omega)
  have m2:=X4y (a := -f.Half+(i:Int)) (b:=f.Step) 8 500 (by omega) (by omega) (by omega) (by omega)
  simp only [Xb,Xh,e1,cond_true]
  rw [w64 (x:=x*f.Step) (by omega) (by omega),w64 (x:=(-f.Half+(i:Int))*f.Step) (by omega) (by omega),hw]
  obtain ⟨m',hm',hc⟩:=X7R hg.fix hg.each hg.len hk hb1 ⟨x*f.Step,(-f.Half+(i:Int))*f.Step⟩ 0 0
  rw [hc]
  simp only [Option.bind_some]
  have hrow:XO f x (-f.Half+(i:Int)) (X9 f-i)=⟨x*f.Step,(-f.Half+(i:Int))*f.Step⟩::XO f x (-f.Half+((i+1:Nat):Int)) (X9 f-(i+1)):=by
   rw [show X9 f-i=(X9 f-(i+1))+1 by omega,XO,show -f.Half+(i:Int)+1 = -f.Half+((i+1:Nat):Int) by push_cast;omega]
  rw [hrow] at hb3
  cases hat:(atN f l ⟨x*f.Step,(-f.Half+(i:Int))*f.Step⟩ 0 0).2
  ·simp only [cond_false,Option.bind_some,Sum.elim_inl]
   refine hR (m',b.2) ⟨hm',by simp only;omega,?_⟩
   rw [List.filter_cons_of_neg (by simp [hat])] at hb3
   exact hb3
  ·have e3:Nat.ble ((b.2.length+[(⟨x*f.Step,(-f.Half+(i:Int))*f.Step⟩:Zu)].length)*(16+1)) 200000000000000=true:=by
    apply Nat.ble_eq_true_of_le;simp only [List.length_cons,List.length_nil];have:=hh.2;omega
   simp only [cond_true,e3,Option.bind_some,Sum.elim_inl]
   refine hR (m',b.2++[⟨x*f.Step,(-f.Half+(i:Int))*f.Step⟩]) ⟨hm',by simp;omega,?_⟩
   rw [List.filter_cons_of_pos (by simp [hat])] at hb3
   rw [←hb3]
   simp

theorem X7q {f:ZJ} {l:List Zm} (hg:X5W f l) {kit:Nat→Nat} (hk:Kit f kit) {m:List (Zh×Int)} (hm:Xm f m) {γ:Type} (k:_→Option γ) (Q:Option γ→Prop)
  (hQ:∀ m',Xm f m'→Q (k (X20 f l,f,l,kit,m'))) :
  Q (Option.bind (XQ (-f.Half,[],f,l,kit,m)) k):=by
 have hh:=hg.fix.half
 have hw0:(X9 f:Int)=2*f.Half+1:=by unfold X9;omega
 refine (X3A Xa k (X9 f) (fun i (b:List (Zh×Int)×List Zu)=>(-f.Half+i,b.2,f,l,kit,b.1)) (fun i b=>Xm f b.1∧b.2.length≤i*100∧b.2++((WN f (-f.Half+i) (X9 f-i)).filter fun p=>(atN f l p 0 0).2)=X20 f l) (fun _ _ r=>Q r) ?_ ?_ 0 (m,[]) (by omega) ⟨hm,by simp,by simp [X20,X56]⟩) |> fun h=>by simpa [XQ] using h
 ·intro b hb R
  have e1:decide (-f.Half+(X9 f:Int)≤f.Half)=false:=by simp;omega
  simp only [Xa,Xg,e1,cond_false,Option.bind_some,Sum.elim_inr]
  have h3:=hb.2.2
  simp only [Nat.sub_self,WN,List.filter_nil,List.append_nil] at h3
  rw [h3]
  exact hQ _ hb.1
 ·intro i b hi hb R hR
  obtain ⟨hb1,hb2,hb3⟩:=hb
  have e1:decide (-f.Half+(i:Int)≤f.Half)=true:=by simp;omega
  have hw:IntKind.wrap .i64 (-f.Half+(i:Int)+1) = -f.Half+((i+1:Nat):Int):=by rw [w64]<;>omega
  have hw2:IntKind.wrap .i64 (0-f.Half) = -f.Half:=by rw [w64]<;>omega
  have hwl:X9 f≤17:=by omega
  simp only [Xa,Xg,e1,cond_true,hw,hw2]
  rw [Option.bind_assoc]
  refine X7r hg hk _ (by omega) hb1 b.2 (by omega) _ Q fun m' hm' => ?_
  simp only [Option.bind_some,Sum.elim_inl]
  refine hR (m',_) ⟨hm',?_,?_⟩
  ·have:=List.length_filter_le (fun p=>(atN f l p 0 0).2) (XO f (-f.Half+(i:Int)) (-f.Half) (X9 f))
   rw [X5t] at this
   simp only [List.length_append]
   omega
  ·rw [←hb3,show X9 f-i=(X9 f-(i+1))+1 by omega,WN,show -f.Half+(i:Int)+1 = -f.Half+((i+1:Nat):Int) by push_cast;omega]
   simp

theorem X7Z {f:ZJ} {l:List Zm} (hg:X5W f l) {kit:Nat→Nat} (hk:Kit f kit) {m:List (Zh×Int)} (hm:Xm f m):∃ m',Xm f m'∧WI (f,l,kit,m)=some (f,l,kit,m',X20 f l):=by
 rw [X36];unfold XD
 have hh:=hg.fix.half
 have hw2:IntKind.wrap .i64 (0-f.Half) = -f.Half:=by rw [w64]<;>omega
 simp only [hw2]
 exact X7q hg hk hm _ (fun r=>∃ m',Xm f m'∧r=some (f,l,kit,m',X20 f l)) fun m' hm'=>⟨m',hm',rfl⟩

theorem X5f (f:ZJ) (l:List Zm):X15 f l=some (if (XM f l).2=0 then (X20 f l,0) else ([],(XM f l).2)):=by
 rw [X5G];unfold X2j
 rcases X6e f l with ⟨_,he,h0⟩|⟨kit,hg,h8,hk,he⟩
 ·rw [he]
  simp [h0,WE h0]
 ·rw [he]
  simp only [Option.bind_some,Sum.elim_inr]
  by_cases h0:(XM f l).2=0
  ·obtain ⟨m',_,hp⟩:=X7Z (X4j h0) hk (X5R f)
   simp only [h0,bne_self_eq_false,cond_false,if_true,hp,Option.bind_some]
  ·simp [h0,WE h0]

theorem X80 {f:ZJ} (hg:Wn f) (l:List Zm):(X20 f l).length≤289:=by
 have hh:=hg.half
 have hw0:(X9 f:Int)=2*f.Half+1:=by unfold X9;omega
 have hw1:X9 f≤17:=by omega
 have:∀ (n:Nat) (x:Int),(WN f x n).length=n*X9 f:=fun n=>by
  induction n with
  | zero=>intro x;simp [WN]
  | succ n ih=>intro x;simp only [WN,List.length_append,X5t,ih,Nat.succ_mul];omega
 have h2:=List.length_filter_le (fun p=>(atN f l p 0 0).2) (X56 f)
 have h3:(X56 f).length=X9 f*X9 f:=this _ _
 have h4:X9 f*X9 f≤17*17:=Nat.mul_le_mul hw1 hw1
 unfold X20
 omega

end Nore
open Go Go.Ab
namespace Nore

def inS (v:Int) (s:ZE):Prop:=s.Lo≤v∧v≤s.Hi
def X76 (f:ZJ) (p:Zu) (ib mb:Int) (s:Nat→ZE) (l:List Zm) (i:Nat) (v:Int):Prop :=
 inS v (s i)∧∀ x∈l,X2x f ib mb x=false→x.Instrument.toNat=i→(X2Y f p x).2=true∧inS v (X2Y f p x).1

theorem X6M (n a:ZE) (v:Int):inS v (X4P n a)↔inS v n∧inS v a:=by
 unfold inS X4P
 constructor
 ·rintro ⟨h1,h2⟩
  simp only at h1 h2
  split at h1<;>split at h2<;>omega
 ·rintro ⟨h1,h2⟩
  simp only
  constructor<;>split<;>omega

theorem X5x {f:ZJ} {p:Zu} {ib mb:Int} {s:Nat→ZE} {x:Zm} {l:List Zm} {i:Nat} {v:Int} :
  X76 f p ib mb s (x::l) i v↔X76 f p ib mb s l i v∧(X2x f ib mb x=false→x.Instrument.toNat=i→(X2Y f p x).2=true∧inS v (X2Y f p x).1):=by
 unfold X76
 constructor
 ·rintro ⟨h1,h2⟩
  exact ⟨⟨h1,fun y hy=>h2 y (by simp [hy])⟩,h2 x (by simp)⟩
 ·rintro ⟨⟨h1,h2⟩,h3⟩
  refine ⟨h1,fun y hy => ?_⟩
  rcases List.mem_cons.1 hy with e|e
  ·subst e;exact h3
  ·exact h2 y e

theorem X5b (f:ZJ) (p:Zu) (ib mb:Int):∀ (l:List Zm) (s:Nat→ZE),(∀ i,(s i).Lo≤(s i).Hi) →
  ((atL f p ib mb s l).2=true→(∀ i,((atL f p ib mb s l).1 i).Lo≤((atL f p ib mb s l).1 i).Hi)∧∀ i v,inS v ((atL f p ib mb s l).1 i)↔X76 f p ib mb s l i v) ∧
  ((atL f p ib mb s l).2=false→∃ x∈l,X2x f ib mb x=false∧∀ v,¬ X76 f p ib mb s l x.Instrument.toNat v)
 | [],s,hs=>by
  simp only [atL]
  exact ⟨fun _=>⟨hs,fun i v=>by simp [X76]⟩,fun h=>by cases h⟩
 | x::l,s,hs=>by
  simp only [atL]
  by_cases hk:X2x f ib mb x=true
  ·rw [if_pos hk]
   obtain ⟨h1,h2⟩:=X5b f p ib mb l s hs
   refine ⟨fun h=>⟨(h1 h).1,fun i v => ?_⟩,fun h => ?_⟩
   ·rw [(h1 h).2 i v,X5x]
    simp [hk]
   ·obtain ⟨y,hy,hy2,hy3⟩:=h2 h
    refine ⟨y,by simp [hy],hy2,fun v hv=>hy3 v ?_⟩
    exact (X5x.1 hv).1
  ·rw [if_neg hk]
   have hk':X2x f ib mb x=false:=by simpa using hk
   by_cases hc:(X2Y f p x).2=false∨(X4P (X2Y f p x).1 (s x.Instrument.toNat)).Lo>(X4P (X2Y f p x).1 (s x.Instrument.toNat)).Hi
   ·rw [if_pos hc]
    refine ⟨fun h=>(by cases h),fun _=>⟨x,by simp,hk',fun v hv => ?_⟩⟩
    obtain ⟨h1,h2⟩:=X5x.1 hv
    obtain ⟨h3,h4⟩:=h2 hk' rfl
    rcases hc with hc|hc
    ·rw [hc] at h3;cases h3
    ·have:=(X6M (X2Y f p x).1 (s x.Instrument.toNat) v).2 ⟨h4,h1.1⟩
     unfold inS at this;omega
   ·rw [if_neg hc]
    have hc1:(X2Y f p x).2=true:=by
     cases h:(X2Y f p x).2
     ·exact absurd (.inl h) hc
     ·rfl
    have hc2:(X4P (X2Y f p x).1 (s x.Instrument.toNat)).Lo≤(X4P (X2Y f p x).1 (s x.Instrument.toNat)).Hi:=Int.not_lt.1 fun q=>hc (.inr q)
    obtain ⟨h1,h2⟩:=X5b f p ib mb l (fun j=>if j=x.Instrument.toNat then X4P (X2Y f p x).1 (s x.Instrument.toNat) else s j) (fun i=>by
     by_cases e:i=x.Instrument.toNat
     ·simp only [e,if_true];exact hc2
     ·simp only [e,if_false];exact hs i)
    have key:∀ i v,X76 f p ib mb (fun j=>if j=x.Instrument.toNat then X4P (X2Y f p x).1 (s x.Instrument.toNat) else s j) l i v↔X76 f p ib mb s (x::l) i v:=fun i v=>by
     rw [X5x]
     unfold X76
     by_cases e:i=x.Instrument.toNat
     ·subst e
      simp only [if_true,X6M,hk',hc1,true_and,forall_const]
      constructor
      ·rintro ⟨⟨a,b⟩,c⟩;exact ⟨⟨b,c⟩,a⟩
      ·rintro ⟨⟨b,c⟩,a⟩;exact ⟨⟨a,b⟩,c⟩
     ·simp only [e,if_false,hk',forall_const]
      constructor
      ·rintro ⟨a,b⟩;exact ⟨⟨a,b⟩,fun q=>absurd q.symm e⟩
      ·rintro ⟨⟨a,b⟩,_⟩;exact ⟨a,b⟩
    refine ⟨fun h=>⟨(h1 h).1,fun i v=>((h1 h).2 i v).trans (key i v)⟩,fun h => ?_⟩
    obtain ⟨y,hy,hy2,hy3⟩:=h2 h
    exact ⟨y,by simp [hy],hy2,fun v hv=>hy3 v ((key _ v).2 hv)⟩

theorem X6T {f:ZJ} (hg:Wn f) (i:Nat):(X3E f i).Lo≤(X3E f i).Hi:=by
 unfold X3E
 split
 ·rename_i h
  exact (hg.off _ (List.getElem_mem h)).2.1
 ·simp

def Num (f:ZJ) (l:List Zm) (p:Zu) (ib mb:Int) (i:Nat) (v:Int):Prop:=X76 f p ib mb (X3E f) l i v

theorem X8Q {f:ZJ} (hg:Wn f) (l:List Zm) (p:Zu) (ib mb:Int):(atN f l p ib mb).2=true↔∀ i,∃ v,Num f l p ib mb i v:=by
 obtain ⟨h1,h2⟩:=X5b f p ib mb l (X3E f) (X6T hg)
 unfold atN
 constructor
 ·intro h i
  obtain ⟨h3,h4⟩:=h1 h
  exact ⟨_,(h4 i ((atL f p ib mb (X3E f) l).1 i).Lo).1 ⟨Int.le_refl _,h3 i⟩⟩
 ·intro h
  cases hb:(atL f p ib mb (X3E f) l).2
  ·obtain ⟨x,_,_,h3⟩:=h2 hb
   obtain ⟨v,hv⟩:=h x.Instrument.toNat
   exact absurd hv (h3 v)
  ·rfl
theorem X8c {f:ZJ} (hg:Wn f) {l:List Zm} {p:Zu} {ib mb:Int} (h:(atN f l p ib mb).2=true) (i:Nat):((atN f l p ib mb).1 i).Lo≤((atN f l p ib mb).1 i).Hi∧∀ v,inS v ((atN f l p ib mb).1 i)↔Num f l p ib mb i v :=
 ⟨((X5b f p ib mb l (X3E f) (X6T hg)).1 h).1 i,((X5b f p ib mb l (X3E f) (X6T hg)).1 h).2 i⟩

theorem X7p {f:ZJ} {l l':List Zm} (h:∀ x∈l,x∈l') {p:Zu} {ib mb:Int} {i:Nat} {v:Int} (hv:Num f l' p ib mb i v):Num f l p ib mb i v:=⟨hv.1,fun x hx=>hv.2 x (h x hx)⟩
theorem X8A {f:ZJ} (hg:Wn f) {l l':List Zm} (h:∀ x∈l,x∈l') {p:Zu} {ib mb:Int} (hv:(atN f l' p ib mb).2=true):(atN f l p ib mb).2=true:=by
 rw [X8Q hg] at hv ⊢
 intro i
 obtain ⟨v,hv⟩:=hv i
 exact ⟨v,X7p h hv⟩
theorem X6Q (f:ZJ) (l:List Zm):X4U f l=some (decide ((XM f l).2=0)):=by
 rw [X5J];unfold X2m
 rw [X59]
 simp only [Option.bind_some]
 by_cases h:(XM f l).2=0<;>simp [h,X4c]
end Nore
open Go Go.Ab
namespace Nore

def X2X:Nat→List Nat→List (List Nat)
 | 0,_=>[[]]
 | _+1,[]=>[]
 | n+1,t::l=>(X2X n l).map (t :: ·)++X2X (n+1) l

theorem X5w:∀ (l:List Nat) (n:Nat) (s:List Nat),s∈X2X n l↔s.Sublist l∧s.length=n
 | l,0,s=>by
  cases l<;>simp only [X2X,List.mem_singleton]<;>constructor
  ·rintro rfl;exact ⟨List.Sublist.refl _,rfl⟩
  ·intro h;exact List.eq_nil_of_length_eq_zero h.2
  ·rintro rfl;exact ⟨List.nil_sublist _,rfl⟩
  ·intro h;exact List.eq_nil_of_length_eq_zero h.2
 | [],n+1,s=>by
  simp only [X2X,List.not_mem_nil,false_iff]
  rintro ⟨h1,h2⟩
  have:=List.sublist_nil.1 h1
  subst this;simp at h2
 | t::l,n+1,s=>by
  simp only [X2X,List.mem_append,List.mem_map,X5w l]
  constructor
  ·rintro (⟨r,⟨h1,h2⟩,rfl⟩|⟨h1,h2⟩)
   ·exact ⟨h1.cons_cons t,by simp [h2]⟩
   ·exact ⟨h1.cons t,h2⟩
  ·rintro ⟨h1,h2⟩
   cases h1 with
   | cons _ h=>exact .inr ⟨h,h2⟩
   | cons_cons _ h=>exact .inl ⟨_,⟨h,by simpa using h2⟩,rfl⟩

def X4Q (ok:List Nat→Bool) (l:List Nat):Nat→Nat→Option (List Nat)
 | _,0=>none
 | n,k+1=>match (X2X n l).find? ok with
  | some s=>some s
  | none=>X4Q ok l (n+1) k

theorem X6i (ok:List Nat→Bool) (l:List Nat):∀ (k n:Nat) (s:List Nat),X4Q ok l n k=some s→ok s=true∧s.Sublist l∧n≤s.length∧s.length<n+k∧(∀ r,r.Sublist l→ok r=true→n≤r.length→s.length≤r.length)∧(X2X s.length l).find? ok=some s
 | 0,n,s,h=>by cases h
 | k+1,n,s,h=>by
  unfold X4Q at h
  cases hf:(X2X n l).find? ok with
  | some r =>
   rw [hf] at h
   cases h
   have hm:=(X5w l n s).1 (List.mem_of_find?_eq_some hf)
   refine ⟨List.find?_some hf,hm.1,by omega,by omega,fun r _ _ h=>by omega,by rw [hm.2];exact hf⟩
  | none =>
   rw [hf] at h
   obtain ⟨h1,h2,h3,h4,h5,h6⟩:=X6i ok l k (n+1) s h
   refine ⟨h1,h2,by omega,by omega,fun r hr hk hn => ?_,h6⟩
   by_cases e:n=r.length
   ·have:=(List.find?_eq_none.1 hf) r ((X5w l n r).2 ⟨hr,e.symm⟩)
    exact absurd hk this
   ·exact h5 r hr hk (by omega)
theorem X7e (ok:List Nat→Bool) (l:List Nat):∀ (k n:Nat) (r:List Nat),r.Sublist l→ok r=true→n≤r.length→r.length<n+k→∃ s,X4Q ok l n k=some s
 | 0,n,r,h1,h2,h3,h4=>by omega
 | k+1,n,r,h1,h2,h3,h4=>by
  unfold X4Q
  cases hf:(X2X n l).find? ok with
  | some s=>exact ⟨s,rfl⟩
  | none =>
   by_cases e:n=r.length
   ·have:=(List.find?_eq_none.1 hf) r ((X5w l n r).2 ⟨h1,e.symm⟩)
    exact absurd h2 this
   ·exact X7e ok l k (n+1) r h1 h2 (by omega) (by omega)
def X0 (f:ZJ):Nat:=f.Chart.Marks.length
def X8d (f:ZJ) (s:List Nat) (x:Zm):Bool := !(s.contains (X0 f+x.Instrument.toNat))&&((X2d f x.Instrument).Lead || !(s.contains x.Mark.toNat))
def X49 (f:ZJ) (l:List Zm) (s:List Nat):List Zm:=l.filter (X8d f s)
def X3p (f:ZJ) (l:List Zm) (t:Nat):Bool:=l.any fun x=>decide (X0 f+x.Instrument.toNat=t)||(!(X2d f x.Instrument).Lead&&decide (x.Mark.toNat=t))
def WZ (f:ZJ) (l:List Zm):List Nat:=(List.range (X0 f+f.Instruments.length)).filter (X3p f l)
def okW (f:ZJ) (l:List Zm) (s:List Nat):Bool := !(X20 f (X49 f l s)).isEmpty
def X4B (f:ZJ) (l:List Zm):List Nat:=(X4Q (okW f l) (WZ f l) 0 (f.Instruments.length+1)).getD []

theorem X8L {f:ZJ} (hg:Wn f):X56 f≠[]:=fun h=>by
 have:=(X7I hg.half.1 ⟨(-f.Half)*f.Step,(-f.Half)*f.Step⟩).2 ⟨-f.Half,-f.Half,by have:=hg.half;omega,by have:=hg.half;omega,by have:=hg.half;omega,by have:=hg.half;omega,rfl⟩
 rw [h] at this;cases this
theorem X81 {f:ZJ} (hg:Wn f):X20 f []=X56 f:=by
 unfold X20
 apply List.filter_eq_self.2
 intro p _
 rfl

theorem X8E {f:ZJ} (hg:Wn f) {l:List Zm} (hl:∀ x∈l,Wc f x=0):okW f l ((WZ f l).filter fun t=>decide (X0 f≤t))=true:=by
 have:X49 f l ((WZ f l).filter fun t=>decide (X0 f≤t))=[]:=by
  unfold X49
  rw [List.filter_eq_nil_iff]
  intro x hx hk
  obtain ⟨⟨h1,h2⟩,_⟩:=X4L (hl x hx)
  unfold X8d at hk
  have hc:((WZ f l).filter fun t=>decide (X0 f≤t)).contains (X0 f+x.Instrument.toNat)=true:=by
   rw [List.contains_iff_mem,List.mem_filter]
   refine ⟨?_,by simp⟩
   unfold WZ
   rw [List.mem_filter,List.mem_range]
   refine ⟨by omega,?_⟩
   unfold X3p
   rw [List.any_eq_true]
   exact ⟨x,hx,by simp⟩
  rw [hc] at hk
  simp at hk
 unfold okW
 rw [this,X81 hg]
 cases h:X56 f with
 | nil=>exact absurd h (X8L hg)
 | cons a b=>rfl
theorem X8l {f:ZJ} {l:List Zm}:((WZ f l).filter fun t=>decide (X0 f≤t)).length≤f.Instruments.length:=by
 unfold WZ
 rw [List.filter_filter]
 have h1:((List.range (X0 f+f.Instruments.length)).filter fun t=>decide (X0 f≤t)&&X3p f l t).length≤((List.range (X0 f+f.Instruments.length)).filter fun t=>decide (X0 f≤t)).length:=by
  apply List.Sublist.length_le
  have:((List.range (X0 f+f.Instruments.length)).filter fun t=>decide (X0 f≤t)&&X3p f l t)=((List.range (X0 f+f.Instruments.length)).filter fun t=>decide (X0 f≤t)).filter (X3p f l):=by
   rw [List.filter_filter]
   congr 1
   funext t
   rw [Bool.and_comm]
  rw [this]
  exact List.filter_sublist
 have h2:∀ (n m:Nat),((List.range (m+n)).filter fun t=>decide (m≤t)).length≤n:=fun n m=>by
  induction n with
  | zero =>
   have:(List.range (m+0)).filter (fun t=>decide (m≤t))=[]:=by
    rw [List.filter_eq_nil_iff]
    intro a ha
    have:=List.mem_range.1 ha
    simp;omega
   rw [this];simp
  | succ n ih =>
   rw [←Nat.add_assoc,List.range_succ,List.filter_append]
   simp only [List.length_append]
   have:([m+n].filter fun t=>decide (m≤t)).length≤1:=by
    exact List.length_filter_le (fun t=>decide (m≤t)) [m+n]
   omega
 have:=h2 f.Instruments.length (X0 f)
 omega

structure X8O (f:ZJ) (l:List Zm) (s:List Nat):Prop where
 ok:okW f l s=true
 sub:s.Sublist (WZ f l)
 least:∀ r,r.Sublist (WZ f l)→okW f l r=true→s.length≤r.length
 first:X4Q (okW f l) (WZ f l) 0 (f.Instruments.length+1)=some s
theorem X74 {f:ZJ} (hg:Wn f) {l:List Zm} (hl:∀ x∈l,Wc f x=0):X8O f l (X4B f l):=by
 have hlen := @X8l f l
 obtain ⟨s,hs⟩:=X7e (okW f l) (WZ f l) (f.Instruments.length+1) 0 ((WZ f l).filter fun t=>decide (X0 f≤t)) List.filter_sublist (X8E hg hl) (by omega) (by omega)
 have:X4B f l=s:=by unfold X4B;rw [hs];rfl
 rw [this]
 obtain ⟨h1,h2,_,_,h5,_⟩:=X6i _ _ _ _ _ hs
 exact ⟨h1,h2,fun r hr hk=>h5 r hr hk (by omega),hs⟩
theorem X8g {f:ZJ} {l:List Zm} {t:Nat} (h:t∈WZ f l):t<X0 f+f.Instruments.length:=by
 unfold WZ at h;exact List.mem_range.1 (List.mem_filter.1 h).1
theorem X7O {f:ZJ} {l:List Zm}:(WZ f l).Pairwise (· < ·):=List.Pairwise.filter _ List.pairwise_lt_range

end Nore
open Go Go.Ab
namespace Nore

theorem X5y (n:Nat) (h:n<18446744073709551616):(BitVec.ofInt 64 (n:Int)).toNat=n:=by
 rw [BitVec.toNat_ofInt];omega
theorem X6H (k:Nat) (hk:k<40):IntKind.wrap .i64 (1*2 ^ min (Int.toNat (k:Int)) (IntKind.bits .i64))=((2 ^ k:Nat):Int):=by
 have hb:IntKind.bits .i64=64:=rfl
 have hp:((2:Int) ^ k)=((2 ^ k:Nat):Int):=by simp
 have hle:2 ^ k≤2 ^ 40:=Nat.pow_le_pow_right (by omega) (by omega)
 rw [hb,Int.toNat_natCast,show min k 64=k by omega,hp,Int.one_mul]
 generalize 2 ^ k=z at *
 rw [w64]<;>omega
theorem X8S (a b:Nat) (ha:a<2 ^ 41) (hb:b<2 ^ 41):IntKind.wrap .i64 (↑(BitVec.toNat (BitVec.ofInt (IntKind.bits .i64) (a:Int) ||| BitVec.ofInt (IntKind.bits .i64) (b:Int))):Int)=((a ||| b:Nat):Int):=by
 have h:=Nat.or_lt_two_pow ha hb
 rw [show IntKind.bits .i64=64 from rfl,BitVec.toNat_or,X5y _ (by omega),X5y _ (by omega),w64]<;>omega
theorem X8x (a b:Nat) (ha:a<2 ^ 41) (hb:b<2 ^ 41):IntKind.wrap .i64 (↑(BitVec.toNat (BitVec.ofInt (IntKind.bits .i64) (a:Int) &&& BitVec.ofInt (IntKind.bits .i64) (b:Int))):Int)=((a &&& b:Nat):Int):=by
 have h:a &&& b<2 ^ 41:=Nat.lt_of_le_of_lt Nat.and_le_left ha
 rw [show IntKind.bits .i64=64 from rfl,BitVec.toNat_and,X5y _ (by omega),X5y _ (by omega),w64]<;>omega
theorem X7L (a k:Nat) (hk:k<64):Int.fdiv (a:Int) (2 ^ min (Int.toNat (k:Int)) (IntKind.bits .i64))=((a / 2 ^ k:Nat):Int):=by
 have hb:IntKind.bits .i64=64:=rfl
 have hp:((2:Int) ^ k)=((2 ^ k:Nat):Int):=by simp
 rw [hb,Int.toNat_natCast,show min k 64=k by omega,hp,Int.ofNat_fdiv]
theorem X7A (a k:Nat) (ha:a<2 ^ 41) (hk:k<64):X6c (a:Int) (k:Int)=a.testBit k:=by
 unfold X6c
 rw [X7L a k hk]
 have hle:a / 2 ^ k≤a:=Nat.div_le_self _ _
 have h1:=X8x (a / 2 ^ k) 1 (by omega) (by omega)
 simp only [Int.natCast_one] at h1
 rw [h1,Nat.testBit_eq_decide_div_mod_eq,Nat.and_one_is_mod,Bool.eq_iff_iff]
 simp only [beq_iff_eq,decide_eq_true_eq]
 omega

theorem X7o {a n:Nat} (h:∀ k,n≤k→a.testBit k=false):a<2 ^ n:=Nat.lt_pow_two_of_testBit a h

def X6I (a:Nat) (s:List Nat):Prop:=∀ k,a.testBit k=s.contains k

theorem X6O {f:ZJ} {x:Zm} (h:Wc f x=0):((x.Instrument.toNat:Nat):Int)=x.Instrument∧x.Instrument.toNat<f.Instruments.length:=by
 obtain ⟨⟨h1,h2⟩,_⟩:=X4L h;omega
theorem X6R {f:ZJ} {x:Zm} (h:Wc f x=0) (hL:(X2d f x.Instrument).Lead=false):((x.Mark.toNat:Nat):Int)=x.Mark∧x.Mark.toNat<f.Chart.Marks.length:=by
 obtain ⟨_,_,h3⟩:=X4L h;have:=h3 hL;omega

theorem X73 {f:ZJ} {l:List Zm} (hl:∀ x∈l,Wc f x=0) (k:Nat) (hk:X0 f+f.Instruments.length≤k):X3p f l k=false:=by
 unfold X3p
 rw [List.any_eq_false]
 intro x hx
 have h1:=X6O (hl x hx)
 have e1:decide (X0 f+x.Instrument.toNat=k)=false:=by simp;omega
 rw [e1,Bool.false_or]
 cases hL:(X2d f x.Instrument).Lead
 ·have h2:=X6R (hl x hx) hL
  have:decide (x.Mark.toNat=k)=false:=by unfold X0 at hk;simp;omega
  rw [this];simp
 ·simp

theorem X89 {f:ZJ} (hg:Wn f) {l:List Zm} (hl:∀ x∈l,Wc f x=0) (hll:l.length≤8) {kit:Nat→Nat} (hk:Kit f kit) (m:List (Zh×Int)) :
  ∃ a:Nat,(∀ k,a.testBit k=X3p f l k)∧WJ (f,l,kit,m)=some ((a:Int),f,l,kit,m):=by
 rw [X3b];unfold XF
 have hM:=hg.marks
 have hI:=hg.inst
 have main:=X3A (Xc (↑l.length) l f kit) (fun o=>some (o,f,l,kit,m)) l.length (fun i (a:Nat)=>((i:Int),(a:Int))) (fun i a=>∀ k,a.testBit k=X3p f (l.take i) k) (fun _ _ r=>∃ a:Nat,(∀ k,a.testBit k=X3p f l k)∧r=some ((a:Int),f,l,kit,m))
  (by
   intro a ha R
   refine ⟨a,by simpa using ha,?_⟩
   simp [Xc,Xi])
  (by
   intro i a hi ha R hR
   have hw:IntKind.wrap .i64 ((i:Int)+1)=((i+1:Nat):Int):=by rw [w64]<;>omega
   have e1:decide ((i:Int)<↑l.length)=true:=by simp [hi]
   have e2:decide ((0:Int)≤↑i)=true:=by simp
   have hx:=hl _ (List.getElem_mem hi)
   obtain ⟨x,hxd⟩:∃ x,l[i]=x:=⟨_,rfl⟩
   rw [hxd] at hx
   have hgd:l.getD i ⟨0,0,0,0⟩=x:=(X1 _ _ _ hi).trans hxd
   obtain ⟨n1,n2⟩:=X6O hx
   have hw1:IntKind.wrap .i64 ((↑f.Chart.Marks.length:Int)+x.Instrument)=((X0 f+x.Instrument.toNat:Nat):Int):=by unfold X0;rw [w64]<;>omega
   have hneg:decide (((X0 f+x.Instrument.toNat:Nat):Int)<0)=false:=by simp;omega
   have i1:decide (0≤x.Instrument)=true:=by simp;omega
   have i2:decide (x.Instrument<((4:Nat):Int))=true:=by simp;omega
   have i2':decide (x.Instrument<(4:Int))=true:=by simp;omega
   have i3:Nat.blt x.Instrument.toNat 4=true:=by rw [Tr.blt_dec];simp;omega
   have htake:l.take (i+1)=l.take i++[x]:=by rw [List.take_succ_eq_append_getElem hi,hxd]
   have hlt:a<2 ^ 12:=X7o fun k hk=>by
    rw [ha]
    apply X73 (fun y hy=>hl y (List.mem_of_mem_take hy))
    unfold X0;omega
   have hp1:2 ^ (X0 f+x.Instrument.toNat)<2 ^ 12:=Nat.pow_lt_pow_right (by omega) (by unfold X0;omega)
   have ho1:=X8S a (2 ^ (X0 f+x.Instrument.toNat)) (by omega) (by omega)
   have hs1:=X6H (X0 f+x.Instrument.toNat) (by unfold X0;omega)
   have hkk:=hk _ n2
   have hio:X2d f x.Instrument=f.Instruments[x.Instrument.toNat]:=X1 _ _ _ n2
   simp only [Xc,Xi,Int.toNat_natCast,hgd,hw,e1,e2,hw1,hneg,i1,i2,i2',i3,Bool.and_self,cond_true,cond_false]
   simp only [Int.toNat_natCast] at hs1
   rcases Bool.eq_false_or_eq_true (X2d f x.Instrument).Lead with hL|hL
   ·rw [←hio,hL] at hkk
    simp only [if_true] at hkk
    simp only [hkk,show Nat.beq 2 0=false from rfl,show Nat.beq 2 1=false from rfl,show Nat.beq 2 (1+1)=true from rfl,cond_false,cond_true,hs1,ho1,Option.bind_some,Sum.elim_inl]
    refine hR _ fun k => ?_
    rw [Nat.testBit_or,ha,Nat.testBit_two_pow,htake]
    unfold X3p
    simp [hL]
   ·rw [←hio,hL] at hkk
    simp only [Bool.false_eq_true,if_false] at hkk
    obtain ⟨m1,m2⟩:=X6R hx hL
    have i5:decide (x.Mark<0)=false:=by simp;omega
    have hlt2:a ||| 2 ^ (X0 f+x.Instrument.toNat)<2 ^ 12:=Nat.or_lt_two_pow hlt hp1
    have hp2:2 ^ x.Mark.toNat<2 ^ 12:=Nat.pow_lt_pow_right (by omega) (by omega)
    have ho2:=X8S (a ||| 2 ^ (X0 f+x.Instrument.toNat)) (2 ^ x.Mark.toNat) (by omega) (by omega)
    have hs2:=X6H x.Mark.toNat (by omega)
    simp only [Int.toNat_natCast] at hs2
    simp only [hkk,show Nat.beq 1 0=false from rfl,show Nat.beq 1 1=true from rfl,cond_false,cond_true,i5,hs1,ho1,hs2,ho2,Option.bind_some,Sum.elim_inl]
    refine hR _ fun k => ?_
    rw [Nat.testBit_or,Nat.testBit_or,ha,Nat.testBit_two_pow,Nat.testBit_two_pow,htake]
    unfold X3p
    simp [hL,Bool.or_assoc])
 have h:=main 0 0 (by omega) (fun k=>by simp [X3p])
 unfold X17
 simpa using h

theorem X8s (f:ZJ) (x:Zm):X2x f 0 0 x=false:=by unfold X2x;simp [X8i]
theorem X5Q (f:ZJ) (p:Zu) (ib mb:Int) (q:Zm→Bool):∀ (l:List Zm) (s:Nat→ZE),(∀ x∈l,X2x f ib mb x = !q x)→atL f p ib mb s l=atL f p 0 0 s (l.filter q)
 | [],_,_=>rfl
 | x::l,s,h=>by
  have hx:=h x (by simp)
  have hl:∀ y∈l,X2x f ib mb y = !q y:=fun y hy=>h y (by simp [hy])
  cases hq:q x
  ·rw [hq] at hx
   rw [List.filter_cons_of_neg (by simp [hq])]
   simp only [atL,hx,Bool.not_false,if_true]
   exact X5Q f p ib mb q l s hl
  ·rw [hq] at hx
   rw [List.filter_cons_of_pos hq]
   simp only [atL,hx,X8s,Bool.not_true,Bool.false_eq_true,if_false]
   rw [X5Q f p ib mb q l _ hl]
theorem X8r {f:ZJ} (hg:Wn f) {x:Zm} (hx:Wc f x=0) {a:Nat} {s:List Nat} (ha:X6I a s) (h12:a<2 ^ 40):X2x f ((a / 2 ^ X0 f:Nat):Int) ((a &&& (2 ^ X0 f-1):Nat):Int) x = !X8d f s x:=by
 have hM:=hg.marks
 have hI:=hg.inst
 obtain ⟨n1,n2⟩:=X6O hx
 have hle:a / 2 ^ X0 f≤a:=Nat.div_le_self _ _
 have hle2:a &&& (2 ^ X0 f-1)≤a:=Nat.and_le_left
 unfold X2x X8d
 rw [←n1,X7A _ _ (by omega) (by omega),Nat.testBit_div_two_pow,ha,n1,Nat.add_comm]
 cases hL:(X2d f x.Instrument).Lead
 ·obtain ⟨m1,m2⟩:=X6R hx hL
  have hmb:X6c ((a &&& (2 ^ X0 f-1):Nat):Int) x.Mark=s.contains x.Mark.toNat:=by
   rw [←m1,X7A _ _ (by omega) (by omega),Nat.testBit_and,ha,Nat.testBit_two_pow_sub_one,Int.toNat_natCast]
   have:decide (x.Mark.toNat<X0 f)=true:=by unfold X0;simp;omega
   rw [this,Bool.and_true]
  rw [hmb]
  cases s.contains (X0 f+x.Instrument.toNat)<;>cases s.contains x.Mark.toNat<;>rfl
 ·cases s.contains (X0 f+x.Instrument.toNat)<;>rfl
theorem X8J {f:ZJ} (hg:Wn f) {l:List Zm} (hl:∀ x∈l,Wc f x=0) {a:Nat} {s:List Nat} (ha:X6I a s) (h12:a<2 ^ 40) (p:Zu):atN f l p ((a / 2 ^ X0 f:Nat):Int) ((a &&& (2 ^ X0 f-1):Nat):Int)=atN f (X49 f l s) p 0 0:=by
 unfold atN X49
 exact X5Q f p _ _ _ l _ fun x hx=>X8r hg (hl x hx) ha h12
end Nore
open Go Go.Ab
namespace Nore

theorem X77 {α:Type} (l:List α) (q:α→Bool):l.any q = !(l.filter q).isEmpty:=by
 induction l with
 | nil=>rfl
 | cons a l ih =>
  rw [List.any_cons,List.filter_cons]
  cases h:q a
  ·simp [ih]
  ·simp

theorem X7d {f:ZJ} {l:List Zm} (hg:X5W f l) {kit:Nat→Nat} (hk:Kit f kit) {a:Nat} {s:List Nat} (ha:X6I a s) (h12:a<2 ^ 40) (x:Int) (hx : -8≤x∧x≤8) {m:List (Zh×Int)} (hm:Xm f m) {γ:Type} (k:_→Option γ) (Q:Option γ→Prop)
  (h1:∀ m' o p,Xm f m'→((XO f x (-f.Half) (X9 f)).any fun p=>(atN f (X49 f l s) p 0 0).2)=true→Q (k (.inl (f,l,kit,o,p,m',true))))
  (h2:∀ m',Xm f m'→((XO f x (-f.Half) (X9 f)).any fun p=>(atN f (X49 f l s) p 0 0).2)=false→Q (k (.inr (f,l,kit,m')))) :
  Q (Option.bind (XN x (a:Int) ((2 ^ X0 f-1:Nat):Int) (-f.Half,f,l,kit,m)) k):=by
 have hh:=hg.fix.half
 have hs:=hg.fix.step
 have hM:=hg.fix.marks
 have hw0:(X9 f:Int)=2*f.Half+1:=by unfold X9;omega
 have hle2:a &&& (2 ^ X0 f-1)≤a:=Nat.and_le_left
 have hp8:2 ^ X0 f≤2 ^ 8:=Nat.pow_le_pow_right (by omega) hM
 refine (X3A (X8 x (a:Int) ((2 ^ X0 f-1:Nat):Int)) k (X9 f) (fun i (b:List (Zh×Int))=>(-f.Half+i,f,l,kit,b)) (fun i b=>Xm f b∧((XO f x (-f.Half+i) (X9 f-i)).any fun p=>(atN f (X49 f l s) p 0 0).2)=((XO f x (-f.Half) (X9 f)).any fun p=>(atN f (X49 f l s) p 0 0).2)) (fun _ _ r=>Q r) ?_ ?_ 0 m (by omega) ⟨hm,by simp⟩) |> fun h=>by simpa [XN] using h
 ·intro b hb R
  have e1:decide (-f.Half+(X9 f:Int)≤f.Half)=false:=by simp;omega
  simp only [X8,Xf,e1,cond_false,Option.bind_some,Sum.elim_inr]
  refine h2 _ hb.1 ?_
  rw [←hb.2];simp [XO]
 ·intro i b hi hb R hR
  obtain ⟨hb1,hb3⟩:=hb
  have e1:decide (-f.Half+(i:Int)≤f.Half)=true:=by simp;omega
  have hw:IntKind.wrap .i64 (-f.Half+(i:Int)+1) = -f.Half+((i+1:Nat):Int):=by rw [w64]<;>omega
  have m1:=X4y (a:=x) (b:=f.Step) 8 500 (by omega) (by omega) (by omega) (by omega)
  have m2:=X4y (a := -f.Half+(i:Int)) (b:=f.Step) 8 500 (by omega) (by omega) (by omega) (by omega)
  simp only [X8,Xf,e1,cond_true]
  rw [w64 (x:=x*f.Step) (by omega) (by omega),w64 (x:=(-f.Half+(i:Int))*f.Step) (by omega) (by omega),hw]
  have hsh:=X7L a (X0 f) (by unfold X0;omega)
  have hnd:=X8x a (2 ^ X0 f-1) (by omega) (by omega)
  rw [show (f.Chart.Marks.length:Int)=((X0 f:Nat):Int) from rfl,hsh,hnd]
  obtain ⟨m',hm',hc⟩:=X7R hg.fix hg.each hg.len hk hb1 ⟨x*f.Step,(-f.Half+(i:Int))*f.Step⟩ ((a / 2 ^ X0 f:Nat):Int) ((a &&& (2 ^ X0 f-1):Nat):Int)
  rw [X8J hg.fix hg.each ha h12] at hc
  rw [hc]
  simp only [Option.bind_some]
  have hrow:XO f x (-f.Half+(i:Int)) (X9 f-i)=⟨x*f.Step,(-f.Half+(i:Int))*f.Step⟩::XO f x (-f.Half+((i+1:Nat):Int)) (X9 f-(i+1)):=by
   rw [show X9 f-i=(X9 f-(i+1))+1 by omega,XO,show -f.Half+(i:Int)+1 = -f.Half+((i+1:Nat):Int) by push_cast;omega]
  rw [hrow,List.any_cons] at hb3
  cases hat:(atN f (X49 f l s) ⟨x*f.Step,(-f.Half+(i:Int))*f.Step⟩ 0 0).2
  ·simp only [cond_false,Option.bind_some,Sum.elim_inl]
   refine hR m' ⟨hm',?_⟩
   rw [hat,Bool.false_or] at hb3
   exact hb3
  ·simp only [cond_true,Option.bind_some,Sum.elim_inr]
   refine h1 _ _ _ hm' ?_
   rw [hat,Bool.true_or] at hb3
   exact hb3.symm

theorem X7P {f:ZJ} {l:List Zm} (hg:X5W f l) {kit:Nat→Nat} (hk:Kit f kit) {a:Nat} {s:List Nat} (ha:X6I a s) (h12:a<2 ^ 40) {m:List (Zh×Int)} (hm:Xm f m) :
  ∃ m',Xm f m'∧Wi ((a:Int),f,l,kit,m)=some (okW f l s,f,l,kit,m'):=by
 rw [X2T];unfold Xw
 have hh:=hg.fix.half
 have hM:=hg.fix.marks
 have hw0:(X9 f:Int)=2*f.Half+1:=by unfold X9;omega
 have hw2:IntKind.wrap .i64 (0-f.Half) = -f.Half:=by rw [w64]<;>omega
 have hp8:2 ^ X0 f≤2 ^ 8:=Nat.pow_le_pow_right (by omega) hM
 have hp1:1≤2 ^ X0 f:=Nat.one_le_two_pow
 have hmask:IntKind.wrap .i64 (IntKind.wrap .i64 (1*2 ^ min (Int.toNat (↑f.Chart.Marks.length:Int)) (IntKind.bits .i64))-1)=((2 ^ X0 f-1:Nat):Int):=by
  rw [show (f.Chart.Marks.length:Int)=((X0 f:Nat):Int) from rfl,X6H _ (by unfold X0;omega),w64]<;>omega
 have hok:okW f l s=(X56 f).any fun p=>(atN f (X49 f l s) p 0 0).2:=by unfold okW X20;rw [X77]
 simp only [hw2,hmask]
 refine (X3A (X7 (a:Int) ((2 ^ X0 f-1:Nat):Int)) _ (X9 f) (fun i (b:List (Zh×Int))=>(-f.Half+i,f,l,kit,b)) (fun i b=>Xm f b∧((WN f (-f.Half+i) (X9 f-i)).any fun p=>(atN f (X49 f l s) p 0 0).2)=okW f l s) (fun _ _ r=>∃ m',Xm f m'∧r=some (okW f l s,f,l,kit,m')) ?_ ?_ 0 m (by omega) ⟨hm,by rw [hok];simp [X56]⟩) |> fun h=>by simpa [WX] using h
 ·intro b hb R
  have e1:decide (-f.Half+(X9 f:Int)≤f.Half)=false:=by simp;omega
  simp only [X7,Xe,e1,cond_false,Option.bind_some,Sum.elim_inr]
  refine ⟨b,hb.1,?_⟩
  rw [←hb.2];simp [WN]
 ·intro i b hi hb R hR
  obtain ⟨hb1,hb3⟩:=hb
  have e1:decide (-f.Half+(i:Int)≤f.Half)=true:=by simp;omega
  have hw:IntKind.wrap .i64 (-f.Half+(i:Int)+1) = -f.Half+((i+1:Nat):Int):=by rw [w64]<;>omega
  have hgr:WN f (-f.Half+(i:Int)) (X9 f-i)=XO f (-f.Half+(i:Int)) (-f.Half) (X9 f)++WN f (-f.Half+((i+1:Nat):Int)) (X9 f-(i+1)):=by
   rw [show X9 f-i=(X9 f-(i+1))+1 by omega,WN,show -f.Half+(i:Int)+1 = -f.Half+((i+1:Nat):Int) by push_cast;omega]
  rw [hgr,List.any_append] at hb3
  simp only [X7,Xe,e1,cond_true,hw,hw2]
  rw [Option.bind_assoc]
  refine X7d hg hk ha h12 _ (by omega) hb1 _ (fun r=>∃ m',Xm f m'∧r=some (okW f l s,f,l,kit,m')) (fun m' o p hm' ht => ?_) (fun m' hm' ht => ?_)
  ·simp only [Sum.elim_inl,Option.bind_some,Sum.elim_inr]
   rw [ht,Bool.true_or] at hb3
   exact ⟨m',hm',by rw [←hb3]⟩
  ·simp only [Option.bind_some,Sum.elim_inr,Sum.elim_inl]
   rw [ht,Bool.false_or] at hb3
   exact hR m' ⟨hm',hb3⟩
end Nore
open Go Go.Ab
namespace Nore

theorem X82 {α β:Type} {t:(α→Option β)→α→Option β} {x:α} (h:∃ n r,Z8p t n x=some r):∃ n r,Z9M t x=some r∧Z8p t n x=some r:=by
 obtain ⟨n,r,hr⟩:=h
 have:Z9M t x≠none:=by
  unfold Z9M
  rw [dif_pos ⟨n,r,hr⟩]
  exact fun h=>by cases h
 cases hc:Z9M t x with
 | none=>exact absurd hc this
 | some y =>
  obtain ⟨k,hk⟩:=Z8J hc
  exact ⟨k,y,rfl,hk⟩

theorem X7D {α β:Type} (g:α→β) (q:β→Bool):∀ (l:List α),(l.map g).find? q=(l.find? fun a=>q (g a)).map g
 | []=>rfl
 | a::l=>by
  rw [List.map_cons,List.find?_cons,List.find?_cons,X7D g q l]
  cases q (g a)<;>rfl

def X4a (f:ZJ) (l:List Zm) (t:Nat):List Nat:=(WZ f l).filter fun k=>decide (t≤k)
theorem X8b (f:ZJ) (l:List Zm):X4a f l 0=WZ f l:=List.filter_eq_self.2 fun _ _=>by simp
theorem X4X:∀ (l:List Nat) (t:Nat),l.Pairwise (· < ·)→t∈l→(l.filter fun k=>decide (t≤k))=t::l.filter fun k=>decide (t+1≤k)
 | [],_,_,h=>by cases h
 | a::l,t,hp,h=>by
  have hp2:=List.pairwise_cons.1 hp
  by_cases e:a=t
  ·subst e
   rw [List.filter_cons_of_pos (by simp),List.filter_cons_of_neg (by simp)]
   congr 1
   apply List.filter_congr
   intro b hb
   have:=hp2.1 b hb
   simp;omega
  ·have hm:t∈l:=by
    rcases List.mem_cons.1 h with e'|e'
    ·exact absurd e'.symm e
    ·exact e'
   have:=hp2.1 t hm
   rw [List.filter_cons_of_neg (by simp;omega),List.filter_cons_of_neg (by simp;omega)]
   exact X4X l t hp2.2 hm
theorem X8G {f:ZJ} {l:List Zm} {t:Nat} (h:t∈WZ f l):X4a f l t=t::X4a f l (t+1):=X4X _ t X7O h
theorem X8v {f:ZJ} {l:List Zm} {t:Nat} (h:t∉WZ f l):X4a f l t=X4a f l (t+1):=by
 unfold X4a
 apply List.filter_congr
 intro b hb
 have:b≠t:=fun e=>h (e ▸ hb)
 simp only [decide_eq_decide];omega
theorem X6S {f:ZJ} {l:List Zm} (hl:∀ x∈l,Wc f x=0) {t:Nat}:t∈WZ f l↔X3p f l t=true:=by
 unfold WZ
 rw [List.mem_filter,List.mem_range]
 constructor
 ·exact fun h=>h.2
 ·intro h
  refine ⟨?_,h⟩
  have:=X73 hl t
  by_cases c:t<X0 f+f.Instruments.length
  ·exact c
  ·rw [this (by omega)] at h;cases h

abbrev PSt:=Int×Bool×ZJ×List Zm×(Nat→Nat)×Int×List (Zh×Int)
def X6F (f:ZJ) (l:List Zm) (kit:Nat→Nat) (A:Nat) (s:List Nat) (n:Nat) (u:List Nat) (r:Option PSt):Prop :=
 ∃ m',Xm f m'∧match (X2X n u).find? (fun q=>okW f l (s++q)) with
  | some q=>∃ a':Nat,X6I a' (s++q)∧r=some ((a':Int),true,f,l,kit,(A:Int),m')
  | none=>∃ z,r=some (z,false,f,l,kit,(A:Int),m')

theorem X8K {a t:Nat} {s:List Nat} (h:X6I a s):X6I (a ||| 2 ^ t) (s++[t]):=fun k=>by
 rw [Nat.testBit_or,h k,Nat.testBit_two_pow,List.contains_eq_mem,List.contains_eq_mem]
 by_cases e:t=k
 ·subst e;simp
 ·simp [e,Ne.symm e]
theorem X7i {a:Nat} {s:List Nat} (h:X6I a s) (hs:∀ t∈s,t<12):a<2 ^ 12:=X7o fun k hk=>by
 rw [h k,List.contains_eq_mem]
 by_cases c:k∈s
 ·have:=hs k c;omega
 ·simp [c]

theorem X7z (a k:Nat) (ha:a<2 ^ 41) (hk:k<64):(IntKind.wrap IntKind.i64 (↑(BitVec.toNat (BitVec.ofInt (IntKind.bits IntKind.i64) (Int.fdiv (a:Int) (2 ^ min (Int.toNat (k:Int)) (IntKind.bits IntKind.i64))) &&& BitVec.ofInt (IntKind.bits IntKind.i64) 1)):Int)==0) = !a.testBit k:=by
 rw [X7L a k hk]
 have hle:a / 2 ^ k≤a:=Nat.div_le_self _ _
 have h1:=X8x (a / 2 ^ k) 1 (by omega) (by omega)
 simp only [Int.natCast_one] at h1
 rw [h1,Nat.testBit_eq_decide_div_mod_eq,Nat.and_one_is_mod,Bool.eq_iff_iff]
 simp only [beq_iff_eq,Bool.not_eq_true',decide_eq_false_iff_not]
 omega

theorem X8M {f:ZJ} {l:List Zm} (hg:X5W f l) {kit:Nat→Nat} (hk:Kit f kit) {A:Nat} (hA:∀ k,A.testBit k=X3p f l k) :
  ∀ (n fuel t a:Nat) (s:List Nat) (m:List (Zh×Int)),n≤1000→t≤12→X6I a s→(∀ k∈s,k<12)→Xm f m →
   (Z8p Xk fuel ((t:Int),(a:Int),(n:Int),f,l,kit,(A:Int),m)=none∧fuel≤n)∨X6F f l kit A s n (X4a f l t) (Z8p Xk fuel ((t:Int),(a:Int),(n:Int),f,l,kit,(A:Int),m)):=by
 have hM:=hg.fix.marks
 have hI:=hg.fix.inst
 have hA12:A<2 ^ 12:=X7o fun k hk=>by rw [hA];exact X73 hg.each k (by unfold X0;omega)
 intro n
 induction n with
 | zero =>
  intro fuel t a s m hn ht ha hs hm
  cases fuel with
  | zero=>exact .inl ⟨rfl,Nat.le_refl _⟩
  | succ fuel =>
   right
   have ha12:=X7i ha hs
   obtain ⟨m',hm',hc⟩:=X7P hg hk ha (by omega) hm
   simp only [Z8p,Xk,X1X]
   rw [show (((0:Nat):Int)==0)=true from rfl,cond_true,hc]
   refine ⟨m',hm',?_⟩
   simp only [X2X,List.find?_cons,List.find?_nil,List.append_nil]
   cases hok:okW f l s
   ·exact ⟨_,rfl⟩
   ·exact ⟨a,by simpa using ha,rfl⟩
 | succ n ih =>
  intro fuel t a s m hn ht ha hs hm
  cases fuel with
  | zero=>exact .inl ⟨rfl,Nat.zero_le _⟩
  | succ fuel =>
   have ha12:=X7i ha hs
   simp only [Z8p,Xk,X1X]
   have en:((((n+1:Nat):Int))==0)=false:=X4c (by omega)
   rw [en,cond_false]
   have hn1:IntKind.wrap .i64 (((n+1:Nat):Int)-1)=(n:Int):=by rw [w64]<;>omega
   refine (X3A (XA (Z8p Xk fuel) (a:Int) ((n+1:Nat):Int)) _ 12 (fun i (b:List (Zh×Int))=>((i:Int),f,l,kit,(A:Int),b)) (fun i b=>Xm f b) (fun i b r=>(r=none∧fuel+1≤n+1)∨X6F f l kit A s (n+1) (X4a f l i) r) ?_ ?_ t m ht hm)
   ·intro b hb R
    right
    have e0:decide (((12:Nat):Int)<0)=false:=by decide
    have e1:(Int.fdiv (A:Int) (2 ^ min (Int.toNat ((12:Nat):Int)) (IntKind.bits IntKind.i64)) != 0)=false:=by
     rw [X7L A 12 (by omega)]
     have:A / 2 ^ 12=0:=Nat.div_eq_of_lt hA12
     rw [this];rfl
    simp only [XA,XP,e0,e1,cond_false,Option.bind_some,Sum.elim_inr]
    refine ⟨b,hb,?_⟩
    have hu:X4a f l 12=[]:=by
     unfold X4a
     rw [List.filter_eq_nil_iff]
     intro x hx
     have:=X8g hx
     unfold X0 at this
     simp;omega
    rw [hu]
    simp only [X2X,List.find?_nil]
    exact ⟨_,rfl⟩
   ·intro i b hi hb R hR
    have e0:decide ((i:Int)<0)=false:=by simp
    have hw:IntKind.wrap .i64 ((i:Int)+1)=((i+1:Nat):Int):=by rw [w64]<;>omega
    have hbit:=X7z A i (by omega) (by omega)
    have hsr:=X7L A i (by omega)
    simp only [XA,XP,e0,cond_false,hw,hbit]
    rw [hsr]
    by_cases hz:A / 2 ^ i=0
    ·have e1:(((A / 2 ^ i:Nat):Int) != 0)=false:=by rw [hz];rfl
     simp only [e1,cond_false,Option.bind_some,Sum.elim_inr]
     right
     refine ⟨b,hb,?_⟩
     have hu:X4a f l i=[]:=by
      unfold X4a
      rw [List.filter_eq_nil_iff]
      intro x hx hle
      have h1:=(X6S hg.each).1 hx
      rw [←hA] at h1
      have hle':i≤x:=by simpa using hle
      have h2:(A / 2 ^ i).testBit (x-i)=true:=by rw [Nat.testBit_div_two_pow,show x-i+i=x by omega];exact h1
      rw [hz,Nat.zero_testBit] at h2
      cases h2
     rw [hu]
     simp only [X2X,List.find?_nil]
     exact ⟨_,rfl⟩
    ·have e1:(((A / 2 ^ i:Nat):Int) != 0)=true:=WE (by omega)
     simp only [e1,cond_true]
     rcases Bool.eq_false_or_eq_true (A.testBit i) with hb1|hb1
     rotate_left
     ·simp only [hb1,Bool.not_false,cond_true,Option.bind_some,Sum.elim_inl]
      have:=hR b hb
      rw [←X8v (fun h=>by rw [X6S hg.each,←hA,hb1] at h;cases h)] at this
      exact this
     ·have hu:X4a f l i=i::X4a f l (i+1):=X8G (by rw [X6S hg.each,←hA];exact hb1)
      have hp:2 ^ i<2 ^ 12:=Nat.pow_lt_pow_right (by omega) hi
      have hor:=X8S a (2 ^ i) (by omega) (by omega)
      have hsh:=X6H i (by omega)
      simp only [hb1,Bool.not_true,cond_false]
      rw [hsh,hor]
      rw [hu]
      have hs':∀ k∈s++[i],k<12:=fun k hk=>by
       rcases List.mem_append.1 hk with h|h
       ·exact hs k h
       ·have:=List.mem_singleton.1 h;omega
      rw [hn1]
      rcases ih fuel (i+1) (a ||| 2 ^ i) (s++[i]) b (by omega) (by omega) (X8K ha) hs' hb with ⟨h1,h2⟩|⟨m',hm',h1⟩
      ·rw [h1];exact .inl ⟨rfl,by omega⟩
      ·unfold X6F
       simp only [X2X,List.find?_append,X7D]
       have happ:(fun q=>okW f l (s++[i]++q))=fun q=>okW f l (s++(i::q)):=by funext q;simp
       rw [happ] at h1
       cases hf:(X2X n (X4a f l (i+1))).find? (fun q=>okW f l (s++(i::q))) with
       | some q =>
        rw [hf] at h1
        obtain ⟨a',ha',h1⟩:=h1
        rw [h1]
        right
        refine ⟨m',hm',a',?_,?_⟩
        ·simpa using ha'
        ·simp
       | none =>
        rw [hf] at h1
        obtain ⟨z,h1⟩:=h1
        rw [h1]
        simp only [Option.bind_some,cond_false,Sum.elim_inl,Option.map_none,Option.none_or]
        exact hR m' hm'

theorem X8u {f:ZJ} {l:List Zm} (hg:X5W f l) {kit:Nat→Nat} (hk:Kit f kit) {A:Nat} (hA:∀ k,A.testBit k=X3p f l k) {m:List (Zh×Int)} (hm:Xm f m) (n:Nat) (hn:n≤1000) :
  X6F f l kit A [] n (WZ f l) (X2k (0,0,(n:Int),f,l,kit,(A:Int),m)):=by
 have key:∀ fuel,_:=fun fuel=>X8M hg hk hA n fuel 0 0 [] m hn (by omega) (fun k=>by simp) (fun _ h=>by cases h) hm
 rw [X8b] at key
 have h1:∃ k r,Z8p Xk k ((0:Int),(0:Int),(n:Int),f,l,kit,(A:Int),m)=some r:=by
  rcases key (n+1) with ⟨_,h⟩|⟨m',_,h⟩
  ·omega
  ·refine ⟨n+1,?_⟩
   revert h
   cases (X2X n (WZ f l)).find? (fun q=>okW f l ([]++q)) with
   | some q=>rintro ⟨a',_,h⟩;exact ⟨_,h⟩
   | none=>rintro ⟨z,h⟩;exact ⟨_,h⟩
 obtain ⟨k,r,h2,h3⟩:=X82 h1
 unfold X2k
 rw [h2,←h3]
 rcases key k with ⟨h,_⟩|h
 ·exact absurd (h3.symm.trans h) (by simp)
 ·exact h

theorem X6y {f:ZJ} {l:List Zm} (hg:X5W f l) {kit:Nat→Nat} (hk:Kit f kit) {A:Nat} (hA:∀ k,A.testBit k=X3p f l k) {s:List Nat} :
  ∀ (k n:Nat) (x:Int) (m:List (Zh×Int)),n+k≤1000→Xm f m→X4Q (okW f l) (WZ f l) n k=some s →
   ∃ (a:Nat) (m':_),X6I a s∧Xm f m'∧X2t (x,(n:Int),false,(A:Int),m,f,l,kit)=some ((a:Int),(A:Int),m',f,l,kit)
 | 0,n,x,m,hb,hm,h=>by cases h
 | k+1,n,x,m,hb,hm,h=>by
  unfold X2t
  rw [ZgX]
  obtain ⟨m',hm',hp⟩:=X8u hg hk hA hm n (by omega)
  have hw:IntKind.wrap .i64 ((n:Int)+1)=((n+1:Nat):Int):=by rw [w64]<;>omega
  simp only [X25,X1v,Bool.not_false,cond_true,hw]
  unfold X4Q at h
  simp only [List.nil_append] at hp
  cases hf:(X2X n (WZ f l)).find? (okW f l) with
  | some q =>
   rw [hf] at h
   cases h
   have hf':(X2X n (WZ f l)).find? (fun q=>okW f l q)=some s:=hf
   rw [hf'] at hp
   obtain ⟨a',ha',hp⟩:=hp
   rw [hp]
   simp only [Option.bind_some]
   rw [ZgX]
   refine ⟨a',m',ha',hm',?_⟩
   simp [X25,X1v]
  | none =>
   rw [hf] at h
   have hf':(X2X n (WZ f l)).find? (fun q=>okW f l q)=none:=hf
   rw [hf'] at hp
   obtain ⟨z,hp⟩:=hp
   rw [hp]
   simp only [Option.bind_some]
   exact X6y hg hk hA k (n+1) z m' (by omega) hm' h

def X4x (f:ZJ) (s:List Nat):List Int:=(s.filter fun t=>decide (t<X0 f)).map fun t:Nat=>(t:Int)
def X4v (f:ZJ) (s:List Nat):List Int:=(s.filter fun t=>decide (X0 f≤t)).map fun t:Nat=>(t:Int)-(X0 f:Int)

theorem X7Q {f:ZJ} (hg:Wn f) {a:Nat} {s:List Nat} (ha:X6I a s) (h12:a<2 ^ 12) :
  X3y (a:Int) (↑f.Chart.Marks.length) (IntKind.wrap .i64 ((f.Chart.Marks.length:Int)+(f.Instruments.length:Int))) (0,[],[])=some (X4v f ((List.range (X0 f+f.Instruments.length)).filter fun t=>s.contains t),X4x f ((List.range (X0 f+f.Instruments.length)).filter fun t=>s.contains t)):=by
 have hM:=hg.marks
 have hI:=hg.inst
 have hN:IntKind.wrap .i64 ((f.Chart.Marks.length:Int)+(f.Instruments.length:Int))=((X0 f+f.Instruments.length:Nat):Int):=by unfold X0;rw [w64]<;>omega
 rw [hN,show (f.Chart.Marks.length:Int)=((X0 f:Nat):Int) from rfl]
 have hMn:X0 f≤8:=hM
 refine (X5z (X1q (a:Int) ((X0 f:Nat):Int) ((X0 f+f.Instruments.length:Nat):Int)) (X0 f+f.Instruments.length) (fun i (b:List Int×List Int)=>((i:Int),b.1,b.2)) (fun i b=>b.1.length≤i∧b.2.length≤i∧b.1=X4v f ((List.range i).filter fun t=>s.contains t)∧b.2=X4x f ((List.range i).filter fun t=>s.contains t)) (fun _ _=>some (X4v f ((List.range (X0 f+f.Instruments.length)).filter fun t=>s.contains t),X4x f ((List.range (X0 f+f.Instruments.length)).filter fun t=>s.contains t))) ?_ ?_ 0 ([],[]) (by omega) ⟨by simp,by simp,rfl,rfl⟩)
 ·intro b hb R
  simp only [X1q,X1w,Int.lt_irrefl,decide_false,cond_false,Option.bind_some,Sum.elim_inr]
  rw [hb.2.2.1,hb.2.2.2]
 ·intro i b hi hb R hR
  obtain ⟨hl1,hl2,h1,h2⟩:=hb
  have e1:decide ((i:Int)<((X0 f+f.Instruments.length:Nat):Int))=true:=by simp;omega
  have e0:decide ((i:Int)<0)=false:=by simp
  have hw:IntKind.wrap .i64 ((i:Int)+1)=((i+1:Nat):Int):=by rw [w64]<;>omega
  have hws:IntKind.wrap .i64 ((i:Int)-(X0 f:Int))=(i:Int)-(X0 f:Int):=by rw [w64]<;>omega
  have hbit:=X7z a i (by omega) (by omega)
  have ble:∀ (c:List Int) (d:Int),c.length≤i→Nat.ble ((c.length+[d].length)*(8+1)) 200000000000000=true:=fun c d h=>by
   apply Nat.ble_eq_true_of_le;simp only [List.length_cons,List.length_nil];omega
  simp only [X1q,X1w,e1,e0,cond_true,cond_false,hw,hbit,hws,ble _ _ hl1,ble _ _ hl2]
  rw [ha]
  have hr:(List.range (i+1)).filter (fun t=>s.contains t)=if s.contains i then (List.range i).filter (fun t=>s.contains t)++[i] else (List.range i).filter fun t=>s.contains t:=by
   rw [List.range_succ,List.filter_append]
   cases hc:s.contains i
   ·simp only [List.filter_cons,hc,List.filter_nil,Bool.false_eq_true,if_false,List.append_nil]
   ·simp only [List.filter_cons,hc,List.filter_nil,if_true]
  have mk:∀ (r:List Nat),X4v f (r++[i])=if decide (X0 f≤i) then X4v f r++[(i:Int)-(X0 f:Int)] else X4v f r:=fun r=>by
   unfold X4v
   rw [List.filter_append,List.map_append]
   by_cases c:X0 f≤i<;>simp [c]
  have mk2:∀ (r:List Nat),X4x f (r++[i])=if decide (i<X0 f) then X4x f r++[(i:Int)] else X4x f r:=fun r=>by
   unfold X4x
   rw [List.filter_append,List.map_append]
   by_cases c:i<X0 f<;>simp [c]
  cases hc:s.contains i
  ·simp only [Bool.not_false,cond_true,Option.bind_some,Sum.elim_inl]
   rw [hc] at hr
   simp only [Bool.false_eq_true,if_false] at hr
   exact hR b ⟨by omega,by omega,by rw [hr,h1],by rw [hr,h2]⟩
  ·rw [hc] at hr
   simp only [if_true] at hr
   by_cases c:i<X0 f
   ·have e3:decide ((i:Int)<((X0 f:Nat):Int))=true:=by simp;omega
    simp only [Bool.not_true,cond_false,e3,cond_true,Option.bind_some,Sum.elim_inl]
    refine hR (b.1,b.2++[(i:Int)]) ⟨by simp only;omega,by simp;omega,?_,?_⟩
    ·rw [hr,mk,if_neg (by simp;omega),h1]
    ·rw [hr,mk2,if_pos (by simp;omega),h2]
   ·have e3:decide ((i:Int)<((X0 f:Nat):Int))=false:=by simp;omega
    simp only [Bool.not_true,cond_false,e3,Option.bind_some,Sum.elim_inl]
    refine hR (b.1++[(i:Int)-(X0 f:Int)],b.2) ⟨by simp;omega,by simp only;omega,?_,?_⟩
    ·rw [hr,mk,if_pos (by simp;omega),h1]
    ·rw [hr,mk2,if_neg (by simp;omega),h2]

theorem X5P:∀ (l s:List Nat),l.Pairwise (· < ·)→s.Pairwise (· < ·)→(∀ t∈s,t∈l)→l.filter (fun t=>s.contains t)=s
 | [],s,_,_,h=>by
  cases s with
  | nil=>rfl
  | cons b s=>exact absurd (h b (by simp)) (by simp)
 | a::l,[],_,_,_=>by simp
 | a::l,b::s,hl,hs,h=>by
  have hl2:=List.pairwise_cons.1 hl
  have hs2:=List.pairwise_cons.1 hs
  by_cases e:b=a
  ·subst e
   rw [List.filter_cons_of_pos (by simp)]
   congr 1
   have:l.filter (fun t=>(b::s).contains t)=l.filter fun t=>s.contains t:=by
    apply List.filter_congr
    intro t ht
    have:=hl2.1 t ht
    have hne:t≠b:=by omega
    simp [hne]
   rw [this]
   refine X5P l s hl2.2 hs2.2 fun t ht => ?_
   rcases List.mem_cons.1 (h t (by simp [ht])) with e|e
   ·have:=hs2.1 t ht;omega
   ·exact e
  ·have hbl:b∈l:=by
    rcases List.mem_cons.1 (h b (by simp)) with e'|e'
    ·exact absurd e' e
    ·exact e'
   have hab:=hl2.1 b hbl
   have hna:∀ t∈b::s,t∈l:=fun t ht=>by
    rcases List.mem_cons.1 (h t ht) with e'|e'
    ·subst e'
     rcases List.mem_cons.1 ht with e''|e''
     ·exact absurd e''.symm e
     ·have:=hs2.1 t e'';omega
    ·exact e'
   rw [List.filter_cons_of_neg]
   ·exact X5P l (b::s) hl2.2 hs hna
   ·intro hc
    have:a∈b::s:=by simpa using hc
    have:=hl2.1 a (hna a this)
    omega
theorem X8h (n:Nat) (s:List Nat) (hp:s.Pairwise (· < ·)) (hs:∀ t∈s,t<n):(List.range n).filter (fun t=>s.contains t)=s :=
 X5P _ _ List.pairwise_lt_range hp fun t ht=>List.mem_range.2 (hs t ht)

theorem X5I (f:ZJ) (l:List Zm):X1M f l=some (if (XM f l).2=0 then (X4x f (X4B f l),X4v f (X4B f l),0) else ([],[],(XM f l).2)):=by
 rw [X60];unfold X2C
 rcases X6e f l with ⟨_,he,h0⟩|⟨kit,hg,h8,hk,he⟩
 ·rw [he]
  simp [h0,WE h0]
 ·rw [he]
  simp only [Option.bind_some,Sum.elim_inr]
  by_cases h0:(XM f l).2=0
  ·have hs:=X4j h0
   obtain ⟨A,hA,ht⟩:=X89 hg hs.each hs.len hk []
   have ws:=X74 hg hs.each
   obtain ⟨a,m',ha,hm',hr⟩:=X6y hs hk hA (f.Instruments.length+1) 0 0 [] (by have:=hg.inst;omega) (X5R f) ws.first
   have hlt:∀ t∈X4B f l,t<X0 f+f.Instruments.length:=fun t ht=>X8g (ws.sub.subset ht)
   have h12:a<2 ^ 12:=X7i ha fun t ht=>by have:=hlt t ht;have:=hg.marks;have:=hg.inst;unfold X0 at *;omega
   simp only [h0,bne_self_eq_false,cond_false,if_true,ht,Option.bind_some]
   rw [show ((0:Int),(0:Int),false,(A:Int),([]:List (Zh×Int)),f,l,kit)=((0:Int),((0:Nat):Int),false,(A:Int),[],f,l,kit) from rfl,hr]
   simp only [Option.bind_some]
   rw [X7Q hg ha h12,X8h _ _ (X7O.sublist ws.sub) hlt]
   rfl
  ·simp [h0,WE h0]
end Nore
open Go Go.Ab
namespace Nore

theorem X68 {β σ ω:Type} (st:σ→Option (σ⊕ω)) (n:Nat) (emb:Nat→β→σ) (P:Nat→β→Prop) (Q:ω→Prop)
  (hd:∀ b,P n b→∃ w,st (emb n b)=some (.inr w)∧Q w)
  (hn:∀ i b,i<n→P i b→(∃ w,st (emb i b)=some (.inr w)∧Q w)∨∃ b',st (emb i b)=some (.inl (emb (i+1) b'))∧P (i+1) b') :
  ∀ i b,i≤n→P i b→∃ w,Z8S st (emb i b)=some w∧Q w:=by
 intro i b hi hP
 induction hj:n-i generalizing i b with
 | zero =>
  have:i=n:=by omega
  subst this
  obtain ⟨w,h1,h2⟩:=hd b hP
  exact ⟨w,by rw [ZgX,h1];rfl,h2⟩
 | succ j ih =>
  rcases hn i b (by omega) hP with ⟨w,h1,h2⟩|⟨b',h1,h2⟩
  ·exact ⟨w,by rw [ZgX,h1];rfl,h2⟩
  ·obtain ⟨w,h3,h4⟩:=ih (i+1) b' (by omega) h2 (by omega)
   exact ⟨w,by rw [ZgX,h1];exact h3,h4⟩
theorem X8W {n:Int} (h:(Lit.int .u8 n).wf=true):0≤n∧n≤255:=by
 simp [Lit.wf,IntKind.has,IntKind.min,IntKind.max,IntKind.signed,IntKind.bits] at h
 omega

end Nore
open Go Go.Ab
namespace Nore

theorem X8w (f:ZJ) (s:List Nat):(X4x f s).length+(X4v f s).length=s.length:=by
 unfold X4x X4v
 rw [List.length_map,List.length_map]
 induction s with
 | nil=>rfl
 | cons t s ih =>
  by_cases c:t<X0 f
  ·rw [List.filter_cons_of_pos (by simpa using c),List.filter_cons_of_neg (by simp;omega)]
   simp only [List.length_cons];omega
  ·rw [List.filter_cons_of_neg (by simpa using c),List.filter_cons_of_pos (by simp;omega)]
   simp only [List.length_cons];omega
theorem X8H {f:ZJ} (hg:Wn f) (l:List Zm):(WZ f l).length≤12:=by
 have h1:=List.length_filter_le (X3p f l) (List.range (X0 f+f.Instruments.length))
 rw [List.length_range] at h1
 have:=hg.marks
 have:=hg.inst
 unfold WZ;unfold X0 at *;omega
end Nore
open Go Go.Ab
namespace Nore

theorem X8T {n:Int} (h:(Lit.int .u16 n).wf=true):0≤n∧n≤65535:=by
 simp [Lit.wf,IntKind.has,IntKind.min,IntKind.max,IntKind.signed,IntKind.bits] at h
 omega

def X6b (l:List Int) (n:Nat):Int:=if l.length=0 then 0 else l.getD (n % l.length) 0
theorem X7N (l:List Int) (h:∀ v∈l,0≤v∧v≤65535) (n:Nat):X3z l (n:Int)=some (X6b l n)∧0≤X6b l n∧X6b l n≤65535:=by
 rw [X5L];unfold X2n X6b
 by_cases h0:l.length=0
 ·simp [h0]
 ·have e0:((l.length:Int)==0)=false:=X4c (by omega)
  have hm:Int.tmod (n:Int) (l.length:Int)=((n % l.length:Nat):Int):=rfl
  have hlt:n % l.length<l.length:=Nat.mod_lt _ (by omega)
  have e1:decide ((0:Int)≤((n % l.length:Nat):Int))=true:=by simp;omega
  have e2:decide (((n % l.length:Nat):Int)<(l.length:Int))=true:=by simp;omega
  have hv:=h _ (List.getElem_mem hlt)
  simp only [e0,cond_false,hm,e1,e2,Bool.and_self,cond_true,Int.toNat_natCast,X1 _ _ _ hlt,h0,if_false]
  exact ⟨by rw [w64]<;>omega,hv⟩

theorem X6a (n k:Int) (hn:0≤n) (hk:0<k):0≤Int.tmod n k∧Int.tmod n k<k:=⟨Int.tmod_nonneg k hn,Int.tmod_lt_of_pos n hk⟩

end Nore
open Go Go.Ab Go.Proofs.Ytehofdemanfenaa
namespace Nore

theorem X7J (l:List Zu) (hl:l.length<1000000):X1z l l=some true:=by
 unfold X1z
 obtain ⟨w,h1,h2⟩:=X68 (W8 l l) l.length (fun i (_:Unit)=>(i:Int)) (fun _ _=>True) (fun w=>w = .inr ())
  (fun _ _=>⟨.inr (),by simp [W8,Wk],rfl⟩)
  (fun i _ hi _=>by
   right
   refine ⟨(),?_,trivial⟩
   have hw:IntKind.wrap .i64 ((i:Int)+1)=((i+1:Nat):Int):=by rw [w64]<;>omega
   have e1:decide ((i:Int)<↑l.length)=true:=by simp [hi]
   have e2:decide ((0:Int)≤↑i)=true:=by simp
   simp only [W8,Wk,Int.toNat_natCast,hw,e1,e2,Bool.and_self,cond_true,beq_self_eq_true,Bool.not_true,cond_false]) 0 () (by omega) trivial
 subst h2
 have h1':X2A l l 0=some (.inr ()):=h1
 rw [h1'];simp
theorem X86 (l:List ZE) (hl:l.length<1000000):X2p l l=some true:=by
 rw [X5n];unfold X28
 obtain ⟨w,h1,h2⟩:=X68 (Wy l l) l.length (fun i (_:Unit)=>(i:Int)) (fun _ _=>True) (fun w=>w = .inr ())
  (fun _ _=>⟨.inr (),by simp [Wy,WR],rfl⟩)
  (fun i _ hi _=>by
   right
   refine ⟨(),?_,trivial⟩
   have hw:IntKind.wrap .i64 ((i:Int)+1)=((i+1:Nat):Int):=by rw [w64]<;>omega
   have e1:decide ((i:Int)<↑l.length)=true:=by simp [hi]
   have e2:decide ((0:Int)≤↑i)=true:=by simp
   simp only [Wy,WR,Int.toNat_natCast,hw,e1,e2,Bool.and_self,cond_true,beq_self_eq_true,Bool.not_true,cond_false]) 0 () (by omega) trivial
 subst h2
 have h1':X2N l l 0=some (.inr ()):=h1
 rw [h1'];simp
theorem X7f (l:List Int) (hl:l.length<1000000):WD l l=some true:=by
 unfold WD
 obtain ⟨w,h1,h2⟩:=X68 (X11 l l) l.length (fun i (_:Unit)=>(i:Int)) (fun _ _=>True) (fun w=>w = .inr ())
  (fun _ _=>⟨.inr (),by simp [X11,X1b],rfl⟩)
  (fun i _ hi _=>by
   right
   refine ⟨(),?_,trivial⟩
   have hw:IntKind.wrap .i64 ((i:Int)+1)=((i+1:Nat):Int):=by rw [w64]<;>omega
   have e1:decide ((i:Int)<↑l.length)=true:=by simp [hi]
   have e2:decide ((0:Int)≤↑i)=true:=by simp
   simp only [X11,X1b,Int.toNat_natCast,hw,e1,e2,Bool.and_self,cond_true,bne_self_eq_false,cond_false]) 0 () (by omega) trivial
 subst h2
 have h1':X3l l l 0=some (.inr ()):=h1
 rw [h1'];simp

def X3o (f:ZJ) (l:List Zm) (p:Zu):List ZE:=(List.range f.Instruments.length).map (atN f l p 0 0).1
theorem X5Z (f:ZJ) (l:List Zm) (p:Zu):X2i f l p=some (if (XM f l).2=0 then (if X4 (-30000) 30000 [p.X,p.Y] then ([],7) else if (atN f l p 0 0).2 then (X3o f l p,0) else ([],9)) else ([],(XM f l).2)):=by
 rw [X6j];unfold X32
 rcases X6e f l with ⟨_,he,h0⟩|⟨kit,hg,h8,hk,he⟩
 ·rw [he]
  simp [h0,WE h0]
 ·rw [he]
  simp only [Option.bind_some,Sum.elim_inr]
  by_cases h0:(XM f l).2=0
  ·simp only [h0,bne_self_eq_false,cond_false,if_true]
   rw [X3 _ _ _ (by simp)]
   simp only [Option.bind_some]
   have hs:=X4j h0
   cases ho:X4 (-30000) 30000 [p.X,p.Y]
   ·simp only [cond_false,Bool.false_eq_true,if_false]
    obtain ⟨m',_,hp⟩:=X7R hg hs.each hs.len hk (X5R f) p 0 0
    have hp':Xy (0,⟨p.X,p.Y⟩,0,f,l,kit,[])=some ((atN f l p 0 0).1,(atN f l p 0 0).2,f,l,kit,m'):=hp
    first|rw [hp]|rw [hp']
    simp only [Option.bind_some]
    cases ha:(atN f l p 0 0).2
    ·simp
    ·have hI:=hg.inst
     have e1:decide ((0:Int)≤(f.Instruments.length:Int))=true:=by simp
     have e2:decide ((f.Instruments.length:Int)≤((4:Nat):Int))=true:=by simp;omega
     have e2':decide ((f.Instruments.length:Int)≤(4:Int))=true:=by simp;omega
     simp only [Bool.not_true,cond_false,e1,e2,e2',Bool.and_self,cond_true,if_true,Int.toNat_natCast]
     have hl:List.drop 0 (List.take f.Instruments.length (List.map (atN f l p 0 0).1 (List.range 4)))=X3o f l p:=by
      rw [List.drop_zero,←List.map_take,List.take_range,Nat.min_eq_left hI.2];rfl
     rw [hl,X1h]
     unfold X5
     have hlen:(X3o f l p).length=f.Instruments.length:=by unfold X3o;simp
     have e3:(X3o f l p).isEmpty=false:=by
      cases hsp:X3o f l p with
      | nil=>rw [hsp] at hlen;simp at hlen;omega
      | cons a b=>rfl
     have e4:Nat.ble ((0+(X3o f l p).length)*(16+1)) 200000000000000=true:=by apply Nat.ble_eq_true_of_le;omega
     rw [e3,e4];rfl
   ·simp
  ·simp [h0,WE h0]

theorem X7t {f:ZJ} (hg:Wn f) {l l':List Zm} (h:∀ x,x∈l↔x∈l') (p:Zu):(atN f l p 0 0).2=(atN f l' p 0 0).2:=by
 rw [Bool.eq_iff_iff]
 exact ⟨X8A hg fun x hx=>(h x).2 hx,X8A hg fun x hx=>(h x).1 hx⟩
theorem X6w {f:ZJ} (hg:Wn f) {l l':List Zm} (h:∀ x,x∈l↔x∈l'):X20 f l=X20 f l':=by
 unfold X20
 apply List.filter_congr
 intro p _
 exact X7t hg h p
theorem X83 {f:ZJ} (hg:Wn f) {l l':List Zm} (h:∀ x,x∈l↔x∈l') {p:Zu} (ha:(atN f l p 0 0).2=true):X3o f l p=X3o f l' p:=by
 unfold X3o
 apply List.map_congr_left
 intro i _
 have ha':(atN f l' p 0 0).2=true:=by rw [←X7t hg h];exact ha
 obtain ⟨h1,h2⟩:=X8c hg ha i
 obtain ⟨h3,h4⟩:=X8c hg ha' i
 have key:∀ v,inS v ((atN f l p 0 0).1 i)↔inS v ((atN f l' p 0 0).1 i):=fun v=>by
  rw [h2,h4]
  exact ⟨X7p fun x hx=>(h x).2 hx,X7p fun x hx=>(h x).1 hx⟩
 have a1:=(key ((atN f l p 0 0).1 i).Lo).1 ⟨Int.le_refl _,h1⟩
 have a2:=(key ((atN f l p 0 0).1 i).Hi).1 ⟨h1,Int.le_refl _⟩
 have a3:=(key ((atN f l' p 0 0).1 i).Lo).2 ⟨Int.le_refl _,h3⟩
 have a4:=(key ((atN f l' p 0 0).1 i).Hi).2 ⟨h3,Int.le_refl _⟩
 unfold inS at a1 a2 a3 a4
 apply ZE.ext<;>omega
theorem X8p {f:ZJ} {l l':List Zm} (h:∀ x,x∈l↔x∈l'):WZ f l=WZ f l':=by
 unfold WZ
 congr 1
 funext t
 unfold X3p
 rw [Bool.eq_iff_iff,List.any_eq_true,List.any_eq_true]
 constructor
 ·rintro ⟨x,h1,h2⟩;exact ⟨x,(h x).1 h1,h2⟩
 ·rintro ⟨x,h1,h2⟩;exact ⟨x,(h x).2 h1,h2⟩
theorem X84 {f:ZJ} (hg:Wn f) {l l':List Zm} (h:∀ x,x∈l↔x∈l'):X4B f l=X4B f l':=by
 unfold X4B
 have:okW f l=okW f l':=by
  funext s
  unfold okW
  rw [X6w hg (l:=X49 f l s) (l':=X49 f l' s) fun x=>by unfold X49;rw [List.mem_filter,List.mem_filter,h x]]
 rw [X8p h,this]

def atP (f:ZJ) (x:Z4):Zu:=⟨f.Step*(Int.tmod (x.Place 0) (2*f.Half+1)-f.Half),f.Step*(Int.tmod (x.Place 1) (2*f.Half+1)-f.Half)⟩
theorem X8P {f:ZJ} (hg:Wn f) (x:Z4) (hx:∀ j,j<2→0≤x.Place j∧x.Place j≤255):X2l f x=some (atP f x)∧atP f x∈X56 f:=by
 have hh:=hg.half
 have hst:=hg.step
 have h0:=hx 0 (by omega)
 have h1:=hx 1 (by omega)
 have t0:=X6a (x.Place 0) (2*f.Half+1) h0.1 (by omega)
 have t1:=X6a (x.Place 1) (2*f.Half+1) h1.1 (by omega)
 have b0:=X4y (a:=f.Step) (b:=Int.tmod (x.Place 0) (2*f.Half+1)-f.Half) 500 8 (by omega) (by omega) (by omega) (by omega)
 have b1:=X4y (a:=f.Step) (b:=Int.tmod (x.Place 1) (2*f.Half+1)-f.Half) 500 8 (by omega) (by omega) (by omega) (by omega)
 constructor
 ·rw [X6o];unfold X3i atP
  have w1:IntKind.wrap .i64 (IntKind.wrap .i64 (2*f.Half)+1)=2*f.Half+1:=by rw [w64 (x:=2*f.Half),w64]<;>omega
  rw [w1,X4c (by omega),show Int.toNat 0=0 from rfl,show Int.toNat 1=1 from rfl,w64 (x:=x.Place 0) (by omega) (by omega),w64 (x:=x.Place 1) (by omega) (by omega)]
  simp only [cond_false]
  rw [w64 (x:=Int.tmod (x.Place 0) (2*f.Half+1)-f.Half) (by omega) (by omega),w64 (x:=Int.tmod (x.Place 1) (2*f.Half+1)-f.Half) (by omega) (by omega),w64 (by omega) (by omega),w64 (by omega) (by omega)]
 ·rw [X7I hh.1]
  refine ⟨Int.tmod (x.Place 0) (2*f.Half+1)-f.Half,Int.tmod (x.Place 1) (2*f.Half+1)-f.Half,by omega,by omega,by omega,by omega,?_⟩
  unfold atP;rw [Int.mul_comm f.Step,Int.mul_comm f.Step]

theorem X7X {f:ZJ} (l:List Zm) (x:Z4) (hll:l.length≤8) (hx:∀ v∈x.Offs,0≤v∧v≤65535):∃ o,X2e l x (0,[])=some o∧(∀ y,y∈o↔y∈l)∧o.length=l.length:=by
 obtain ⟨w,h1,h2⟩:=X68 (XK l x) l.length (fun i (b:List Zm)=>((i:Int),b)) (fun i b=>b.length=i∧∀ y,y∈b↔y∈l.take i) (fun w=>(∀ y,y∈w↔y∈l)∧w.length=l.length)
  (fun b hb=>⟨b,by simp [XK,XV],by have:=hb.2;simpa using this,hb.1⟩)
  (fun i b hi hb=>by
   right
   obtain ⟨hb1,hb2⟩:=hb
   have hw:IntKind.wrap .i64 ((i:Int)+1)=((i+1:Nat):Int):=by rw [w64]<;>omega
   have e1:decide ((i:Int)<↑l.length)=true:=by simp [hi]
   have e2:decide ((0:Int)≤↑i)=true:=by simp
   obtain ⟨t1,c1,c2⟩:=X7N x.Offs hx i
   have m1:=X6a _ ((i+1:Nat):Int) c1 (by omega)
   obtain ⟨k,hk⟩:∃ k:Nat,Int.tmod (X6b x.Offs i) ((i+1:Nat):Int)=(k:Int):=⟨(Int.tmod (X6b x.Offs i) ((i+1:Nat):Int)).toNat,by omega⟩
   rw [hk] at m1
   have e3:(((i+1:Nat):Int)==0)=false:=X4c (by omega)
   have e4:decide ((0:Int)≤(k:Int))=true:=by simp
   have e5:decide ((k:Int)≤(b.length:Int))=true:=by simp;omega
   have b1:Nat.ble ((0+(List.drop 0 (List.take k b)).length)*(32+1)) 200000000000000=true:=by
    apply Nat.ble_eq_true_of_le;rw [List.drop_zero,List.length_take];omega
   have b2:Nat.ble ((([]++List.drop 0 (List.take k b)).length+[l[i]].length)*(32+1)) 200000000000000=true:=by
    apply Nat.ble_eq_true_of_le;rw [List.nil_append,List.drop_zero,List.length_take];simp only [List.length_cons,List.length_nil];omega
   have b3:Nat.ble ((([]++List.drop 0 (List.take k b)++[l[i]]).length+(List.drop k (List.take b.length b)).length)*(32+1)) 200000000000000=true:=by
    apply Nat.ble_eq_true_of_le;rw [List.nil_append,List.drop_zero,List.length_append,List.length_take,List.length_drop,List.length_take];simp only [List.length_cons,List.length_nil];omega
   simp only [XK,XV,t1,Option.bind_some,Int.toNat_natCast,X1 _ _ _ hi,hw,hk,e1,e2,e3,e4,e5,b1,b2,b3,Bool.and_self,cond_true,cond_false]
   refine ⟨_,rfl,?_,?_⟩
   ·simp only [List.nil_append,List.drop_zero,List.take_length,List.length_append,List.length_take,List.length_drop,List.length_cons,List.length_nil];omega
   ·intro y
    rw [List.take_succ_eq_append_getElem hi]
    simp only [List.nil_append,List.drop_zero,List.take_length,List.mem_append,List.mem_singleton,←hb2]
    have hy:y∈b↔y∈b.take k∨y∈b.drop k:=by
     conv=>lhs;rw [←List.take_append_drop k b]
     rw [List.mem_append]
    rw [hy]
    constructor
    ·rintro ((h|h)|h)
     ·exact .inl (.inl h)
     ·exact .inr h
     ·exact .inl (.inr h)
    ·rintro ((h|h)|h)
     ·exact .inl (.inl h)
     ·exact .inr h
     ·exact .inl (.inr h)) 0 [] (by omega) ⟨rfl,by simp⟩
 exact ⟨w,h1,h2⟩

theorem X75 (f:ZJ) (l:List Zm) (x:Z4) (hx:Z4.Ok limW x):X3j f l x=some true:=by
 have hp:∀ j,j<2→0≤x.Place j∧x.Place j≤255:=fun j hj=>X8W (hx.1 j hj)
 have ho:∀ v∈x.Offs,0≤v∧v≤65535:=fun v hv=>X8T (hx.2.1.2 v hv)
 rw [X4k];unfold X1a
 rw [X6Q]
 simp only [Option.bind_some]
 by_cases hc:(XM f l).2=0
 ·have hs:=X4j hc
  have hf:(X1W f).2.2=0:=by
   unfold XM at hc
   by_cases h1:(X1W f).2.2=0
   ·exact h1
   ·rw [if_pos h1] at hc;exact absurd hc h1
  simp only [hc,decide_true,Bool.not_true,cond_false]
  obtain ⟨o,h1,h2,h3⟩:=X7X (f:=f) l x hs.len ho
  rw [h1]
  simp only [Option.bind_some]
  have hat:=X8P hs.fix x hp
  have key:∀ o':List Zm,(∀ y,y∈l↔y∈o')→o'.length≤8→(Option.bind (X15 f l) fun r512↦Option.bind (X15 f o') fun r513↦Option.bind (X2l f x) fun r514↦Option.bind (X2i f l r514) fun r515↦Option.bind (X2l f x) fun r516↦Option.bind (X2i f o' r516) fun r517↦Option.bind (X1M f l) fun r518↦Option.bind (X1M f o') fun r519↦Option.bind (X1z r512.fst r513.fst) fun r520↦bif r520 then bif r512.snd==r513.snd then Option.bind (X2p r515.fst r517.fst) fun r521↦bif r521 then bif r515.snd==r517.snd then Option.bind (WD r518.fst r519.fst) fun r522↦bif r522 then Option.bind (WD r518.snd.fst r519.snd.fst) fun r523↦bif r523 then bif r518.snd.snd==r519.snd.snd then some true else some false else some false else some false else some false else some false else some false else some false)=some true:=fun o' hs' hl'=>by
   have hc':(XM f o').2=0:=X7S hf hl' fun y hy=>hs.each y ((hs' y).2 hy)
   rw [hat.1,X5f,X5f]
   simp only [Option.bind_some]
   rw [X5Z,X5Z]
   simp only [Option.bind_some]
   rw [X5I,X5I]
   simp only [Option.bind_some,hc,hc',if_true]
   have sp:(if X4 (-30000) 30000 [(atP f x).X,(atP f x).Y] then (([]:List ZE),(7:Int)) else if (atN f o' (atP f x) 0 0).2 then (X3o f o' (atP f x),0) else ([],9))=(if X4 (-30000) 30000 [(atP f x).X,(atP f x).Y] then (([]:List ZE),(7:Int)) else if (atN f l (atP f x) 0 0).2 then (X3o f l (atP f x),0) else ([],9)):=by
    rw [←X7t hs.fix hs']
    cases ha:(atN f l (atP f x) 0 0).2
    ·rfl
    ·rw [X83 hs.fix hs' ha]
   rw [sp,←X6w hs.fix hs',←X84 hs.fix hs']
   have n1:=X80 hs.fix l
   rw [X7J _ (by omega)]
   have ws:=X74 hs.fix hs.each
   have hln:=X8w f (X4B f l)
   have hul:=X8H hs.fix l
   have hwl:=ws.sub.length_le
   simp only [Option.bind_some,cond_true,beq_self_eq_true]
   rw [X86 _ (by
    have:(X3o f l (atP f x)).length≤4:=by unfold X3o;rw [List.length_map,List.length_range];exact hs.fix.inst.2
    split
    ·simp
    ·split
     ·simp only;omega
     ·simp)]
   simp only [Option.bind_some,cond_true]
   rw [X7f _ (by omega),X7f _ (by omega)]
   simp
  have hsm:∀ y,y∈l↔y∈o:=fun y=>(h2 y).symm
  have k0:=key o hsm (by rw [h3];exact hs.len)
  by_cases c0:l.length=0
  ·have e1:decide ((l.length:Int)>0)=false:=by simp;exact List.eq_nil_of_length_eq_zero c0
   rw [e1,cond_false];exact k0
  ·have e1:decide ((l.length:Int)>0)=true:=by simp only [decide_eq_true_eq];omega
   rw [e1,cond_true]
   by_cases c8:l.length<8
   ·have e2:decide ((l.length:Int)<8)=true:=by simp only [decide_eq_true_eq];omega
    obtain ⟨t1,d1,d2⟩:=X7N x.Offs ho 1
    have m1:=X6a _ (l.length:Int) d1 (by omega)
    obtain ⟨k,hk⟩:∃ k:Nat,Int.tmod (X6b x.Offs 1) (l.length:Int)=(k:Int):=⟨(Int.tmod (X6b x.Offs 1) (l.length:Int)).toNat,by omega⟩
    rw [hk] at m1
    have hkl:k<l.length:=by omega
    have e3:((l.length:Int)==0)=false:=X4c (by omega)
    have e4:decide ((0:Int)≤(k:Int))=true:=by simp
    have e5:decide ((k:Int)<(l.length:Int))=true:=by simp;omega
    have b1:Nat.ble ((o.length+[l[k]].length)*(32+1)) 200000000000000=true:=by
     apply Nat.ble_eq_true_of_le;simp only [List.length_cons,List.length_nil];omega
    rw [show (X3z x.Offs 1)=some (X6b x.Offs 1) from t1]
    simp only [e2,cond_true,Option.bind_some,e3,cond_false,hk,e4,e5,Bool.and_self,Int.toNat_natCast,X1 _ _ _ hkl,b1]
    refine key (o++[l[k]]) (fun y => ?_) (by rw [List.length_append];simp only [List.length_cons,List.length_nil];omega)
    rw [List.mem_append,List.mem_singleton,←hsm y]
    constructor
    ·exact .inl
    ·rintro (h|h)
     ·exact h
     ·rw [h];exact List.getElem_mem hkl
   ·have e2:decide ((l.length:Int)<8)=false:=by simp;omega
    rw [e2,cond_false];exact k0
 ·simp [hc]
end Nore
open Go Go.Ab Go.Proofs.Ytehofdemanfenaa
namespace Nore

end Nore
