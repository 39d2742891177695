/- The plain functions of the program and of the document answer alike. -/
import Derived.Test.YtehofdemanfenaaD
import Derived.Test.YtehofdemanfenaaY
set_option linter.unusedSectionVars false
set_option linter.unusedVariables false
set_option linter.unusedSimpArgs false
open Go Go.Ab
namespace Nore

theorem w64 {x:Int} (h1 : -9223372036854775808≤x) (h2:x≤9223372036854775807):IntKind.wrap .i64 x=x:=by
 simp only [IntKind.wrap,IntKind.signed,IntKind.bits]
 simp
 omega

theorem X2T {σ ω γ:Type} (st:σ→Option (σ⊕ω)) (k:ω→Option γ) (s:σ):Option.bind (Z8S st s) k=Option.bind (st s) (Sum.elim (fun s'=>Option.bind (Z8S st s') k) k):=by
 rw [ZgX]
 cases st s with
 | none=>rfl
 | some r=>cases r<;>rfl

theorem X4 {β σ ω γ:Type} (st:σ→Option (σ⊕ω)) (k:ω→Option γ) (n:Nat) (emb:Nat→β→σ) (P:Nat→β→Prop) (nice:Nat→β→Option γ)
  (hd:∀ b,P n b→∀ R:σ→Option γ,Option.bind (st (emb n b)) (Sum.elim R k)=nice n b)
  (hn:∀ i b,i<n→P i b→∀ R:σ→Option γ,(∀ b',P (i+1) b'→R (emb (i+1) b')=nice (i+1) b')→Option.bind (st (emb i b)) (Sum.elim R k)=nice i b) :
  ∀ i b,i≤n→P i b→Option.bind (Z8S st (emb i b)) k=nice i b:=by
 intro i b hi hP
 induction hj:n-i generalizing i b with
 | zero =>
  have:i=n:=by omega
  subst this
  rw [X2T];exact hd b hP _
 | succ j ih =>
  rw [X2T]
  exact hn i b (by omega) hP _ fun b' hb'=>ih (i+1) b' (by omega) hb' (by omega)

theorem X1y {γ:Type} (o:Option γ):Option.bind o (fun x=>some x)=o:=by cases o<;>rfl

theorem X53 {β σ ω:Type} (st:σ→Option (σ⊕ω)) (n:Nat) (emb:Nat→β→σ) (P:Nat→β→Prop) (nice:Nat→β→Option ω)
  (hd:∀ b,P n b→∀ R:σ→Option ω,Option.bind (st (emb n b)) (Sum.elim R some)=nice n b)
  (hn:∀ i b,i<n→P i b→∀ R:σ→Option ω,(∀ b',P (i+1) b'→R (emb (i+1) b')=nice (i+1) b')→Option.bind (st (emb i b)) (Sum.elim R some)=nice i b)
  (i:Nat) (b:β) (hi:i≤n) (hP:P i b):Z8S st (emb i b)=nice i b:=by
 rw [←X1y (Z8S st (emb i b))]
 exact X4 st some n emb P nice hd hn i b hi hP

theorem X4y {a b:Int} (h:¬ a=b):(a==b)=false:=beq_eq_false_iff_ne.2 h
theorem X1z {a b:Int} (h:¬ a=b):(a != b)=true:=bne_iff_ne.2 h

theorem X0 {α:Type} (l:List α) (i:Nat) (d:α) (h:i<l.length):l.getD i d=l[i]:=by simp [List.getD,h]

def X3 (lo hi:Int) (l:List Int):Bool:=l.any fun n=>decide (n<lo)||decide (n>hi)
@[simp] theorem X4W (lo hi:Int):X3 lo hi []=false:=rfl
@[simp] theorem X34 (lo hi n:Int) (l:List Int):X3 lo hi (n::l)=(decide (n<lo)||decide (n>hi)||X3 lo hi l):=rfl
def inN (n lo hi:Int):Bool:=decide (lo≤n)&&decide (n≤hi)

theorem Wo (lo up:Int) (l:List Int) (hl:l.length<1000000):WL lo up l=some (X3 lo up l):=by
 have key:=X4 (WM (↑l.length) l up lo) (fun o3=>Sum.elim (fun y4:Int=>some (decide (y4≥0))) (fun _=>some (decide ((-1:Int)≥0))) o3) l.length (fun i (_:Unit)=>(i:Int)) (fun _ _=>True) (fun i _=>some (X3 lo up (l.drop i)))
  (by
   intro b _ R
   simp [WM,WR])
  (by
   intro i b hi _ R hR
   have hR':=hR () trivial
   simp only [WM,WR]
   rw [List.drop_eq_getElem_cons hi]
   simp only [Int.toNat_natCast,X0 _ _ _ hi,X34]
   have hw:IntKind.wrap .i64 ((i:Int)+1)=((i+1:Nat):Int):=by rw [w64]<;>omega
   rw [hw]
   have h1:decide ((i:Int)<↑l.length)=true:=by simp [hi]
   have h2:decide ((0:Int)≤↑i)=true:=by simp
   simp only [h1,h2,Bool.and_self,cond_true]
   by_cases h3:l[i]<lo
   ·simp [h3]
   ·by_cases h4:l[i]>up
    ·simp [h3,h4]
    ·simp [h3,h4];exact hR')
 exact (key 0 () (by omega) trivial).trans (by simp)

theorem WX (n lo hi:Int):X1b n lo hi=some (inN n lo hi):=by
 unfold X1b inN
 by_cases h:lo≤n<;>simp [h]
end Nore
open Go Go.Ab
namespace Nore

def X4l:Int→List UInt8→Option Int
 | last,[]=>some last
 | last,c::l=>if 97≤(c.toNat:Int)∧(c.toNat:Int)≤122 then X4l c.toNat l else if (c.toNat:Int)≠45∨last=45 then none else X4l c.toNat l
def X3u:Option Int→Bool
 | none=>false
 | some last=>last != 45
def X4m (s:ByteArray):Bool:=decide (s.size≤14)&&X3u (X4l 45 s.toList)

theorem X6u (s:ByteArray) (i:Nat) (h:(s.get! i).toNat<128):Utf8.decode s i=((s.get! i).toNat,1):=by
 unfold Utf8.decode;simp only [Nat.add_zero];rw [if_pos h]
theorem X6t (s:ByteArray) (i:Nat) (h:¬ (s.get! i).toNat<128):128≤(Utf8.decode s i).1:=by
 unfold Utf8.decode
 simp only [Nat.add_zero,Utf8.runeError]
 rw [if_neg h]
 repeat' split
 all_goals simp_all
 all_goals omega

theorem X1c (s:ByteArray):s.toList.length=s.size:=by rw [ByteArray.toList_eq];rfl
theorem X6b (s:ByteArray) (i:Nat) (h:i<s.toList.length):s.get! i=s.toList[i]:=by
 have hs:i<s.size:=by rw [←X1c];exact h
 simp only [ByteArray.toList_eq]
 show s.data[i]! = _
 have h2:i<s.data.size:=hs
 rw [getElem!_pos s.data i h2]
 rfl

theorem X3A (s:ByteArray):X20 s=some (X4m s):=by
 have key:=X4 (Wr s s) (fun o0=>Sum.elim (fun y1:Bool×Nat=>some y1.fst) (fun y2:Int×Nat=>bif decide ((↑(ByteArray.size s):Int)≤14) then some (y2.fst != 45) else some false) o0) s.toList.length (fun i (b:Int)=>(b,i)) (fun _ _=>True) (fun i b=>some (decide (s.size≤14)&&X3u (X4l b (s.toList.drop i))))
  (by
   intro b _ R
   have hh:(decide ((↑s.size:Int)≤14))=decide (s.size≤14):=by rw [decide_eq_decide];omega
   have hd:s.toList.drop s.size=[]:=List.drop_eq_nil_of_le (by rw [X1c];exact Nat.le_refl _)
   simp only [hd,X4l,X3u,Wr,Wt,X1c,hh,Nat.lt_irrefl,decide_false,cond_false,Option.bind_some,Sum.elim_inr]
   cases decide (s.size≤14)<;>simp)
  (by
   intro i b hi _ R hR
   have hs:i<s.size:=by rw [←X1c];exact hi
   have hg:=X6b s i hi
   simp only [Wr,Wt]
   rw [List.drop_eq_getElem_cons hi]
   simp only [X4l]
   by_cases h:(s.get! i).toNat<128
   ·rw [X6u s i h]
    have hR':=hR ((s.get! i).toNat:Int) trivial
    rw [hg] at *
    generalize s.toList[i]=c at *
    simp only [hs,decide_true,cond_true]
    by_cases h1:97≤(c.toNat:Int)
    ·have q1:decide ((c.toNat:Int)≥97)=true:=decide_eq_true h1
     by_cases h2:(c.toNat:Int)≤122
     ·have q2:decide ((c.toNat:Int)≤122)=true:=decide_eq_true h2
      simp only [decide_true,decide_false,q1,q2,cond_true,Option.bind_some,Sum.elim_inl,h1,h2,and_self,if_true]
      exact hR'
     ·have q2:decide ((c.toNat:Int)≤122)=false:=decide_eq_false h2
      have h3:¬ ((c.toNat:Int)=45):=by omega
      have q3:((c.toNat:Int) != 45)=true:=bne_iff_ne.2 h3
      simp only [decide_true,decide_false,q1,q2,q3,cond_true,cond_false,Option.bind_some,Sum.elim_inl,Sum.elim_inr,h2,and_false,if_false,ne_eq,h3,not_false_iff,true_or,if_true,X3u,Bool.and_false]
    ·have q1:decide ((c.toNat:Int)≥97)=false:=decide_eq_false h1
     by_cases h3:(c.toNat:Int)=45
     ·have q3:((c.toNat:Int) != 45)=false:=by rw [h3];rfl
      by_cases h4:b=45
      ·have q4:(b==45)=true:=by rw [h4];rfl
       rw [q1,q3,q4,if_neg (fun hc=>h1 hc.1),if_pos (Or.inr h4)]
       simp [X3u]
      ·have q4:(b==45)=false:=beq_eq_false_iff_ne.2 h4
       simp only [decide_true,decide_false,q1,q3,q4,cond_true,cond_false,Option.bind_some,Sum.elim_inl,Sum.elim_inr,h1,false_and,if_false,h4,ne_eq,h3,not_true,or_self,if_true]
       rw [h3] at hR'
       exact hR'
     ·have q3:((c.toNat:Int) != 45)=true:=bne_iff_ne.2 h3
      simp only [decide_true,decide_false,q1,q3,cond_true,cond_false,Option.bind_some,Sum.elim_inl,Sum.elim_inr,h1,false_and,if_false,ne_eq,h3,not_false_iff,true_or,if_true,X3u,Bool.and_false]
   ·have h':=X6t s i h
    rw [hg] at h
    generalize s.toList[i]=c at *
    simp only [hs,decide_true,cond_true]
    generalize (Utf8.decode s i)=d at *
    have e1:((d.1:Nat):Int)≥97:=by omega
    have e2:¬ ((d.1:Nat):Int)≤122:=by omega
    have e3:¬ ((d.1:Nat):Int)=45:=by omega
    have e4:¬ ((c.toNat:Int)≤122):=by omega
    have e5:¬ ((c.toNat:Int)=45):=by omega
    have q1:decide (((d.1:Nat):Int)≥97)=true:=decide_eq_true e1
    have q2:decide (((d.1:Nat):Int)≤122)=false:=decide_eq_false e2
    have q3:(((d.1:Nat):Int) != 45)=true:=bne_iff_ne.2 e3
    simp only [decide_true,decide_false,q1,q2,q3,cond_true,cond_false,Option.bind_some,Sum.elim_inl,Sum.elim_inr,e4,and_false,if_false,ne_eq,e5,not_false_iff,true_or,if_true,X3u,Bool.and_false])
 exact (key 0 45 (by omega) trivial).trans (by simp [X4m])

theorem X5I (s:ByteArray):X3h s=some (X4m s):=by
 unfold X3h
 rw [WX]
 simp only [Option.bind_some]
 by_cases hsz:1≤s.size∧s.size≤14
 ·have e1:inN (↑s.size) 1 14=true:=by simp [inN];omega
  rw [e1]
  simp only [Bool.not_true,cond_false]
  have hl:=X1c s
  have key:=X4 (Ws s) (fun o0=>Sum.elim (fun y76:Bool=>some y76) (fun _:Unit=>some true) o0) s.toList.length (fun i (_:Int)=>(i:Int)) (fun i b=>b=if i=0 then 45 else ((s.toList.getD (i-1) 0).toNat:Int)) (fun i b=>some (if i<s.toList.length then X3u (X4l b (s.toList.drop i)) else true))
   (by
    intro b _ R
    simp [Ws,WB,X1c])
   (by
    intro i b hi hP R hR
    have hs:i<s.size:=by rw [←X1c];exact hi
    simp only [Ws,WB]
    rw [List.drop_eq_getElem_cons hi]
    have hR':=hR ((s.toList[i]).toNat:Int) (by simp [List.getD,hi])
    have hw:IntKind.wrap .i64 ((i:Int)+1)=((i+1:Nat):Int):=by rw [w64]<;>omega
    have hw1:IntKind.wrap .i64 ((i:Int)-1)=((i:Int)-1):=by rw [w64]<;>omega
    have hw2:IntKind.wrap .i64 ((s.size:Int)-1)=((s.size:Int)-1):=by rw [w64]<;>omega
    simp only [X4l,Int.toNat_natCast,X0 _ _ _ hi,hw,hw1,hw2]
    have d1:decide ((i:Int)<↑s.size)=true:=by simp [hs]
    have d2:decide ((0:Int)≤↑i)=true:=by simp
    simp only [d1,d2,Bool.and_self,cond_true,hi,if_true]
    generalize hc:s.toList[i]=c at *
    by_cases h1:97≤(c.toNat:Int)∧(c.toNat:Int)≤122
    ·have q1:decide ((c.toNat:Int)≥97)=true:=decide_eq_true h1.1
     have q2:decide ((c.toNat:Int)≤122)=true:=decide_eq_true h1.2
     simp only [decide_true,decide_false,q1,q2,cond_true,Option.bind_some,Sum.elim_inl,h1,and_self,if_true]
     have hne:¬ ((c.toNat:Int)=45):=by omega
     rw [hR']
     by_cases hi2:i+1<s.toList.length
     ·simp [hi2]
     ·have:s.toList.drop (i+1)=[]:=List.drop_eq_nil_of_le (by omega)
      simp [hi2,this,X4l,X3u,hne]
    ·have g:(bif decide ((c.toNat:Int)≥97) then bif decide ((c.toNat:Int)≤122) then true else false else false)=false:=by
      by_cases a1:(c.toNat:Int)≥97
      ·by_cases a2:(c.toNat:Int)≤122
       ·exact absurd ⟨a1,a2⟩ h1
       ·simp [a1,a2]
      ·simp [a1]
     have g2:∀ (Z:Type) (x y:Z),(bif decide ((c.toNat:Int)≥97) then bif decide ((c.toNat:Int)≤122) then x else y else y)=y:=by
      intro Z x y
      by_cases a1:(c.toNat:Int)≥97
      ·by_cases a2:(c.toNat:Int)≤122
       ·exact absurd ⟨a1,a2⟩ h1
       ·simp [a1,a2]
      ·simp [a1]
     rw [g2,if_neg h1]
     by_cases h2:(c.toNat:Int)=45
     ·simp only [h2,bne_self_eq_false,cond_false]
      by_cases h3:i=0
      ·subst h3
       simp [hP,X3u]
      ·by_cases h4:i+1=s.size
       ·have:s.toList.drop (i+1)=[]:=List.drop_eq_nil_of_le (by omega)
        have e5:(i:Int)=(s.size:Int)-1:=by omega
        have e6:((s.size:Int)-1==0)=false:=by simp;omega
        simp only [e5,e6,this,X4l]
        by_cases h5:b=45<;>simp [h5,X3u]
       ·have e5:((i:Int)==(s.size:Int)-1)=false:=by simp;omega
        have e6:((i:Int)==0)=false:=by simp;omega
        have e7:(0:Int)≤(i:Int)-1:=by omega
        have e8:(i:Int)-1<(s.size:Int):=by omega
        have e9:((i:Int)-1).toNat=i-1:=by omega
        simp only [e5,e6,e7,e8,e9,cond_false,decide_true,Bool.and_self,cond_true]
        simp only [h3,if_false] at hP
        rw [←hP]
        by_cases h5:b=45
        ·simp [h5,X3u]
        ·have q5:(b==45)=false:=beq_eq_false_iff_ne.2 h5
         rw [h2] at hR'
         rw [q5]
         simp only [cond_false,Option.bind_some,Sum.elim_inl,ne_eq,not_true,false_or,h5,if_false]
         rw [hR']
         simp [show i+1<s.toList.length by omega]
     ·have:((c.toNat:Int) != 45)=true:=by simp [h2]
      simp [this,h2,X3u])
  have:=key 0 45 (by omega) (by simp)
  refine this.trans ?_
  simp [X4m,show 0<s.toList.length by omega,hsz.2]
 ·have e1:inN (↑s.size) 1 14=false:=by
   simp [inN];omega
  rw [e1]
  simp only [Bool.not_false,cond_true,X4m]
  by_cases h:s.size≤14
  ·have h0:s.toList=[]:=by
    apply List.eq_nil_of_length_eq_zero;rw [X1c];omega
   simp [h0,X4l,X3u]
  ·simp [h]

end Nore
open Go Go.Ab
namespace Nore

def X2D (m:Int) (p:Zu):Bool:=X3 (-m) m [p.X,p.Y]
def X3v:Int→List Zk→Int
 | _,[]=>0
 | last,p::l=>if X3 0 40000 [p.Day]||X3 0 4 [p.Colour] then 7 else if p.Day≤last then 2 else X3v p.Day l
def X2z (l:List Zk):Int:=if X3 1 4 [(l.length:Int)] then 3 else X3v (-1) l
def X5O (b:ZB) (m w:Int):Int:=if X3 (-m) m [b.X.Lo,b.X.Hi,b.Y.Lo,b.Y.Hi] then 7 else if X3 0 w [b.X.Hi-b.X.Lo,b.Y.Hi-b.Y.Lo] then 2 else 0

theorem X1K (n lo hi:Int):inN n lo hi = !X3 lo hi [n]:=by
 simp only [inN,X34,X4W,Bool.or_false,Bool.not_or]
 congr 1<;>rw [←decide_not,decide_eq_decide]<;>omega

theorem X3P (m:Int) (hm:0≤m∧m≤1000000) (l:List Zu) (hl:l.length<1000000):X33 m l=some (l.any (X2D m)):=by
 have hm1:IntKind.wrap .i64 (0-m) = -m:=by rw [w64]<;>omega
 have key:=X4 (WK (↑l.length) l m) (fun o7=>Sum.elim (fun y8:Int×Zu×(List Int)=>some (decide (y8.fst≥0))) (fun _=>some (decide ((-1:Int)≥0))) o7) l.length (fun i (_:Unit)=>(i:Int)) (fun _ _=>True) (fun i _=>some ((l.drop i).any (X2D m)))
  (by
   intro b _ R
   simp [WK,WQ])
  (by
   intro i b hi _ R hR
   have hR':=hR () trivial
   simp only [WK,WQ]
   rw [List.drop_eq_getElem_cons hi]
   have hw:IntKind.wrap .i64 ((i:Int)+1)=((i+1:Nat):Int):=by rw [w64]<;>omega
   simp only [Int.toNat_natCast,X0 _ _ _ hi,List.any_cons,hm1,hw]
   rw [Wo _ _ _ (by simp)]
   have h1:decide ((i:Int)<↑l.length)=true:=by simp [hi]
   have h2:decide ((0:Int)≤↑i)=true:=by simp
   simp only [h1,h2,Bool.and_self,cond_true,Option.bind_some]
   change Option.bind (bif X2D m l[i] then _ else _) _=_
   cases h3:X2D m l[i]
   ·simp;exact hR'
   ·simp)
 exact (key 0 () (by omega) trivial).trans (by simp)

theorem X46 (p:Zu) (m:Int) (hm:0≤m∧m≤1000000):X1L p m=some (!X2D m p):=by
 have hm1:IntKind.wrap .i64 (0-m) = -m:=by rw [w64]<;>omega
 unfold X1L
 rw [WX,WX,hm1,X1K,X1K]
 simp only [Option.bind_some,X2D,X34,X4W,Bool.or_false]
 cases (decide (p.X < -m)||decide (p.X>m))<;>simp

theorem X5j (l:List Zk):X2g l=some (X2z l):=by
 unfold X2g X2z
 rw [Wo _ _ _ (by simp)]
 simp only [Option.bind_some]
 cases hb:X3 1 4 [(l.length:Int)]
 ·simp only [cond_false,Bool.false_eq_true,if_false]
  have hl:1≤l.length∧l.length≤4:=by simp at hb;omega
  exact X4 (XD (↑l.length) l [↑l.length]) _ l.length (fun i (b:Int)=>(b,(i:Int))) (fun _ _=>True) (fun i b=>some (X3v b (l.drop i)))
   (by
    intro b _ R
    simp [XD,XM,X3v])
   (by
    intro i b hi _ R hR
    have hR':=hR (l[i].Day) trivial
    simp only [XD,XM]
    rw [List.drop_eq_getElem_cons hi]
    have hw:IntKind.wrap .i64 ((i:Int)+1)=((i+1:Nat):Int):=by rw [w64]<;>omega
    simp only [Int.toNat_natCast,X0 _ _ _ hi,X3v,hw]
    rw [Wo _ _ _ (by simp),Wo _ _ _ (by simp)]
    have h1:decide ((i:Int)<↑l.length)=true:=by simp [hi]
    have h2:decide ((0:Int)≤↑i)=true:=by simp
    simp only [h1,h2,Bool.and_self,cond_true,Option.bind_some]
    cases h3:X3 0 40000 [l[i].Day]
    ·cases h4:X3 0 4 [l[i].Colour]
     ·by_cases h5:l[i].Day≤b
      ·simp [h5]
      ·simp [h5];exact hR'
     ·simp
    ·simp) 0 (-1) (by omega) trivial
 ·simp

theorem X5m (l:List Zk):X1M l=some (X2z l):=by
 unfold X1M X2z
 rw [WX,X1K]
 simp only [Option.bind_some]
 cases hb:X3 1 4 [(l.length:Int)]
 ·simp only [Bool.not_false,Bool.not_true,cond_false,Bool.false_eq_true,if_false]
  have hl:1≤l.length∧l.length≤4:=by simp at hb;omega
  exact X4 (XH l) _ l.length (fun i (_:Int)=>(i:Int)) (fun i b=>b=if i=0 then -1 else (l.getD (i-1) ⟨0,0⟩).Day) (fun i b=>some (X3v b (l.drop i)))
   (by
    intro b _ R
    simp [XH,XQ,X3v])
   (by
    intro i b hi hP R hR
    have hR':=hR (l[i].Day) (by simp [List.getD,hi])
    simp only [XH,XQ]
    rw [List.drop_eq_getElem_cons hi]
    have hw:IntKind.wrap .i64 ((i:Int)+1)=((i+1:Nat):Int):=by rw [w64]<;>omega
    have hw1:IntKind.wrap .i64 ((i:Int)-1)=((i:Int)-1):=by rw [w64]<;>omega
    simp only [Int.toNat_natCast,X0 _ _ _ hi,X3v,hw,hw1]
    rw [WX,WX,X1K,X1K]
    have h1:decide ((i:Int)<↑l.length)=true:=by simp [hi]
    have h2:decide ((0:Int)≤↑i)=true:=by simp
    simp only [h1,h2,Bool.and_self,cond_true,Option.bind_some]
    cases h3:X3 0 40000 [l[i].Day]
    ·cases h4:X3 0 4 [l[i].Colour]
     ·by_cases h0:i=0
      ·subst h0
       simp at hP h3
       have h5:¬ l[0].Day≤b:=by omega
       simp [h5];simpa using hR'
      ·have e7:(0:Int)≤(i:Int)-1:=by omega
       have e8:(i:Int)-1<(l.length:Int):=by omega
       have e9:((i:Int)-1).toNat=i-1:=by omega
       have e10:(i:Int)>0:=by omega
       simp only [e7,e8,e9,e10,decide_true,Bool.and_self,cond_true]
       simp only [h0,if_false] at hP
       rw [←hP]
       by_cases h5:l[i].Day≤b
       ·simp [h5]
       ·simp [h5];exact hR'
     ·simp
    ·simp) 0 (-1) (by omega) (by simp)
 ·simp

theorem X5P (b:ZB) (m:Int) (hm:0≤m∧m≤1000000):X3F b m=some (X5O b m 40):=by
 have hm1:IntKind.wrap .i64 (0-m) = -m:=by rw [w64]<;>omega
 unfold X3F X5O
 rw [Wo _ _ _ (by simp),hm1]
 simp only [Option.bind_some]
 cases hb:X3 (-m) m [b.X.Lo,b.X.Hi,b.Y.Lo,b.Y.Hi]
 ·simp at hb
  have h1:IntKind.wrap .i64 (b.X.Hi-b.X.Lo)=b.X.Hi-b.X.Lo:=by rw [w64]<;>omega
  have h2:IntKind.wrap .i64 (b.Y.Hi-b.Y.Lo)=b.Y.Hi-b.Y.Lo:=by rw [w64]<;>omega
  rw [h1,h2,Wo _ _ _ (by simp)]
  simp only [Option.bind_some,cond_false,Bool.false_eq_true,if_false]
  cases X3 0 40 [b.X.Hi-b.X.Lo,b.Y.Hi-b.Y.Lo]<;>simp
 ·simp

def X1N (lo hi:Int):Int→List ZE→Int
 | e,[]=>e
 | e,s::l=>if X3 lo hi [s.Lo,s.Hi] then 7 else X1N lo hi (if s.Lo>s.Hi then 2 else e) l

theorem X1Y (l:List ZE) (lo hi:Int) (hl:l.length<1000000):X1j l lo hi=some (X1N lo hi 0 l):=by
 unfold X1j
 exact X4 (XG lo l hi) _ l.length (fun i (b:Int)=>(b,(i:Int))) (fun _ _=>True) (fun i b=>some (X1N lo hi b (l.drop i)))
   (by
    intro b _ R
    simp [XG,XP,X1N])
   (by
    intro i b hi' _ R hR
    simp only [XG,XP]
    rw [List.drop_eq_getElem_cons hi']
    have hw:IntKind.wrap .i64 ((i:Int)+1)=((i+1:Nat):Int):=by rw [w64]<;>omega
    simp only [Int.toNat_natCast,X0 _ _ _ hi',X1N,hw]
    rw [WX,WX,X1K,X1K]
    have h1:decide ((i:Int)<↑l.length)=true:=by simp [hi']
    have h2:decide ((0:Int)≤↑i)=true:=by simp
    simp only [h1,h2,Bool.and_self,cond_true,Option.bind_some]
    have hsplit:X3 lo hi [l[i].Lo,l[i].Hi]=(X3 lo hi [l[i].Lo]||X3 lo hi [l[i].Hi]):=by simp
    rw [hsplit]
    cases h3:X3 lo hi [l[i].Lo]
    ·cases h4:X3 lo hi [l[i].Hi]
     ·by_cases h5:l[i].Lo>l[i].Hi
      ·have:=hR 2 trivial
       simp only [h5];simp;simpa using this
      ·have:=hR b trivial
       simp only [h5];simp;simpa using this
     ·simp
    ·simp) 0 0 (by omega) trivial

theorem X6l (b:ZB) (m w:Int) (hw:0≤w):(let e:=X1N (-m) m 0 [b.X,b.Y];if e=0 then (if b.X.Hi-b.X.Lo>w then 2 else if b.Y.Hi-b.Y.Lo>w then 2 else 0) else e)=X5O b m w:=by
 simp only [X1N,X5O,X34,X4W,Bool.or_false]
 generalize b.X.Lo=x,b.X.Hi=X,b.Y.Lo=y,b.Y.Hi=Y
 by_cases a1:x < -m∨x>m∨X < -m∨X>m
 ·have e1:(decide (x < -m)||decide (x>m)||(decide (X < -m)||decide (X>m)))=true:=by simp;omega
  have e2:(decide (x < -m)||decide (x>m)||(decide (X < -m)||decide (X>m)||(decide (y < -m)||decide (y>m)||(decide (Y < -m)||decide (Y>m)))))=true:=by simp;omega
  rw [e1,e2];simp
 ·have e1:(decide (x < -m)||decide (x>m)||(decide (X < -m)||decide (X>m)))=false:=by simp;omega
  rw [e1]
  by_cases a2:y < -m∨y>m∨Y < -m∨Y>m
  ·have e2:(decide (y < -m)||decide (y>m)||(decide (Y < -m)||decide (Y>m)))=true:=by simp;omega
   have e3:(decide (x < -m)||decide (x>m)||(decide (X < -m)||decide (X>m)||(decide (y < -m)||decide (y>m)||(decide (Y < -m)||decide (Y>m)))))=true:=by simp;omega
   rw [e3,e2];simp
  ·have e2:(decide (y < -m)||decide (y>m)||(decide (Y < -m)||decide (Y>m)))=false:=by simp;omega
   have e3:(decide (x < -m)||decide (x>m)||(decide (X < -m)||decide (X>m)||(decide (y < -m)||decide (y>m)||(decide (Y < -m)||decide (Y>m)))))=false:=by simp;omega
   rw [e3,e2]
   simp only [Bool.false_eq_true,if_false]
   by_cases b1:Y<y
   ·have e4:(decide (X-x<0)||decide (X-x>w)||(decide (Y-y<0)||decide (Y-y>w)))=true:=by simp;omega
    rw [e4]
    simp [b1]
   ·by_cases b2:X<x
    ·have e4:(decide (X-x<0)||decide (X-x>w)||(decide (Y-y<0)||decide (Y-y>w)))=true:=by simp;omega
     rw [e4]
     simp [b1,b2]
    ·simp only [gt_iff_lt,b1,b2,if_false]
     by_cases b3:X-x>w
     ·have e4:(decide (X-x<0)||decide (w<X-x)||(decide (Y-y<0)||decide (w<Y-y)))=true:=by simp;omega
      rw [e4];simp;omega
     ·by_cases b4:Y-y>w
      ·have e4:(decide (X-x<0)||decide (w<X-x)||(decide (Y-y<0)||decide (w<Y-y)))=true:=by simp;omega
       rw [e4];simp;omega
      ·have e4:(decide (X-x<0)||decide (w<X-x)||(decide (Y-y<0)||decide (w<Y-y)))=false:=by simp;omega
       rw [e4];simp;omega

theorem X6B (lo hi:Int) (b:ZB) (h:X1N lo hi 0 [b.X,b.Y]=0):lo≤b.X.Lo∧b.X.Hi≤hi∧b.X.Lo≤b.X.Hi∧lo≤b.Y.Lo∧b.Y.Hi≤hi∧b.Y.Lo≤b.Y.Hi:=by
 simp only [X1N,X34,X4W,Bool.or_false] at h
 split at h
 ·simp at h
 ·split at h
  ·simp at h
  ·rename_i h1 h2
   simp at h1 h2
   split at h
   ·simp at h
   ·split at h
    ·simp at h
    ·omega

theorem X5V (b:ZB) (m:Int) (hm:0≤m∧m≤1000000):X3M b (-m) m=some (X5O b m 40):=by
 unfold X3M
 rw [X1Y _ _ _ (by simp)]
 rw [←X6l b m 40 (by omega)]
 simp only [Option.bind_some]
 by_cases h:X1N (-m) m 0 [b.X,b.Y]=0
 ·have hb:=X6B _ _ _ h
  have h1:IntKind.wrap .i64 (b.X.Hi-b.X.Lo)=b.X.Hi-b.X.Lo:=by rw [w64]<;>omega
  have h2:IntKind.wrap .i64 (b.Y.Hi-b.Y.Lo)=b.Y.Hi-b.Y.Lo:=by rw [w64]<;>omega
  rw [h1,h2,h]
  by_cases h3:b.X.Hi-b.X.Lo>40
  ·simp [h3]
  ·by_cases h4:b.Y.Hi-b.Y.Lo>40<;>simp [h3,h4]
 ·have h':(X1N (-m) m 0 [b.X,b.Y]==0)=false:=beq_eq_false_iff_ne.2 h
  rw [h',if_neg h];rfl

end Nore
open Go Go.Ab
namespace Nore

theorem X3C {a b:Int} (A B:Int) (h1 : -A≤a) (h2:a≤A) (h3 : -B≤b) (h4:b≤B) : -(A*B)≤a*b∧a*b≤A*B:=by
 have p1:=Int.mul_nonneg (show 0≤A-a by omega) (show 0≤B+b by omega)
 have p2:=Int.mul_nonneg (show 0≤A+a by omega) (show 0≤B-b by omega)
 have p3:=Int.mul_nonneg (show 0≤A-a by omega) (show 0≤B-b by omega)
 have p4:=Int.mul_nonneg (show 0≤A+a by omega) (show 0≤B+b by omega)
 constructor<;>grind

def X1H (p:Nat→Bool):Nat→Nat→Bool
 | _,0=>true
 | i,k+1=>p i&&X1H p (i+1) k

theorem X55 (p:Nat→Bool) (k i:Nat):X1H p i k=true↔∀ j,i≤j→j<i+k→p j=true:=by
 induction k generalizing i with
 | zero=>simp [X1H];intro j h1 h2;omega
 | succ k ih =>
  simp only [X1H,Bool.and_eq_true,ih]
  constructor
  ·rintro ⟨h1,h2⟩ j h3 h4
   by_cases h:j=i
   ·subst h;exact h1
   ·exact h2 j (by omega) (by omega)
  ·intro h
   exact ⟨h i (by omega) (by omega),fun j h1 h2=>h j (by omega) (by omega)⟩

def Xt (a b:Zu):Zu:=⟨a.X-b.X,a.Y-b.Y⟩
def X1a (a b:Zu):Int:=a.X*b.Y-a.Y*b.X
def P0:Zu:=⟨0,0⟩
def X5M (l:List Zu) (i:Nat):Bool :=
 X1H (fun m=>m==i||m==(i+1) % l.length||decide (0<X1a (Xt (l.getD ((i+1) % l.length) P0) (l.getD i P0)) (Xt (l.getD m P0) (l.getD i P0)))) 0 l.length
def X52 (l:List Zu):Bool:=X1H (X5M l) 0 l.length
def X4Z (s:CtSand):Int :=
 if X3 3 8 [(s.Corners.length:Int)] then 3 else if s.Corners.any (X2D 10000) then 7 else if X5O s.Moves 500 40=0 then (if X52 s.Corners then 0 else 9) else X5O s.Moves 500 40

def Bd (A:Int) (p:Zu):Prop := -A≤p.X∧p.X≤A ∧ -A≤p.Y∧p.Y≤A
theorem X4L (A:Int) (p:Zu):X2D A p=false↔Bd A p:=by
 simp [X2D,Bd];omega
theorem X4s {A:Int} {l:List Zu} (h:l.any (X2D A)=false) (i:Nat) (hi:i<l.length):Bd A l[i]:=by
 rw [List.any_eq_false] at h
 rw [←X4L]
 simpa using h l[i] (List.getElem_mem hi)

theorem X5h {a b:Int} (A:Int) (hA:A≤1000000) (h1 : -A≤a∧a≤A) (h2 : -A≤b∧b≤A):IntKind.wrap .i64 (a-b)=a-b:=by rw [w64]<;>omega
theorem X6I {a b c d:Int} (A:Int) (hA:A=2000000) (h1 : -A≤a∧a≤A) (h2 : -A≤b∧b≤A) (h3 : -A≤c∧c≤A) (h4 : -A≤d∧d≤A):IntKind.wrap .i64 (IntKind.wrap .i64 (a*b)-IntKind.wrap .i64 (c*d))=a*b-c*d:=by
 subst hA
 have p:=X3C _ _ h1.1 h1.2 h2.1 h2.2
 have q:=X3C _ _ h3.1 h3.2 h4.1 h4.2
 rw [w64 (x:=a*b),w64 (x:=c*d),w64]<;>omega

theorem X5L (l:List Zu) (hl:3≤l.length∧l.length≤8) (hf:l.any (X2D 10000)=false) (i:Nat) (hi:i<l.length) :
  X1k (i:Int) l (((i+1) % l.length:Nat):Int) 0=some (if X5M l i then .inr () else .inl false):=by
 have hk:(i+1) % l.length<l.length:=Nat.mod_lt _ (by omega)
 unfold X5M
 generalize hkk:(i+1) % l.length=k at *
 have key:=X53 (W3 (i:Int) l (k:Int)) l.length (fun j (_:Unit)=>(j:Int)) (fun _ _=>True) (fun j _=>some (if X1H (fun m=>m==i||m==k||decide (0<X1a (Xt (l.getD k P0) (l.getD i P0)) (Xt (l.getD m P0) (l.getD i P0)))) j (l.length-j) then .inr () else .inl false))
  (by
   intro b _ R
   simp [W3,Wk,X1H])
  (by
   intro m b hm _ R hR
   have hR':=hR () trivial
   rw [show l.length-m=(l.length-(m+1))+1 by omega]
   simp only [X1H]
   simp only [W3,Wk]
   have hw:IntKind.wrap .i64 ((m:Int)+1)=((m+1:Nat):Int):=by rw [w64]<;>omega
   simp only [Int.toNat_natCast,X0 _ _ _ hm,X0 _ _ _ hi,X0 _ _ _ hk,hw]
   have b1:=X4s hf m hm
   have b2:=X4s hf i hi
   have b3:=X4s hf k hk
   unfold Bd at b1 b2 b3
   rw [X5h 10000 (by omega) ⟨b3.1,b3.2.1⟩ ⟨b2.1,b2.2.1⟩,X5h 10000 (by omega) b1.2.2 b2.2.2,X5h 10000 (by omega) b3.2.2 b2.2.2,X5h 10000 (by omega) ⟨b1.1,b1.2.1⟩ ⟨b2.1,b2.2.1⟩]
   rw [X6I 2000000 rfl (by omega) (by omega) (by omega) (by omega)]
   have d1:decide ((m:Int)<↑l.length)=true:=by simp [hm]
   have d2:decide ((0:Int)≤↑m)=true:=by simp
   have d3:decide ((i:Int)<↑l.length)=true:=by simp [hi]
   have d4:decide ((0:Int)≤↑i)=true:=by simp
   have d5:decide ((k:Int)<↑l.length)=true:=by simp [hk]
   have d6:decide ((0:Int)≤↑k)=true:=by simp
   simp only [d1,d2,d3,d4,d5,d6,Bool.and_self,cond_true]
   change Option.bind (bif ((m:Int) != ↑i) then bif ((m:Int) != ↑k) then bif decide (X1a (Xt l[k] l[i]) (Xt l[m] l[i])≤0) then _ else _ else _ else _) _=_
   by_cases e1:m=i
   ·have:((m:Int) != (i:Int))=false:=by simp [e1]
    rw [this];simp [e1];simpa [e1,hi,hk] using hR'
   ·have t1:((m:Int) != (i:Int))=true:=by simp;omega
    by_cases e2:m=k
    ·have:((m:Int) != (k:Int))=false:=by simp [e2]
     rw [t1,this];simp [e2];simpa [e2,hi,hk] using hR'
    ·have t2:((m:Int) != (k:Int))=true:=by simp;omega
     rw [t1,t2]
     by_cases e3:X1a (Xt l[k] l[i]) (Xt l[m] l[i])≤0
     ·have t3:¬ 0<X1a (Xt l[k] l[i]) (Xt l[m] l[i]):=by omega
      simp [e1,e2,e3,t3]
     ·have t3:0<X1a (Xt l[k] l[i]) (Xt l[m] l[i]):=by omega
      simp [e1,e2,e3,t3];simpa [hi,hk] using hR')
 have:=key 0 () (by omega) trivial
 simpa [X1k] using this

theorem X5y (l:List Zu) (hl:3≤l.length∧l.length≤8) (hf:l.any (X2D 10000)=false):X2R l=some (X52 l):=by
 unfold X2R X52
 have key:=X4 (W2 l) (fun o103=>Sum.elim (fun y104:Bool=>some y104) (fun _:Unit=>some true) o103) l.length (fun i (_:Unit)=>(i:Int)) (fun _ _=>True) (fun i _=>some (X1H (X5M l) i (l.length-i)))
  (by
   intro b _ R
   simp [W2,Wj,X1H])
  (by
   intro i b hi _ R hR
   have hR':=hR () trivial
   rw [show l.length-i=(l.length-(i+1))+1 by omega]
   simp only [X1H]
   simp only [W2,Wj]
   have hw:IntKind.wrap .i64 ((i:Int)+1)=((i+1:Nat):Int):=by rw [w64]<;>omega
   have hm:Int.tmod ((i+1:Nat):Int) (l.length:Int)=(((i+1) % l.length:Nat):Int):=rfl
   have d1:decide ((i:Int)<↑l.length)=true:=by simp [hi]
   have d2:((l.length:Int)==0)=false:=by simp;intro h;simp [h] at hl
   simp only [hw,hm,d1,d2,cond_true,cond_false]
   rw [X5L l hl hf i hi]
   simp only [Option.bind_some]
   cases h:X5M l i
   ·simp
   ·simp;simpa using hR')
 exact (key 0 () (by omega) trivial).trans (by simp)

theorem X5J (s:CtSand):X3j s=some (X4Z s):=by
 unfold X3j X4Z
 rw [WX,X1K]
 simp only [Option.bind_some]
 cases hb:X3 3 8 [(s.Corners.length:Int)]
 ·have hl:3≤s.Corners.length∧s.Corners.length≤8:=by simp at hb;omega
  simp only [Bool.not_false,Bool.not_true,cond_false,Bool.false_eq_true,if_false]
  have key:=X53 (XI s) s.Corners.length (fun i (_:Unit)=>(i:Int)) (fun _ _=>True) (fun i _=>some (if (s.Corners.drop i).any (X2D 10000) then .inl 7 else .inr ()))
   (by
    intro b _ R
    simp [XI,WC])
   (by
    intro i b hi _ R hR
    have hR':=hR () trivial
    simp only [XI,WC]
    rw [List.drop_eq_getElem_cons hi]
    have hw:IntKind.wrap .i64 ((i:Int)+1)=((i+1:Nat):Int):=by rw [w64]<;>omega
    simp only [Int.toNat_natCast,X0 _ _ _ hi,List.any_cons,hw]
    rw [X46 _ _ (by omega)]
    have h1:decide ((i:Int)<↑s.Corners.length)=true:=by simp [hi]
    have h2:decide ((0:Int)≤↑i)=true:=by simp
    simp only [h1,h2,Bool.and_self,cond_true,Option.bind_some]
    by_cases h3:X2D 10000 s.Corners[i]=true
    ·simp [h3]
    ·simp [h3];simpa using hR')
  have k0:=key 0 () (by omega) trivial
  simp only [List.drop_zero,Int.natCast_zero] at k0
  unfold X2A
  have k0':Z8S (XI s) 0=some (if s.Corners.any (X2D 10000) then .inl 7 else .inr ()):=k0
  rw [k0']
  simp only [Option.bind_some]
  cases hf:s.Corners.any (X2D 10000)
  ·simp only [Bool.false_eq_true,if_false,Sum.elim_inr]
   rw [X5V _ _ (by omega),X5y _ hl hf]
   simp only [Option.bind_some]
   by_cases h:X5O s.Moves 500 40=0
   ·rw [h]
    cases X52 s.Corners<;>simp
   ·simp [h,X4y h]
  ·simp
 ·simp

end Nore
open Go Go.Ab
namespace Nore

theorem X70 {α:Type} (P:α→Bool) (l:List α):l.countP P=0↔∀ m,(h:m<l.length)→P l[m]=false:=by
 rw [List.countP_eq_zero]
 constructor
 ·intro h m hm;simpa using h l[m] (List.getElem_mem hm)
 ·intro h a ha
  obtain ⟨m,hm,rfl⟩:=List.getElem_of_mem ha
  simp [h m hm]

theorem X6U {α:Type} (P:α→Bool) (l:List α):∀ i,(hi:i<l.length)→P l[i]=true→(l.countP P=1↔∀ m,(h:m<l.length)→m≠i→P l[m]=false):=by
 induction l with
 | nil=>intro i hi;simp at hi
 | cons a t ih =>
  intro i hi hP
  cases i with
  | zero =>
   simp only [List.getElem_cons_zero] at hP
   rw [List.countP_cons_of_pos hP]
   rw [show (t.countP P+1=1)↔t.countP P=0 by omega,X70]
   constructor
   ·intro h m hm hne
    cases m with
    | zero=>exact absurd rfl hne
    | succ m=>simpa using h m (by simpa using hm)
   ·intro h m hm
    exact h (m+1) (by simpa using hm) (by omega)
  | succ i =>
   simp only [List.getElem_cons_succ] at hP
   have hi':i<t.length:=by simpa using hi
   have hpos:0<t.countP P:=by
    rw [List.countP_pos_iff];exact ⟨t[i],List.getElem_mem hi',hP⟩
   have ih':=ih i hi' hP
   cases ha:P a
   ·rw [List.countP_cons_of_neg (by simp [ha]),ih']
    constructor
    ·intro h m hm hne
     cases m with
     | zero=>simpa using ha
     | succ m=>simpa using h m (by simpa using hm) (by omega)
    ·intro h m hm hne
     exact h (m+1) (by simpa using hm) (by omega)
   ·rw [List.countP_cons_of_pos ha]
    constructor
    ·intro h;omega
    ·intro h
     have:=h 0 (by simp) (by omega)
     simp [ha] at this

theorem X6V {α:Type} (P:α→Bool) (l:List α):∀ i k,(hi:i<l.length)→(hk:k<l.length)→i<k→P l[i]=true→P l[k]=true→(l.countP P=2↔∀ m,(h:m<l.length)→m≠i→m≠k→P l[m]=false):=by
 induction l with
 | nil=>intro i k hi;simp at hi
 | cons a t ih =>
  intro i k hi hk hik hP hQ
  cases k with
  | zero=>omega
  | succ k =>
   simp only [List.getElem_cons_succ] at hQ
   have hk':k<t.length:=by simpa using hk
   cases i with
   | zero =>
    simp only [List.getElem_cons_zero] at hP
    rw [List.countP_cons_of_pos hP]
    rw [show (t.countP P+1=2)↔t.countP P=1 by omega,X6U P t k hk' hQ]
    constructor
    ·intro h m hm hne hne2
     cases m with
     | zero=>exact absurd rfl hne
     | succ m=>simpa using h m (by simpa using hm) (by omega)
    ·intro h m hm hne
     exact h (m+1) (by simpa using hm) (by omega) (by omega)
   | succ i =>
    simp only [List.getElem_cons_succ] at hP
    have hi':i<t.length:=by simpa using hi
    have ih':=ih i k hi' hk' (by omega) hP hQ
    cases ha:P a
    ·rw [List.countP_cons_of_neg (by simp [ha]),ih']
     constructor
     ·intro h m hm hne hne2
      cases m with
      | zero=>simpa using ha
      | succ m=>simpa using h m (by simpa using hm) (by omega) (by omega)
     ·intro h m hm hne hne2
      exact h (m+1) (by simpa using hm) (by omega) (by omega)
    ·have hpos:2≤t.countP P:=by
      have h1:=X6U P t i hi' hP
      have:0<t.countP P:=by
       rw [List.countP_pos_iff];exact ⟨t[i],List.getElem_mem hi',hP⟩
      by_cases e:t.countP P=1
      ·have:=h1.1 e k hk' (by omega)
       simp [hQ] at this
      ·omega
     rw [List.countP_cons_of_pos ha]
     constructor
     ·intro h;omega
     ·intro h
      have:=h 0 (by simp) (by omega) (by omega)
      simp [ha] at this

def X3e (l:List Zu) (a b:Zu):Bool :=
 (l.countP fun p=>decide (X1a (Xt b a) (Xt p a)≤0))==2 && !((b.X-a.X==0)&&(b.Y-a.Y==0))
def X3E (l:List Zu):Zu→List Zu→Bool
 | _,[]=>true
 | last,p::r=>X3e l last p&&X3E l p r

theorem X6w (a b:Zu):X1a (Xt b a) (Xt b a)=0:=by simp [X1a,Int.mul_comm]
theorem X6x (a b:Zu):X1a (Xt b a) (Xt a a)=0:=by simp [X1a,Xt]

theorem X5S (l:List Zu) (hl:3≤l.length) (i k:Nat) (hi:i<l.length) (hk:k<l.length) (hne:i≠k) :
  X3e l l[i] l[k]=X1H (fun m=>m==i||m==k||decide (0<X1a (Xt (l.getD k P0) (l.getD i P0)) (Xt (l.getD m P0) (l.getD i P0)))) 0 l.length:=by
 rw [Bool.eq_iff_iff,X55]
 have hPi:decide (X1a (Xt l[k] l[i]) (Xt l[i] l[i])≤0)=true:=by rw [X6x];rfl
 have hPk:decide (X1a (Xt l[k] l[i]) (Xt l[k] l[i])≤0)=true:=by rw [X6w];rfl
 have hc:(l.countP fun p=>decide (X1a (Xt l[k] l[i]) (Xt p l[i])≤0))=2↔∀ m,(h:m<l.length)→m≠i→m≠k→decide (X1a (Xt l[k] l[i]) (Xt l[m] l[i])≤0)=false:=by
  by_cases hik:i<k
  ·exact X6V (fun p=>decide (X1a (Xt l[k] l[i]) (Xt p l[i])≤0)) l i k hi hk hik hPi hPk
  ·have:=X6V (fun p=>decide (X1a (Xt l[k] l[i]) (Xt p l[i])≤0)) l k i hk hi (by omega) hPk hPi
   rw [this]
   constructor
   ·intro h m hm h1 h2;exact h m hm h2 h1
   ·intro h m hm h1 h2;exact h m hm h2 h1
 simp only [X3e,Bool.and_eq_true,beq_iff_eq,hc]
 constructor
 ·rintro ⟨h,_⟩ m _ hm
  have hm':m<l.length:=by omega
  by_cases e1:m=i
  ·simp [e1]
  ·by_cases e2:m=k
   ·simp [e2]
   ·have:=h m hm' e1 e2
    simp only [X0 _ _ _ hm',X0 _ _ _ hi,X0 _ _ _ hk]
    simp at this
    simp [this]
 ·intro h
  have h':∀ m,(hm:m<l.length)→m≠i→m≠k→0<X1a (Xt l[k] l[i]) (Xt l[m] l[i]):=fun m hm e1 e2=>by
   have:=h m (by omega) (by omega)
   simp only [X0 _ _ _ hm,X0 _ _ _ hi,X0 _ _ _ hk] at this
   simpa [e1,e2] using this
  refine ⟨fun m hm e1 e2 => ?_,?_⟩
  ·have:=h' m hm e1 e2
   simp;omega
  ·have:∃ m,m<l.length∧m≠i∧m≠k:=by
    by_cases a0:0≠i∧0≠k
    ·exact ⟨0,by omega,a0⟩
    ·by_cases a1:1≠i∧1≠k
     ·exact ⟨1,by omega,a1⟩
     ·exact ⟨2,by omega,by omega,by omega⟩
   obtain ⟨m,hm,e1,e2⟩:=this
   have:=h' m hm e1 e2
   rw [Bool.not_eq_true',Bool.eq_false_iff]
   intro hz
   simp only [Bool.and_eq_true,beq_iff_eq] at hz
   simp [X1a,Xt,hz.1,hz.2] at this

theorem X6k (l:List Zu):∀ k i,i+k=l.length→1≤i→(hi:i-1<l.length)→(X3E l l[i-1] (l.drop i)=true↔∀ j,(h1:i≤j)→(h2:j<l.length)→X3e l l[j-1] l[j]=true):=by
 intro k
 induction k with
 | zero =>
  intro i hk h1 hi
  rw [List.drop_eq_nil_of_le (by omega)]
  simp [X3E]
  intro j h1 h2;omega
 | succ k ih =>
  intro i hk h1 hi
  have hi2:i<l.length:=by omega
  rw [List.drop_eq_getElem_cons hi2]
  simp only [X3E,Bool.and_eq_true]
  have:=ih (i+1) (by omega) (by omega) (by omega)
  simp only [Nat.add_sub_cancel] at this
  rw [this]
  constructor
  ·rintro ⟨g,h⟩ j a b
   by_cases e:j=i
   ·subst e;exact g
   ·exact h j (by omega) b
  ·intro h
   exact ⟨h i (by omega) hi2,fun j a b=>h j (by omega) b⟩

theorem X69 (l:List Zu) (hl:3≤l.length):X3E l (l.getD (l.length-1) P0) l=X52 l:=by
 rw [Bool.eq_iff_iff]
 have e:X3E l (l.getD (l.length-1) P0) l=(X3e l l[l.length-1] l[0]&&X3E l l[1-1] (l.drop 1)):=by
  conv=>lhs;rw [show l=l[0]::l.drop 1 by rw [←List.drop_eq_getElem_cons (by omega)];rfl]
  rw [←show l=l[0]::l.drop 1 by rw [←List.drop_eq_getElem_cons (by omega)];rfl]
  rw [X0 _ _ _ (by omega)]
  conv=>lhs;arg 3;rw [show l=l[0]::l.drop 1 by rw [←List.drop_eq_getElem_cons (by omega)];rfl]
  rfl
 rw [e]
 simp only [Bool.and_eq_true]
 rw [X6k l (l.length-1) 1 (by omega) (by omega) (by omega)]
 unfold X52
 rw [X55]
 have hside:∀ i,(hi:i<l.length)→X5M l i=X3e l l[i] (l[(i+1) % l.length]'(Nat.mod_lt _ (by omega))):=fun i hi=>by
  have hk:(i+1) % l.length<l.length:=Nat.mod_lt _ (by omega)
  have hne:i≠(i+1) % l.length:=by
   by_cases h:i+1<l.length
   ·rw [Nat.mod_eq_of_lt h];omega
   ·have:i+1=l.length:=by omega
    rw [this,Nat.mod_self];omega
  rw [X5S l hl i _ hi hk hne]
  rfl
 constructor
 ·rintro ⟨h0,h⟩ i _ hi
  have hi':i<l.length:=by omega
  rw [hside i hi']
  by_cases hh:i+1<l.length
  ·have:=h (i+1) (by omega) hh
   simp only [Nat.mod_eq_of_lt hh]
   simpa using this
  ·have e1:i=l.length-1:=by omega
   subst e1
   simp only [show l.length-1+1=l.length by omega,Nat.mod_self]
   exact h0
 ·intro h
  constructor
  ·have:=h (l.length-1) (by omega) (by omega)
   rw [hside _ (by omega)] at this
   simpa only [show l.length-1+1=l.length by omega,Nat.mod_self] using this
  ·intro j h1 h2
   have:=h (j-1) (by omega) (by omega)
   rw [hside _ (by omega)] at this
   simpa only [show j-1+1=j by omega,Nat.mod_eq_of_lt h2] using this

theorem X5i (l:List Zu) (hl:l.length≤8) (hf:l.any (X2D 10000)=false) (x4:Z8) (x5:Bool) (x6:Int) (x7:Bool) (x8:Z8) (x9:Bool) (x10:Int) (x11:Z8) (s:Z6) (a b:Zu) (ha:Bd 10000 a) (hb:Bd 10000 b) (hs:s=⟨a,Xt b a⟩) :
  XT (↑l.length) l x4 x5 x6 x7 x8 x9 x10 x11 s (0,0)=some ((l.countP fun p=>decide (X1a (Xt b a) (Xt p a)≤0):Nat):Int):=by
 subst hs
 unfold Bd at ha hb
 have key:=X53 (Xc (↑l.length) l x4 x5 x6 x7 x8 x9 x10 x11 ⟨a,Xt b a⟩) l.length (fun i (c:Nat)=>((c:Int),(i:Int))) (fun i c=>c≤i) (fun i c=>some (((c+(l.drop i).countP fun p=>decide (X1a (Xt b a) (Xt p a)≤0):Nat)):Int))
  (by
   intro b _ R
   simp [Xc,Xi])
  (by
   intro i c hi hc R hR
   simp only [Xc,Xi]
   rw [List.drop_eq_getElem_cons hi]
   have hw:IntKind.wrap .i64 ((i:Int)+1)=((i+1:Nat):Int):=by rw [w64]<;>omega
   have hw2:IntKind.wrap .i64 ((c:Int)+1)=((c+1:Nat):Int):=by rw [w64]<;>omega
   have bp:=X4s hf i hi
   unfold Bd at bp
   simp only [Int.toNat_natCast,X0 _ _ _ hi,hw,hw2,Xt]
   rw [X5h 10000 (by omega) bp.2.2 ha.2.2,X5h 10000 (by omega) ⟨bp.1,bp.2.1⟩ ⟨ha.1,ha.2.1⟩]
   rw [X6I 2000000 rfl (by omega) (by omega) (by omega) (by omega)]
   have h1:decide ((i:Int)<↑l.length)=true:=by simp [hi]
   have h2:decide ((0:Int)≤↑i)=true:=by simp
   simp only [h1,h2,Bool.and_self,cond_true]
   change Option.bind (bif decide (X1a (Xt b a) (Xt l[i] a)≤0) then _ else _) _=_
   change _=some (((c+List.countP (fun p=>decide (X1a (Xt b a) (Xt p a)≤0)) (l[i]::List.drop (i+1) l):Nat)):Int)
   by_cases h:X1a (Xt b a) (Xt l[i] a)≤0
   ·rw [List.countP_cons_of_pos (by simpa using h)]
    simp only [h,decide_true,cond_true,Option.bind_some,Sum.elim_inl]
    rw [hR (c+1) (by omega)]
    congr 1
    show ((_:Nat):Int)=((_:Nat):Int)
    congr 1
    show c+1+_=c+(_+1)
    simp only [Xt]
    omega
   ·rw [List.countP_cons_of_neg (by simpa using h)]
    simp only [h,decide_false,cond_false,Option.bind_some,Sum.elim_inl]
    rw [hR c (by omega)])
 have:=key 0 0 (by omega) (by omega)
 simpa [XT] using this

theorem X4v (s:Z8):X15 s=some (X4Z s.CtSand):=by
 obtain ⟨s⟩:=s
 unfold X15 X4Z
 rw [Wo _ _ _ (by simp)]
 simp only [Option.bind_some]
 cases hb:X3 3 8 [(s.Corners.length:Int)]
 ·have hl:3≤s.Corners.length∧s.Corners.length≤8:=by simp at hb;omega
  simp only [cond_false,Bool.false_eq_true,if_false]
  rw [X3P _ (by omega) _ (by omega)]
  simp only [Option.bind_some]
  cases hf:s.Corners.any (X2D 10000)
  ·simp only [cond_false,Bool.false_eq_true,if_false]
   rw [X5P _ _ (by omega)]
   simp only [Option.bind_some]
   by_cases h:X5O s.Moves 500 40=0
   ·have hw:IntKind.wrap .i64 ((s.Corners.length:Int)-1)=(s.Corners.length:Int)-1:=by rw [w64]<;>omega
    have ht:((s.Corners.length:Int)-1).toNat=s.Corners.length-1:=by omega
    have h1:decide ((0:Int)≤(s.Corners.length:Int)-1)=true:=by simp;omega
    have h2:decide ((s.Corners.length:Int)-1<(s.Corners.length:Int))=true:=by simp;omega
    simp only [h,hw,ht,h1,h2,bne_self_eq_false,cond_false,Bool.and_self,cond_true,if_true]
    rw [←X69 _ hl.1]
    have hlast:Bd 10000 (s.Corners.getD (s.Corners.length-1) P0):=by
     rw [X0 _ _ _ (by omega)];exact X4s hf _ (by omega)
    refine (X4 (Xb (↑s.Corners.length) s.Corners ⟨s⟩ false 0 false ⟨s⟩ false 0 ⟨s⟩ [(↑s.Corners.length:Int)]) _ s.Corners.length (fun i (b:Zu)=>((i:Int),b)) (fun _ b=>Bd 10000 b) (fun i b=>some (if X3E s.Corners b (s.Corners.drop i) then 0 else 9)) ?_ ?_ 0 _ (by omega) hlast).trans (by simp)
    ·intro b _ R
     simp [Xb,Xh,X3E]
    ·intro i b hi hP R hR
     have bp:=X4s hf i hi
     have hR':=hR s.Corners[i] bp
     simp only [Xb,Xh]
     rw [List.drop_eq_getElem_cons hi]
     have hw:IntKind.wrap .i64 ((i:Int)+1)=((i+1:Nat):Int):=by rw [w64]<;>omega
     simp only [Int.toNat_natCast,X0 _ _ _ hi,hw,X3E]
     have bp':=bp
     have hP':=hP
     unfold Bd at bp' hP'
     rw [X5h 10000 (by omega) bp'.2.2 hP'.2.2,X5h 10000 (by omega) ⟨bp'.1,bp'.2.1⟩ ⟨hP'.1,hP'.2.1⟩]
     rw [X5i s.Corners hl.2 hf _ _ _ _ _ _ _ _ ⟨⟨b.X,b.Y⟩,⟨s.Corners[i].X-b.X,s.Corners[i].Y-b.Y⟩⟩ b s.Corners[i] hP bp rfl]
     have h1:decide ((i:Int)<↑s.Corners.length)=true:=by simp [hi]
     have h2:decide ((0:Int)≤↑i)=true:=by simp
     simp only [h1,h2,Bool.and_self,cond_true,Option.bind_some]
     have hg:X3e s.Corners b s.Corners[i]=((s.Corners.countP fun p=>decide (X1a (Xt s.Corners[i] b) (Xt p b)≤0))==2 && !((s.Corners[i].X-b.X==0)&&(s.Corners[i].Y-b.Y==0))):=rfl
     generalize (s.Corners.countP fun p=>decide (X1a (Xt s.Corners[i] b) (Xt p b)≤0))=c at hg ⊢
     by_cases h3:c=2
     ·subst h3
      cases h4:(s.Corners[i].X-b.X==0)
      ·simp only [h4,Bool.false_and,Bool.not_false,Bool.and_true,beq_self_eq_true] at hg
       simp [hg];simpa using hR'
      ·cases h5:(s.Corners[i].Y-b.Y==0)
       ·simp only [h4,h5,Bool.and_false,Bool.not_false,Bool.and_true,beq_self_eq_true] at hg
        simp [hg];simpa using hR'
       ·simp only [h4,h5,Bool.and_self,Bool.not_true,Bool.and_false] at hg
        simp [hg]
     ·have h3':(((c:Nat):Int) != 2)=true:=by simp;omega
      have h3'':(c==2)=false:=by simp [h3]
      rw [h3'',Bool.false_and] at hg
      simp [h3',hg]
   ·rw [X1z h,if_neg h];rfl
  ·simp
 ·simp

end Nore
open Go Go.Ab
namespace Nore

theorem Z7X (a b:ByteArray):(a==b)=(a.data==b.data):=by cases a;cases b;rfl
instance:LawfulBEq ByteArray where
 rfl:=by intro a;rw [Z7X];simp
 eq_of_beq:=by
  intro a b h
  rw [Z7X] at h
  have:=eq_of_beq h
  cases a;cases b
  simp only at this
  rw [this]
instance:DecidableEq ByteArray:=fun a b=>if h:(a==b)=true then isTrue (eq_of_beq h) else isFalse (fun e=>h (by rw [e];simp))

theorem X4J {v:Int} (s k:ByteArray):∀ m:List (ByteArray×Int),Z8z (fun a b=>a==b) s (Zgh (fun a b=>a==b) k v m)=if s=k then some v else Z8z (fun a b=>a==b) s m
 | []=>by
  by_cases h:s=k
  ·simp [Zgh,Z8z,h]
  ·have h':(s==k)=false:=beq_eq_false_iff_ne.2 h
   simp [Zgh,Z8z,h,h']
 | (k',v')::m=>by
  have ih:=X4J s k m (v:=v)
  simp only [Zgh]
  by_cases h1:k=k'
  ·subst h1
   simp only [beq_self_eq_true,cond_true,Z8z]
   by_cases h:s=k
   ·simp [h]
   ·have h':(s==k)=false:=beq_eq_false_iff_ne.2 h
    simp [h,h']
  ·have:(k==k')=false:=by simp [h1]
   simp only [this,cond_false,Z8z]
   by_cases h2:s=k'
   ·subst h2
    have h3:s≠k:=fun h=>h1 h.symm
    simp [h3]
   ·have:(s==k')=false:=by simp [h2]
    simp only [this,cond_false,ih]

def Wz (s:ByteArray) (names:List ByteArray):Int:=if X4m s then (if s∈names then 5 else 0) else 6

theorem X4K {a b:ByteArray} (h:a.toList=b.toList):a=b:=by
 cases a;cases b
 simp only [ByteArray.toList_eq] at h
 congr 1
 exact Array.ext' h

theorem X3g (s:ByteArray) (names:List ByteArray) (hl:names.length<1000000):X1F s names=some (Wz s names):=by
 unfold X1F Wz
 rw [X5I]
 simp only [Option.bind_some]
 cases X4m s
 ·simp
 ·simp only [Bool.not_true,cond_false,if_true]
  unfold X3y
  have key:=X4 (Xz s names) (fun o78=>Option.bind (Sum.elim (fun y79:Int=>some y79) (fun _:Unit=>some (-1)) o78) fun r82=>bif decide (r82≥0) then some (5:Int) else some 0) names.length (fun i (_:Unit)=>(i:Int)) (fun _ _=>True) (fun i _=>some (if s∈names.drop i then 5 else 0))
   (by
    intro b _ R
    simp [Xz,Wi])
   (by
    intro i b hi _ R hR
    have hR':=hR () trivial
    simp only [Xz,Wi]
    rw [List.drop_eq_getElem_cons hi]
    have hw:IntKind.wrap .i64 ((i:Int)+1)=((i+1:Nat):Int):=by rw [w64]<;>omega
    simp only [Int.toNat_natCast,X0 _ _ _ hi,hw]
    have h1:decide ((i:Int)<↑names.length)=true:=by simp [hi]
    have h2:decide ((0:Int)≤↑i)=true:=by simp
    simp only [h1,h2,Bool.and_self,cond_true]
    by_cases h:names[i]=s
    ·simp [h]
    ·have h':(names[i].toList==s.toList)=false:=by
      simp only [beq_eq_false_iff_ne];intro hh;exact h (X4K hh)
     have h'':¬ s=names[i]:=fun hh=>h hh.symm
     simp only [h',cond_false,Option.bind_some,Sum.elim_inl,List.mem_cons,h'',false_or]
     exact hR')
  have:=key 0 () (by omega) trivial
  simp only [List.drop_zero] at this
  rw [←this]
  show Option.bind (Option.bind _ _) _=Option.bind _ _
  unfold X23
  simp only [Int.natCast_zero]
  cases Z8S (Xz s names) 0<;>rfl

def X2H (m:Zw) (names:List ByteArray):Int:=if Wz m.Name names=0 then (if X2D 30000 m.At then 7 else X2z m.Paints) else Wz m.Name names
def X47 (s:CtSand) (names:List ByteArray):Int:=if Wz s.Name names=0 then X4Z s else Wz s.Name names
def X3D:Nat→List ByteArray→List CtSand→Int×Int×Int
 | _,_,[]=>(0,0,0)
 | i,names,s::l=>if X47 s names=0 then X3D (i+1) (names++[s.Name]) l else (2,(i:Int),X47 s names)
def X3B (sands:List CtSand):Nat→List ByteArray→List Zw→Int×Int×Int
 | _,names,[]=>if 4<sands.length then (2,0,3) else X3D 0 names sands
 | i,names,m::l=>if X2H m names=0 then X3B sands (i+1) (names++[m.Name]) l else (1,(i:Int),X2H m names)
def X2U (c:Zl):Int×Int×Int:=if 8<c.Marks.length then (1,0,3) else X3B c.Sands 0 [] c.Marks

def Z2P (m:List (ByteArray×Int)) (names:List ByteArray):Prop:=∀ s,Option.getD (Z8z (fun a b=>a==b) s m) 0=if s∈names then 1 else 0

theorem X65 {m:List (ByteArray×Int)} {names:List ByteArray} (h:Z2P m names) (s:ByteArray) (hs:s∉names):Z2P (Zgh (fun a b=>a==b) s (IntKind.wrap .i64 (Option.getD (Z8z (fun a b=>a==b) s m) 0+1)) m) (names++[s]):=by
 intro t
 rw [X4J,h s,if_neg hs]
 by_cases e:t=s
 ·simp [e];rfl
 ·simp [e];simpa using h t

theorem X5t {m:List (ByteArray×Int)} {names:List ByteArray} (h:Z2P m names) (s:ByteArray):decide (Option.getD (Z8z (fun a b=>a==b) s (Zgh (fun a b=>a==b) s (IntKind.wrap .i64 (Option.getD (Z8z (fun a b=>a==b) s m) 0+1)) m)) 0>1)=decide (s∈names):=by
 rw [X4J,h s]
 simp only [if_true,Option.getD_some]
 by_cases e:s∈names
 ·simp only [e,if_true];rfl
 ·simp only [e,if_false];rfl

theorem X61 (c:Zl) (hl:c.Sands.length≤4) (m:List (ByteArray×Int)) (names:List ByteArray) (hm:Z2P m names) (k:_→Option (Int×Int×Int))
  (hk:k=fun o56=>Sum.elim (fun (y57:Int×Int×Int×(List (ByteArray×Int))×CtSand)=>some (y57.snd.snd.fst,y57.fst,y57.snd.fst)) (fun y58=>Sum.elim (fun (y59:Int×Int×Int×(List (ByteArray×Int))×CtSand)=>some (y59.snd.snd.fst,y59.fst,y59.snd.fst)) (fun y60=>Sum.elim (fun (y61:Int×Int×Int×(List (ByteArray×Int))×CtSand)=>some (y61.snd.snd.fst,y61.fst,y61.snd.fst)) (fun (_:List (ByteArray×Int))=>some (0,0,0)) y60) y58) o56) :
  Option.bind (X1e (↑c.Sands.length) c.Sands c (0,m)) k=some (X3D 0 names c.Sands):=by
 subst hk
 unfold X1e
 exact X4 (XS (↑c.Sands.length) c.Sands c) _ c.Sands.length (fun i (b:List (ByteArray×Int)×List ByteArray)=>((i:Int),b.1)) (fun _ b=>Z2P b.1 b.2) (fun i b=>some (X3D i b.2 (c.Sands.drop i)))
  (by
   intro b _ R
   simp [XS,Wa,X3D])
  (by
   intro i b hi hP R hR
   simp only [XS,Wa]
   rw [List.drop_eq_getElem_cons hi]
   have hw:IntKind.wrap .i64 ((i:Int)+1)=((i+1:Nat):Int):=by rw [w64]<;>omega
   simp only [Int.toNat_natCast,X0 _ _ _ hi,hw,X3D]
   rw [X3A,X4v,X5t hP]
   have h1:decide ((i:Int)<↑c.Sands.length)=true:=by simp [hi]
   have h2:decide ((0:Int)≤↑i)=true:=by simp
   simp only [h1,h2,Bool.and_self,cond_true,Option.bind_some]
   by_cases hn:X4m c.Sands[i].Name=true
   ·by_cases he:c.Sands[i].Name∈b.2
    ·have hE:X47 c.Sands[i] b.2=5:=by simp [X47,Wz,hn,he]
     simp [hn,he,hE]
    ·have e0:(⟨c.Sands[i].Name,c.Sands[i].Corners,c.Sands[i].Moves⟩:CtSand)=c.Sands[i]:=rfl
     have hE:X47 c.Sands[i] b.2=X4Z c.Sands[i]:=by simp [X47,Wz,hn,he]
     rw [e0]
     simp only [hn,he,Bool.not_true,decide_false,cond_false,hE]
     by_cases hs:X4Z c.Sands[i]=0
     ·simp only [hs,bne_self_eq_false,cond_false,if_true,Option.bind_some,Sum.elim_inl]
      exact hR (_,b.2++[c.Sands[i].Name]) (X65 hP _ he)
     ·simp [hs,X1z hs]
   ·have hE:X47 c.Sands[i] b.2=6:=by simp [X47,Wz,hn]
    simp [hn,hE]) 0 (m,names) (by omega) hm

theorem X49 (c:Zl):X28 c=some (X2U c):=by
 unfold X28 X2U
 by_cases h8:8<c.Marks.length
 ·have:decide ((c.Marks.length:Int)>8)=true:=by simp;omega
  rw [this];simp [h8]
 ·have:decide ((c.Marks.length:Int)>8)=false:=by simp;omega
  rw [this]
  simp only [cond_false,h8,if_false]
  exact X4 (XR (↑c.Marks.length) c.Marks c) _ c.Marks.length (fun i (b:List (ByteArray×Int)×List ByteArray)=>((i:Int),b.1)) (fun _ b=>Z2P b.1 b.2) (fun i b=>some (X3B c.Sands i b.2 (c.Marks.drop i)))
   (by
    intro b hP R
    simp only [XR,W9]
    have h1:decide ((c.Marks.length:Int)<↑c.Marks.length)=false:=by simp
    simp only [h1,cond_false,Option.bind_some,Sum.elim_inr,List.drop_length,X3B]
    by_cases h4:4<c.Sands.length
    ·have:decide ((c.Sands.length:Int)>4)=true:=by simp;omega
     rw [this];simp [h4]
    ·have:decide ((c.Sands.length:Int)>4)=false:=by simp;omega
     rw [this]
     simp only [cond_false,h4,if_false]
     exact X61 c (by omega) _ _ hP _ rfl)
   (by
    intro i b hi hP R hR
    simp only [XR,W9]
    rw [List.drop_eq_getElem_cons hi]
    have hw:IntKind.wrap .i64 ((i:Int)+1)=((i+1:Nat):Int):=by rw [w64]<;>omega
    simp only [Int.toNat_natCast,X0 _ _ _ hi,hw,X3B]
    rw [X3A,X5j,X5t hP,X3P _ (by omega) _ (by simp)]
    have h1:decide ((i:Int)<↑c.Marks.length)=true:=by simp [hi]
    have h2:decide ((0:Int)≤↑i)=true:=by simp
    simp only [h1,h2,Bool.and_self,cond_true,Option.bind_some,List.any_cons,List.any_nil,Bool.or_false]
    by_cases hn:X4m c.Marks[i].Name=true
    ·by_cases he:c.Marks[i].Name∈b.2
     ·have hE:X2H c.Marks[i] b.2=5:=by simp [X2H,Wz,hn,he]
      simp [hn,he,hE]
     ·by_cases hfar:X2D 30000 c.Marks[i].At=true
      ·have hE:X2H c.Marks[i] b.2=7:=by simp [X2H,Wz,hn,he,hfar]
       simp [hn,he,hfar,hE]
      ·have hE:X2H c.Marks[i] b.2=X2z c.Marks[i].Paints:=by simp [X2H,Wz,hn,he,hfar]
       simp only [hn,he,hfar,Bool.not_true,decide_false,cond_false,hE]
       by_cases hs:X2z c.Marks[i].Paints=0
       ·simp only [hs,bne_self_eq_false,cond_false,if_true,Option.bind_some,Sum.elim_inl]
        exact hR (_,b.2++[c.Marks[i].Name]) (X65 hP _ he)
       ·simp [hs,X1z hs]
    ·have hE:X2H c.Marks[i] b.2=6:=by simp [X2H,Wz,hn]
     simp [hn,hE]) 0 ([],[]) (by omega) (by intro s;simp [Z8z])

theorem X68 (c:Zl) (hl:c.Sands.length≤4) (names:List ByteArray) (hm:names.length≤8) (k:_→Option (Int×Int×Int))
  (hk:k=fun o134=>Sum.elim (fun (y135:Int×Int×Int×(List ByteArray)×(List ByteArray))=>some (y135.snd.snd.fst,y135.fst,y135.snd.fst)) (fun y136=>Sum.elim (fun (y137:Int×Int×Int×(List ByteArray)×(List ByteArray))=>some (y137.snd.snd.fst,y137.fst,y137.snd.fst)) (fun (_:List ByteArray)=>some (0,0,0)) y136) o134) :
  Option.bind (X1i c (0,names)) k=some (X3D 0 names c.Sands):=by
 subst hk
 unfold X1i
 exact X4 (W1 c) _ c.Sands.length (fun i (b:List ByteArray)=>((i:Int),b)) (fun i b=>b.length≤8+i) (fun i b=>some (X3D i b (c.Sands.drop i)))
  (by
   intro b _ R
   simp [W1,Wh,X3D])
  (by
   intro i b hi hP R hR
   simp only [W1,Wh]
   rw [List.drop_eq_getElem_cons hi]
   have hw:IntKind.wrap .i64 ((i:Int)+1)=((i+1:Nat):Int):=by rw [w64]<;>omega
   simp only [Int.toNat_natCast,X0 _ _ _ hi,hw,X3D]
   rw [X3g _ _ (by omega),X5J]
   have h1:decide ((i:Int)<↑c.Sands.length)=true:=by simp [hi]
   have h2:decide ((0:Int)≤↑i)=true:=by simp
   have h3:Nat.ble ((b.length+[c.Sands[i].Name].length)*(16+1)) 200000000000000=true:=by
    rw [Nat.ble_eq];simp;omega
   simp only [h1,h2,h3,Bool.and_self,cond_true,Option.bind_some]
   by_cases hf:Wz c.Sands[i].Name b=0
   ·have hE:X47 c.Sands[i] b=X4Z c.Sands[i]:=by simp [X47,hf]
    simp only [hf,hE,beq_self_eq_true,cond_true]
    by_cases hs:X4Z c.Sands[i]=0
    ·simp only [hs,bne_self_eq_false,cond_false,if_true,Option.bind_some,Sum.elim_inl]
     exact hR (b++[c.Sands[i].Name]) (by simp;omega)
    ·simp [hs,X1z hs]
   ·have hE:X47 c.Sands[i] b=Wz c.Sands[i].Name b:=by simp [X47,hf]
    simp [hE,hf,X4y hf,X1z hf]) 0 names (by omega) (by omega)

theorem X5v (c:Zl):X2Q c=some (X2U c):=by
 unfold X2Q X2U
 by_cases h8:8<c.Marks.length
 ·have:decide ((c.Marks.length:Int)>8)=true:=by simp;omega
  rw [this];simp [h8]
 ·have:decide ((c.Marks.length:Int)>8)=false:=by simp;omega
  rw [this]
  simp only [cond_false,h8,if_false]
  exact X4 (W0 c) _ c.Marks.length (fun i (b:List ByteArray)=>((i:Int),b)) (fun i b=>b.length≤i) (fun i b=>some (X3B c.Sands i b (c.Marks.drop i)))
   (by
    intro b hP R
    simp only [W0,Wg]
    have h1:decide ((c.Marks.length:Int)<↑c.Marks.length)=false:=by simp
    simp only [h1,cond_false,Option.bind_some,Sum.elim_inr,List.drop_length,X3B]
    by_cases h4:4<c.Sands.length
    ·have:decide ((c.Sands.length:Int)>4)=true:=by simp;omega
     rw [this];simp [h4]
    ·have:decide ((c.Sands.length:Int)>4)=false:=by simp;omega
     rw [this]
     simp only [cond_false,h4,if_false]
     exact X68 c (by omega) _ (by omega) _ rfl)
   (by
    intro i b hi hP R hR
    simp only [W0,Wg]
    rw [List.drop_eq_getElem_cons hi]
    have hw:IntKind.wrap .i64 ((i:Int)+1)=((i+1:Nat):Int):=by rw [w64]<;>omega
    simp only [Int.toNat_natCast,X0 _ _ _ hi,hw,X3B]
    rw [X3g _ _ (by omega),X5m,X46 _ _ (by omega)]
    have h1:decide ((i:Int)<↑c.Marks.length)=true:=by simp [hi]
    have h2:decide ((0:Int)≤↑i)=true:=by simp
    have h3:Nat.ble ((b.length+[c.Marks[i].Name].length)*(16+1)) 200000000000000=true:=by
     rw [Nat.ble_eq];simp;omega
    simp only [h1,h2,h3,Bool.and_self,cond_true,Option.bind_some]
    by_cases hf:Wz c.Marks[i].Name b=0
    ·by_cases hfar:X2D 30000 c.Marks[i].At=true
     ·have hE:X2H c.Marks[i] b=7:=by simp [X2H,hf,hfar]
      simp [hf,hfar,hE]
     ·have hE:X2H c.Marks[i] b=X2z c.Marks[i].Paints:=by simp [X2H,hf,hfar]
      simp only [hf,hfar,hE,Bool.not_false,Bool.not_true,cond_false,beq_self_eq_true,cond_true]
      by_cases hs:X2z c.Marks[i].Paints=0
      ·simp only [hs,bne_self_eq_false,cond_false,if_true,Option.bind_some,Sum.elim_inl]
       exact hR (b++[c.Marks[i].Name]) (by simp;omega)
      ·simp [hs,X1z hs]
    ·have hE:X2H c.Marks[i] b=Wz c.Marks[i].Name b:=by simp [X2H,hf]
     simp [hE,hf,X4y hf,X1z hf]) 0 [] (by omega) (by simp)

end Nore
open Go Go.Ab
namespace Nore

theorem X1 (lo up:Int) (l:List Int) (hl:l.length<1000000):X2 lo up l=some (X3 lo up l):=by
 rw [X4h];unfold X1o
 have key:=X4 (XZ (↑l.length) l up lo) (fun o3=>Sum.elim (fun y4:Int=>some (decide (y4≥0))) (fun _=>some (decide ((-1:Int)≥0))) o3) l.length (fun i (_:Unit)=>(i:Int)) (fun _ _=>True) (fun i _=>some (X3 lo up (l.drop i)))
  (by
   intro b _ R
   simp [XZ,Wf])
  (by
   intro i b hi _ R hR
   have hR':=hR () trivial
   simp only [XZ,Wf]
   rw [List.drop_eq_getElem_cons hi]
   simp only [Int.toNat_natCast,X0 _ _ _ hi,X34]
   have hw:IntKind.wrap .i64 ((i:Int)+1)=((i+1:Nat):Int):=by rw [w64]<;>omega
   rw [hw]
   have h1:decide ((i:Int)<↑l.length)=true:=by simp [hi]
   have h2:decide ((0:Int)≤↑i)=true:=by simp
   simp only [h1,h2,Bool.and_self,cond_true]
   by_cases h3:l[i]<lo
   ·simp [h3]
   ·by_cases h4:l[i]>up
    ·simp [h3,h4]
    ·simp [h3,h4];exact hR')
 exact (key 0 () (by omega) trivial).trans (by simp)

theorem X2C (n lo hi:Int):X2S n lo hi=some (inN n lo hi):=by
 rw [X5f];unfold X2B inN
 by_cases h:lo≤n<;>simp [h]

def X4w (x:Z5):Int:=if x.Lead then 20 else 4
theorem X5K (x:Z5):X3N x=some (X4w x):=by
 rw [X4X];unfold X1X X4w
 cases x.Lead<;>rfl

def X58 (x:Z5) (names:List ByteArray):Int :=
 if Wz x.Name names≠0 then Wz x.Name names else if X3 (-X4w x) (X4w x) [x.Off.Lo,x.Off.Hi] then 7 else if x.Off.Lo>x.Off.Hi then 2 else 0

theorem X6c (x:Z5) (l:List Z5) (hl:l.length<1000000) (k:(Int×Z5)⊕Unit→Option Int) (r1 r2:Option Int) (h1:∀ (i:Nat) y,k (.inl ((i:Int),y))=r1) (h2:k (.inr ())=r2) :
  Option.bind (X1s (↑l.length) l x 0) k=if x.Name∈l.map (·.Name) then r1 else r2:=by
 have key:=X4 (Xr (↑l.length) l x) k l.length (fun i (_:Unit)=>(i:Int)) (fun _ _=>True) (fun i _=>if x.Name∈(l.drop i).map (·.Name) then r1 else r2)
  (by
   intro b _ R
   simp [Xr,Xx,h2])
  (by
   intro i b hi _ R hR
   have hR':=hR () trivial
   simp only [Xr,Xx]
   rw [List.drop_eq_getElem_cons hi]
   simp only [Int.toNat_natCast,X0 _ _ _ hi,List.map_cons,List.mem_cons]
   have hw:IntKind.wrap .i64 ((i:Int)+1)=((i+1:Nat):Int):=by rw [w64]<;>omega
   rw [hw]
   have e1:decide ((i:Int)<↑l.length)=true:=by simp [hi]
   have e2:decide ((0:Int)≤↑i)=true:=by simp
   simp only [e1,e2,Bool.and_self,cond_true]
   by_cases h3:l[i].Name.toList=x.Name.toList
   ·have h4:x.Name=l[i].Name:=X4K h3.symm
    simp [h3,h4,h1]
   ·have h4:¬ x.Name=l[i].Name:=fun e=>h3 (by rw [e])
    have h5:(l[i].Name.toList==x.Name.toList)=false:=beq_eq_false_iff_ne.2 h3
    simp only [h5,cond_false,h4,false_or]
    exact hR')
 exact (key 0 () (by omega) trivial).trans (by simp)

theorem X6d (x:Z5) (l:List Z5) (hl:l.length<1000000) (k:(Int×Z5)⊕Unit→Option Int) (r1 r2:Option Int) (h1:∀ (i:Nat) y,k (.inl ((i:Int),y))=r1) (h2:k (.inr ())=r2) :
  Option.bind (X1t (↑l.length) l x 0) k=if x.Name∈l.map (·.Name) then r1 else r2:=by
 have key:=X4 (Xs (↑l.length) l x) k l.length (fun i (_:Unit)=>(i:Int)) (fun _ _=>True) (fun i _=>if x.Name∈(l.drop i).map (·.Name) then r1 else r2)
  (by
   intro b _ R
   simp [Xs,Xy,h2])
  (by
   intro i b hi _ R hR
   have hR':=hR () trivial
   simp only [Xs,Xy]
   rw [List.drop_eq_getElem_cons hi]
   simp only [Int.toNat_natCast,X0 _ _ _ hi,List.map_cons,List.mem_cons]
   have hw:IntKind.wrap .i64 ((i:Int)+1)=((i+1:Nat):Int):=by rw [w64]<;>omega
   rw [hw]
   have e1:decide ((i:Int)<↑l.length)=true:=by simp [hi]
   have e2:decide ((0:Int)≤↑i)=true:=by simp
   simp only [e1,e2,Bool.and_self,cond_true]
   by_cases h3:l[i].Name.toList=x.Name.toList
   ·have h4:x.Name=l[i].Name:=X4K h3.symm
    simp [h3,h4,h1]
   ·have h4:¬ x.Name=l[i].Name:=fun e=>h3 (by rw [e])
    have h5:(l[i].Name.toList==x.Name.toList)=false:=beq_eq_false_iff_ne.2 h3
    simp only [h5,cond_false,h4,false_or]
    exact hR')
 exact (key 0 () (by omega) trivial).trans (by simp)

theorem X4I (x:Z5) (l:List Z5) (hl:l.length<1000000):X2w x l=some (X58 x (l.map (·.Name))):=by
 rw [X3o];unfold Wy X58 Wz X4w
 have hw20:IntKind.wrap .i64 (0-20) = -20:=by rw [w64]<;>omega
 have hw4:IntKind.wrap .i64 (0-4) = -4:=by rw [w64]<;>omega
 rw [X3A]
 simp only [Option.bind_some,hw20,hw4]
 cases hb:x.Lead
 ·simp only [cond_false,Bool.false_eq_true,if_false]
  cases hn:X4m x.Name
  ·simp
  ·simp only [Bool.not_true,cond_false,if_true]
   rw [X6d x l hl _ (some 5) (if X3 (-4) 4 [x.Off.Lo,x.Off.Hi] then some 7 else if x.Off.Lo>x.Off.Hi then some 2 else some 0) (fun i y=>by simp) (by
    simp only [Sum.elim_inr]
    rw [X1 _ _ _ (by simp)]
    simp only [Option.bind_some]
    cases X3 (-4) 4 [x.Off.Lo,x.Off.Hi]
    ·by_cases h:x.Off.Lo>x.Off.Hi<;>simp [h]
    ·simp)]
   by_cases hm:x.Name∈l.map (·.Name)
   ·simp [hm]
   ·simp only [hm,if_false,ne_eq,not_true]
    cases X3 (-4) 4 [x.Off.Lo,x.Off.Hi]
    ·by_cases h:x.Off.Lo>x.Off.Hi<;>simp [h]
    ·simp
 ·simp only [cond_true,if_true]
  cases hn:X4m x.Name
  ·simp
  ·simp only [Bool.not_true,cond_false,if_true]
   rw [X6c x l hl _ (some 5) (if X3 (-20) 20 [x.Off.Lo,x.Off.Hi] then some 7 else if x.Off.Lo>x.Off.Hi then some 2 else some 0) (fun i y=>by simp) (by
    simp only [Sum.elim_inr]
    rw [X1 _ _ _ (by simp)]
    simp only [Option.bind_some]
    cases X3 (-20) 20 [x.Off.Lo,x.Off.Hi]
    ·by_cases h:x.Off.Lo>x.Off.Hi<;>simp [h]
    ·simp)]
   by_cases hm:x.Name∈l.map (·.Name)
   ·simp [hm]
   ·simp only [hm,if_false,ne_eq,not_true]
    cases X3 (-20) 20 [x.Off.Lo,x.Off.Hi]
    ·by_cases h:x.Off.Lo>x.Off.Hi<;>simp [h]
    ·simp

def X3k (a:Zt):Int:=if X3 (-30000) 30000 [a.X.Lo,a.X.Hi,a.Y.Lo,a.Y.Hi]||X3 0 1000 [a.Depth.Lo,a.Depth.Hi]||X3 1 4 [a.Ground] then 7 else if a.X.Lo>a.X.Hi∨a.Y.Lo>a.Y.Hi∨a.Depth.Lo>a.Depth.Hi then 2 else 0

theorem X5R (a:Zt):X4O a=some (X3k a):=by
 rw [X56];unfold X2j X3k
 rw [X1 _ _ _ (by simp),X1 _ _ _ (by simp),X1 _ _ _ (by simp)]
 simp only [Option.bind_some]
 cases X3 (-30000) 30000 [a.X.Lo,a.X.Hi,a.Y.Lo,a.Y.Hi]
 ·cases X3 0 1000 [a.Depth.Lo,a.Depth.Hi]
  ·cases X3 1 4 [a.Ground]
   ·by_cases h1:a.X.Lo>a.X.Hi
    ·simp [h1]
    ·by_cases h2:a.Y.Lo>a.Y.Hi
     ·simp [h1,h2]
     ·by_cases h3:a.Depth.Lo>a.Depth.Hi<;>simp [h1,h2,h3]
   ·simp
  ·simp
 ·simp

theorem X5k (i:Int) (a:Zt):X2N i a=some (X3k a):=by
 rw [X4b];unfold X1m
 rw [X5R];rfl

theorem X71 (lo hi a b c d:Int):X3 lo hi [a,b,c,d]=(X3 lo hi [a,b]||X3 lo hi [c,d]):=by simp [Bool.or_assoc]

theorem X5z (a:Zt):X3W a=some (X3k a):=by
 rw [X4E];unfold X1G X3k X2c
 rw [X1Y _ _ _ (by simp),X1Y _ _ _ (by simp),X2C,X1K,X71]
 simp only [Option.bind_some,X1N]
 cases X3 (-30000) 30000 [a.X.Lo,a.X.Hi]
 ·cases X3 (-30000) 30000 [a.Y.Lo,a.Y.Hi]
  ·cases X3 0 1000 [a.Depth.Lo,a.Depth.Hi]
   ·cases X3 1 4 [a.Ground]
    ·by_cases h1:a.X.Lo>a.X.Hi<;>by_cases h2:a.Y.Lo>a.Y.Hi<;>by_cases h3:a.Depth.Lo>a.Depth.Hi<;>simp [h1,h2,h3]
    ·by_cases h1:a.X.Lo>a.X.Hi<;>by_cases h2:a.Y.Lo>a.Y.Hi<;>by_cases h3:a.Depth.Lo>a.Depth.Hi<;>simp [h1,h2,h3]
   ·by_cases h1:a.X.Lo>a.X.Hi<;>by_cases h2:a.Y.Lo>a.Y.Hi<;>simp [h1,h2]
  ·simp
 ·simp

def WJ:Nat→List ByteArray→List Z5→Int×Int×Int
 | _,_,[]=>(0,0,0)
 | i,names,x::l=>if X58 x names=0 then WJ (i+1) (names++[x.Name]) l else (3,(i:Int),X58 x names)
def X1Z:Nat→List Zt→Int×Int×Int
 | _,[]=>(0,0,0)
 | i,a::l=>if X3k a=0 then X1Z (i+1) l else (4,(i:Int),X3k a)
def WS (f:ZJ):Int×Int×Int :=
 if (X2U f.Chart).2.2≠0 then (1,0,(X2U f.Chart).2.2) else
 if X3 0 40000 [f.Day]||X3 1 500 [f.Step]||X3 0 8 [f.Half] then (2,0,7) else
 if X3 1 4 [(f.Instruments.length:Int)] then (3,0,3) else
 if (WJ 0 [] f.Instruments).2.2≠0 then WJ 0 [] f.Instruments else
 if 6<f.Areas.length then (4,0,3) else X1Z 0 f.Areas

theorem X5Y (l:List Zt) (hl:l.length≤6) (k:(Int×Int×Zt)⊕Unit→Option (Int×Int×Int)) (h1:∀ (i e:Int) y,e≠0→k (.inl (e,i,y))=some (4,i,e)) (h2:k (.inr ())=some (0,0,0)) :
  Option.bind (X2L l (↑l.length) 0) k=some (X1Z 0 l):=by
 have key:=X4 (WO l (↑l.length)) k l.length (fun i (_:Unit)=>(i:Int)) (fun _ _=>True) (fun i _=>some (X1Z i (l.drop i)))
  (by
   intro b _ R
   simp [WO,WU,h2,X1Z])
  (by
   intro i b hi _ R hR
   have hR':=hR () trivial
   simp only [WO,WU]
   rw [List.drop_eq_getElem_cons hi]
   simp only [Int.toNat_natCast,X0 _ _ _ hi,X1Z]
   have hw:IntKind.wrap .i64 ((i:Int)+1)=((i+1:Nat):Int):=by rw [w64]<;>omega
   rw [hw,X5k]
   have e1:decide ((i:Int)<↑l.length)=true:=by simp [hi]
   have e2:decide ((0:Int)≤↑i)=true:=by simp
   simp only [e1,e2,Bool.and_self,cond_true,Option.bind_some]
   by_cases h3:X3k l[i]=0
   ·simp only [h3,bne_self_eq_false,cond_false,Option.bind_some,Sum.elim_inl,if_true]
    exact hR'
   ·simp [h3,X1z h3,h1])
 exact (key 0 () (by omega) trivial).trans (by simp)
theorem X5Z (l:List Zt) (hl:l.length≤6) (k:(Int×Int×Zt)⊕Unit→Option (Int×Int×Int)) (h1:∀ (i e:Int) y,e≠0→k (.inl (e,i,y))=some (4,i,e)) (h2:k (.inr ())=some (0,0,0)) :
  Option.bind (X1I l (↑l.length) 0) k=some (X1Z 0 l):=X5Y l hl k h1 h2

theorem X6e (f:ZJ) (hl:f.Instruments.length≤4) (k:(Int×Int×Z5×Z5)⊕Unit→Option (Int×Int×Int)) (r:Option (Int×Int×Int)) (h1:∀ (i e:Int) y y',e≠0→k (.inl (e,i,y,y'))=some (3,i,e)) (h2:k (.inr ())=r) :
  Option.bind (X2K f.Instruments (↑f.Instruments.length) f 0) k=if (WJ 0 [] f.Instruments).2.2≠0 then some (WJ 0 [] f.Instruments) else r:=by
 have key:=X4 (WN f.Instruments (↑f.Instruments.length) f) k f.Instruments.length (fun i (_:Unit)=>(i:Int)) (fun _ _=>True) (fun i _=>if (WJ i ((f.Instruments.take i).map (·.Name)) (f.Instruments.drop i)).2.2≠0 then some (WJ i ((f.Instruments.take i).map (·.Name)) (f.Instruments.drop i)) else r)
  (by
   intro b _ R
   simp [WN,WT,h2,WJ])
  (by
   intro i b hi _ R hR
   have hR':=hR () trivial
   simp only [WN,WT]
   rw [List.drop_eq_getElem_cons hi]
   rw [←List.take_concat_get hi] at hR'
   simp only [List.concat_eq_append,List.map_append,List.map_cons,List.map_nil] at hR'
   simp only [Int.toNat_natCast,X0 _ _ _ hi,WJ,List.drop_zero]
   have hw:IntKind.wrap .i64 ((i:Int)+1)=((i+1:Nat):Int):=by rw [w64]<;>omega
   rw [hw,X4I _ _ (by simp;omega)]
   have e1:decide ((i:Int)<↑f.Instruments.length)=true:=by simp [hi]
   have e2:decide ((0:Int)≤↑i)=true:=by simp
   have e3:decide ((i:Int)≤↑f.Instruments.length)=true:=by simp;omega
   simp only [e1,e2,e3,Bool.and_self,cond_true,Option.bind_some]
   by_cases h3:X58 f.Instruments[i] ((f.Instruments.take i).map (·.Name))=0
   ·simp only [h3,bne_self_eq_false,cond_false,Option.bind_some,Sum.elim_inl,if_true]
    exact hR'
   ·simp only [X1z h3,cond_true,Option.bind_some,Sum.elim_inr,h1 _ _ _ _ h3,if_neg h3]
    rw [if_pos h3])
 exact (key 0 () (by omega) trivial).trans (by simp)

theorem X5G (f:ZJ):X4t f=some (WS f):=by
 rw [X4M];unfold X1S WS
 rw [X49,X1 _ _ _ (by simp),X1 _ _ _ (by simp),X1 _ _ _ (by simp),X1 _ _ _ (by simp)]
 simp only [Option.bind_some]
 by_cases h1:(X2U f.Chart).2.2=0
 ·simp only [h1,bne_self_eq_false,cond_false,ne_eq,not_true,if_false]
  cases X3 0 40000 [f.Day]
  ·cases X3 1 500 [f.Step]
   ·cases X3 0 8 [f.Half]
    ·cases hi:X3 1 4 [(f.Instruments.length:Int)]
     ·have hl:f.Instruments.length≤4:=by simp at hi;omega
      simp only [cond_false,Bool.or_self,Bool.false_eq_true,if_false]
      have ha:(bif decide ((f.Areas.length:Int)>6) then some (4,0,3) else Option.bind (X1I f.Areas (↑f.Areas.length) 0) fun o257↦Sum.elim (fun y258↦bif y258.fst != 0 then some (4,y258.snd.fst,y258.fst) else some ((0:Int),(0:Int),(0:Int))) (fun y259↦some (0,0,0)) o257)=(some (if 6<f.Areas.length then (4,0,3) else X1Z 0 f.Areas):Option (Int×Int×Int)):=by
       by_cases h6:6<f.Areas.length
       ·have:decide ((f.Areas.length:Int)>6)=true:=by simp;omega
        rw [this];simp [h6]
       ·have:decide ((f.Areas.length:Int)>6)=false:=by simp;omega
        rw [this]
        simp only [cond_false,h6,if_false]
        exact X5Z _ (by omega) _ (fun i e y he=>by simp [X1z he]) rfl
      rw [X6e f hl _ _ (fun i e y y' he=>by simp [X1z he]) (by simp only [Sum.elim_inr];exact ha)]
      by_cases h3:(WJ 0 [] f.Instruments).2.2=0<;>simp [h3]
     ·simp
    ·simp
   ·simp
  ·simp
 ·simp [h1,X1z h1]

theorem X5B (f:ZJ) (hl:f.Instruments.length≤4) (k:(Int×Int×Int×List ByteArray×List ByteArray×Z5)⊕((Int×Int×Int×List ByteArray×List ByteArray×Z5)⊕List ByteArray)→Option (Int×Int×Int)) (r:Option (Int×Int×Int))
  (h1:∀ (i e:Int) y y' z,k (.inl (i,e,3,y,y',z))=some (3,i,e)) (h1':∀ (i e:Int) y y' z,k (.inr (.inl (i,e,3,y,y',z)))=some (3,i,e)) (h2:∀ l,k (.inr (.inr l))=r) :
  Option.bind (X24 f (0,[])) k=if (WJ 0 [] f.Instruments).2.2≠0 then some (WJ 0 [] f.Instruments) else r:=by
 have key:=X4 (W4 f) k f.Instruments.length (fun i (b:List ByteArray)=>((i:Int),b)) (fun i b=>b=(f.Instruments.take i).map (·.Name)) (fun i b=>if (WJ i b (f.Instruments.drop i)).2.2≠0 then some (WJ i b (f.Instruments.drop i)) else r)
  (by
   intro b _ R
   simp [W4,Wl,h2,WJ])
  (by
   intro i b hi hb R hR
   have hR':=hR (b++[f.Instruments[i].Name]) (by rw [hb,←List.take_concat_get hi,List.concat_eq_append,List.map_append];rfl)
   have hbl:b.length≤4:=by rw [hb];simp;omega
   simp only [W4,Wl]
   rw [List.drop_eq_getElem_cons hi]
   simp only [Int.toNat_natCast,X0 _ _ _ hi,WJ]
   have hw:IntKind.wrap .i64 ((i:Int)+1)=((i+1:Nat):Int):=by rw [w64]<;>omega
   rw [hw,X3g _ _ (by omega),X5K]
   have e1:decide ((i:Int)<↑f.Instruments.length)=true:=by simp [hi]
   have e2:decide ((0:Int)≤↑i)=true:=by simp
   have e3:Nat.ble ((b.length+[f.Instruments[i].Name].length)*(16+1)) 200000000000000=true:=by
    apply Nat.ble_eq_true_of_le;simp;omega
   have hf:IntKind.wrap .i64 (0-X4w f.Instruments[i]) = -X4w f.Instruments[i]:=by unfold X4w;split<;>(rw [w64]<;>omega)
   simp only [e1,e2,e3,Bool.and_self,cond_true,Option.bind_some,hf,X2c]
   rw [X1Y _ _ _ (by simp)]
   unfold X58
   by_cases h3:Wz f.Instruments[i].Name b=0
   ·simp only [h3,beq_self_eq_true,cond_true,ne_eq,not_true,if_false,Option.bind_some,X1N]
    cases ho:X3 (-X4w f.Instruments[i]) (X4w f.Instruments[i]) [f.Instruments[i].Off.Lo,f.Instruments[i].Off.Hi]
    ·by_cases h4:f.Instruments[i].Off.Lo>f.Instruments[i].Off.Hi
     ·simp [h4,h1]
     ·simp only [h4,Bool.false_eq_true,if_false,bne_self_eq_false,cond_false,Option.bind_some,Sum.elim_inl,if_true]
      exact hR'
    ·simp [h1]
   ·have h5:=X1z h3
    simp [h3,X4y h3,h5,h1'])
 exact (key 0 [] (by omega) (by simp)).trans (by simp)

theorem X5A (f:ZJ) (hl:f.Areas.length≤6) (k:(Int×Int×Int)⊕Unit→Option (Int×Int×Int)) (h1:∀ (i e:Int),k (.inl (i,e,4))=some (4,i,e)) (h2:k (.inr ())=some (0,0,0)) :
  Option.bind (X25 f 0) k=some (X1Z 0 f.Areas):=by
 have key:=X4 (W5 f) k f.Areas.length (fun i (_:Unit)=>(i:Int)) (fun _ _=>True) (fun i _=>some (X1Z i (f.Areas.drop i)))
  (by
   intro b _ R
   simp [W5,Wm,h2,X1Z])
  (by
   intro i b hi _ R hR
   have hR':=hR () trivial
   simp only [W5,Wm]
   rw [List.drop_eq_getElem_cons hi]
   simp only [Int.toNat_natCast,X0 _ _ _ hi,X1Z]
   have hw:IntKind.wrap .i64 ((i:Int)+1)=((i+1:Nat):Int):=by rw [w64]<;>omega
   rw [hw,X5z]
   have e1:decide ((i:Int)<↑f.Areas.length)=true:=by simp [hi]
   have e2:decide ((0:Int)≤↑i)=true:=by simp
   simp only [e1,e2,Bool.and_self,cond_true,Option.bind_some]
   by_cases h3:X3k f.Areas[i]=0
   ·simp only [h3,bne_self_eq_false,cond_false,Option.bind_some,Sum.elim_inl,if_true]
    exact hR'
   ·simp [h3,X1z h3,h1])
 exact (key 0 () (by omega) trivial).trans (by simp)

theorem X5n (f:ZJ):X3z f=some (WS f):=by
 rw [X4p];unfold X1r WS
 rw [X5v,X2C,X2C,X2C,X2C,X1K,X1K,X1K,X1K]
 simp only [Option.bind_some,Bool.not_not]
 by_cases h1:(X2U f.Chart).2.2=0
 ·simp only [h1,bne_self_eq_false,cond_false,ne_eq,not_true,if_false]
  cases X3 0 40000 [f.Day]
  ·cases X3 1 500 [f.Step]
   ·cases X3 0 8 [f.Half]
    ·cases hi:X3 1 4 [(f.Instruments.length:Int)]
     ·have hl:f.Instruments.length≤4:=by simp at hi;omega
      simp only [cond_false,Bool.or_self,Bool.false_eq_true,if_false]
      rw [X5B f hl _ (some (if 6<f.Areas.length then (4,0,3) else X1Z 0 f.Areas)) (fun i e y y' z=>rfl) (fun i e y y' z=>rfl) (fun l=>by
       simp only [Sum.elim_inr]
       by_cases h6:6<f.Areas.length
       ·have:decide ((f.Areas.length:Int)>6)=true:=by simp;omega
        rw [this];simp [h6]
       ·have:decide ((f.Areas.length:Int)>6)=false:=by simp;omega
        rw [this]
        simp only [cond_false,h6,if_false]
        exact X5A f (by omega) _ (fun i e=>rfl) rfl)]
      by_cases h3:(WJ 0 [] f.Instruments).2.2=0<;>simp [h3]
     ·simp
    ·simp
   ·simp
  ·simp
 ·simp [h1,X1z h1]
end Nore
open Go Go.Ab
namespace Nore

def X4n (d:Int):Int→List Zk→Int
 | c,[]=>c
 | c,p::l=>X4n d (if p.Day≤d then p.Colour else c) l
def X5u (m:Zw) (d:Int):Int:=X4n d 0 m.Paints

theorem X5e (d:Int) (p:Zk):∀ (l:List Zk) (c:Int),X4n d c (l++[p])=if p.Day≤d then p.Colour else X4n d c l
 | [],c=>rfl
 | q::l,c=>by simp only [List.cons_append,X4n,X5e d p l]

theorem X66 (d:Int) (l:List Zk) (hl:l.length<1000000) (k:(Zk×Int×Int)⊕Unit→Option (Zw×Int×Int)) (mk:Zw) (h1:∀ p c e,k (.inl (p,c,e))=some (mk,c,e)) (h2:k (.inr ())=some (mk,0,0)) :
  Option.bind (WZ d l ((l.length:Int)-1)) k=some (mk,X4n d 0 l,0):=by
 have key:=X4 (XC d l) k l.length (fun i (_:Unit)=>(l.length:Int)-1-i) (fun _ _=>True) (fun i _=>some (mk,X4n d 0 (l.take (l.length-i)),0))
  (by
   intro b _ R
   have:decide ((l.length:Int)-1-l.length≥0)=false:=by simp;omega
   simp only [XC,XK,this,cond_false,Option.bind_some,Sum.elim_inr,h2]
   simp [X4n])
  (by
   intro i b hi _ R hR
   have hR':=hR () trivial
   have ht:((l.length:Int)-1-i).toNat=l.length-1-i:=by omega
   have hj:l.length-1-i<l.length:=by omega
   simp only [XC,XK,ht,X0 _ _ _ hj]
   have e1:decide ((l.length:Int)-1-i≥0)=true:=by simp;omega
   have e2:decide ((0:Int)≤(l.length:Int)-1-i)=true:=by simp;omega
   have e3:decide ((l.length:Int)-1-i<l.length)=true:=by simp;omega
   have hw:IntKind.wrap .i64 ((l.length:Int)-1-i-1)=(l.length:Int)-1-((i+1:Nat):Int):=by rw [w64]<;>omega
   simp only [e1,e2,e3,Bool.and_self,cond_true,hw]
   have hs:l.take (l.length-i)=l.take (l.length-(i+1))++[l[l.length-1-i]]:=by
    have:=List.take_concat_get hj
    rw [show l.length-i=l.length-1-i+1 by omega,←this,List.concat_eq_append,show l.length-(i+1)=l.length-1-i by omega]
   rw [hs,X5e]
   by_cases h3:l[l.length-1-i].Day≤d
   ·simp [h3,h1]
   ·simp only [h3,decide_false,cond_false,Option.bind_some,Sum.elim_inl,if_false]
    exact hR')
 have:=key 0 () (by omega) trivial
 unfold WZ
 simpa using this

theorem X6h (l:List Zk) (h:X2z l=0):l.length≤4:=by
 unfold X2z at h
 cases ho:X3 1 4 [(l.length:Int)]
 ·simp at ho;omega
 ·rw [ho] at h;simp at h

theorem X67 (sands:List CtSand):∀ (l:List Zw) (i:Nat) (names:List ByteArray),(X3B sands i names l).2.2=0→∀ m∈l,X2D 30000 m.At=false∧m.Paints.length≤4
 | [],_,_,_,m,hm=>by cases hm
 | x::l,i,names,h,m,hm=>by
  simp only [X3B] at h
  by_cases h0:X2H x names=0
  ·simp only [h0,if_true] at h
   rcases List.mem_cons.1 hm with e|e
   ·subst e
    unfold X2H at h0
    by_cases h1:Wz m.Name names=0
    ·simp only [h1,if_true] at h0
     cases hf:X2D 30000 m.At
     ·rw [hf] at h0
      exact ⟨rfl,X6h _ (by simpa using h0)⟩
     ·rw [hf] at h0;simp at h0
    ·simp only [h1,if_false] at h0
   ·exact X67 sands l _ _ h m e
  ·simp only [h0,if_false] at h

structure X2e (f:ZJ):Prop where
 chart:(X2U f.Chart).2.2=0
 marks:f.Chart.Marks.length≤8
 mark:∀ m∈f.Chart.Marks,X2D 30000 m.At=false∧m.Paints.length≤4
 day:0≤f.Day∧f.Day≤40000
 step:1≤f.Step∧f.Step≤500
 half:0≤f.Half∧f.Half≤8
 inst:1≤f.Instruments.length∧f.Instruments.length≤4
 off:∀ x∈f.Instruments,-X4w x≤x.Off.Lo∧x.Off.Lo≤x.Off.Hi∧x.Off.Hi≤X4w x
 areas:f.Areas.length≤6
 area:∀ a∈f.Areas,X3k a=0

theorem X64:∀ (l:List Z5) (i:Nat) (names:List ByteArray),(WJ i names l).2.2=0→∀ x∈l,-X4w x≤x.Off.Lo∧x.Off.Lo≤x.Off.Hi∧x.Off.Hi≤X4w x
 | [],_,_,_,m,hm=>by cases hm
 | x::l,i,names,h,m,hm=>by
  simp only [WJ] at h
  by_cases h0:X58 x names=0
  ·simp only [h0,if_true] at h
   rcases List.mem_cons.1 hm with e|e
   ·subst e
    unfold X58 at h0
    by_cases h1:Wz m.Name names=0
    ·simp only [h1,ne_eq,not_true,if_false] at h0
     cases ho:X3 (-X4w m) (X4w m) [m.Off.Lo,m.Off.Hi]
     ·rw [ho] at h0
      simp at ho h0
      omega
     ·rw [ho] at h0;simp at h0
    ·simp only [ne_eq,h1,not_false_eq_true,if_true] at h0
   ·exact X64 l _ _ h m e
  ·simp only [h0,if_false] at h
theorem X60:∀ (l:List Zt) (i:Nat),(X1Z i l).2.2=0→∀ x∈l,X3k x=0
 | [],_,_,m,hm=>by cases hm
 | x::l,i,h,m,hm=>by
  simp only [X1Z] at h
  by_cases h0:X3k x=0
  ·simp only [h0,if_true] at h
   rcases List.mem_cons.1 hm with e|e
   ·subst e;exact h0
   ·exact X60 l _ h m e
  ·simp only [h0,if_false] at h

theorem X4P {f:ZJ} (h:(WS f).2.2=0):X2e f:=by
 unfold WS at h
 by_cases h1:(X2U f.Chart).2.2=0
 ·simp only [h1,ne_eq,not_true,if_false] at h
  cases h2:(X3 0 40000 [f.Day]||X3 1 500 [f.Step]||X3 0 8 [f.Half])
  ·rw [h2] at h
   cases h3:X3 1 4 [(f.Instruments.length:Int)]
   ·rw [h3] at h
    simp only [Bool.false_eq_true,if_false] at h
    by_cases h4:(WJ 0 [] f.Instruments).2.2=0
    ·simp only [h4,ne_eq,not_true,if_false] at h
     by_cases h5:6<f.Areas.length
     ·rw [if_pos h5] at h;simp at h
     ·rw [if_neg h5] at h
      simp at h2 h3
      have hm:¬ 8<f.Chart.Marks.length:=fun q=>by unfold X2U at h1;rw [if_pos q] at h1;simp at h1
      have h1':=h1
      unfold X2U at h1'
      rw [if_neg hm] at h1'
      exact ⟨h1,by omega,X67 _ _ _ _ h1',by omega,by omega,by omega,by omega,X64 _ _ _ h4,by omega,X60 _ _ h⟩
    ·exfalso
     rw [if_pos h4] at h;exact h4 h
   ·rw [h3] at h;simp at h
  ·rw [h2] at h;simp at h
 ·rw [if_pos h1] at h;exact absurd h h1

theorem X3H {f:ZJ} (hg:X2e f) (mark:Int) (h0:0≤mark) (h1:mark<f.Chart.Marks.length) :
  X2f f.Chart f.Day mark=some (f.Chart.Marks.getD mark.toNat ⟨ByteArray.empty,⟨0,0⟩,[]⟩,X5u (f.Chart.Marks.getD mark.toNat ⟨ByteArray.empty,⟨0,0⟩,[]⟩) f.Day,0):=by
 rw [X40];unfold X14
 have hm:=hg.marks
 have hd:=hg.day
 have hj:mark.toNat<f.Chart.Marks.length:=by omega
 have hp:=(hg.mark _ (List.getElem_mem hj)).2
 have hw:IntKind.wrap .i64 ((f.Chart.Marks.length:Int)-1)=(f.Chart.Marks.length:Int)-1:=by rw [w64]<;>omega
 rw [X49,Wo _ _ _ (by simp),Wo _ _ _ (by simp),hw]
 have o1:X3 0 40000 [f.Day]=false:=by simp;omega
 have o2:X3 0 ((f.Chart.Marks.length:Int)-1) [mark]=false:=by simp;omega
 have e1:decide (0≤mark)=true:=by simp [h0]
 have e2:decide (mark<(f.Chart.Marks.length:Int))=true:=by simp [h1]
 simp only [Option.bind_some,hg.chart,bne_self_eq_false,cond_false,o1,o2,e1,e2,Bool.and_self,cond_true,X0 _ _ _ hj]
 have hw2:IntKind.wrap .i64 ((f.Chart.Marks[mark.toNat].Paints.length:Int)-1)=(f.Chart.Marks[mark.toNat].Paints.length:Int)-1:=by rw [w64]<;>omega
 rw [hw2]
 exact X66 f.Day _ (by omega) _ _ (fun p c e=>rfl) rfl

def Z8y (f:ZJ) (mark:Int):Zw:=f.Chart.Marks.getD mark.toNat ⟨ByteArray.empty,⟨0,0⟩,[]⟩
def X1x (f:ZJ) (mark:Int):Bool:=X5u (Z8y f mark) f.Day != 0

theorem X6m {f:ZJ} (hg:X2e f) (mark:Int) (h0:0≤mark) (h1:mark<f.Chart.Marks.length) (l:List Zm) (kit:Nat→Nat) (m:List (Zh×Int)) :
  XA (mark,f,l,kit,m)=some (X1x f mark,f,l,kit,m):=by
 rw [X2o];unfold Xo
 rw [X3Y];unfold X13
 rw [X3H hg mark h0 h1]
 rfl

def Kit (f:ZJ) (kit:Nat→Nat):Prop:=∀ i,(h:i<f.Instruments.length)→kit i=if f.Instruments[i].Lead then 2 else 1
def X2M (f:ZJ) (i:Int):Z5:=f.Instruments.getD i.toNat ⟨ByteArray.empty,false,⟨0,0⟩⟩

def X26 (f:ZJ) (x:Zm):Int :=
 if X3 0 ((f.Instruments.length:Int)-1) [x.Instrument] then 4 else
 if (X2M f x.Instrument).Lead then (if X3 0 1000 [x.Shown]||X3 0 4 [x.Ground] then 7 else if x.Mark≠0 then 2 else 0)
 else if X3 0 ((f.Chart.Marks.length:Int)-1) [x.Mark] then 4 else if X1x f x.Mark=false then 9 else if X3 0 31 [x.Shown] then 7 else if x.Ground≠0 then 7 else 0

theorem X6z {f:ZJ} (hg:X2e f) (x:Zm) (l:List Zm) {kit:Nat→Nat} (hk:Kit f kit) (m:List (Zh×Int)) :
  Wv (x,f,l,kit,m)=some (X26 f x,f,l,kit,m):=by
 rw [X2F];unfold Xw X26
 have hm:=hg.marks
 have hi:=hg.inst
 have hw:IntKind.wrap .i64 ((f.Chart.Marks.length:Int)-1)=(f.Chart.Marks.length:Int)-1:=by rw [w64]<;>omega
 have hw2:IntKind.wrap .i64 ((f.Instruments.length:Int)-1)=(f.Instruments.length:Int)-1:=by rw [w64]<;>omega
 simp only [hw,hw2]
 rw [X1 _ _ _ (by simp),X1 _ _ _ (by simp),X1 _ _ _ (by simp),X1 _ _ _ (by simp),X1 _ _ _ (by simp)]
 simp only [Option.bind_some]
 cases ho:X3 0 ((f.Instruments.length:Int)-1) [x.Instrument]
 ·simp at ho
  have hj:x.Instrument.toNat<f.Instruments.length:=by omega
  have e1:decide (0≤x.Instrument)=true:=by simp;omega
  have e2:decide (x.Instrument<((4:Nat):Int))=true:=by simp;omega
  have e3:Nat.blt x.Instrument.toNat 4=true:=by rw [Tr.blt_dec];simp;omega
  have hkk:=hk _ hj
  have hio:X2M f x.Instrument=f.Instruments[x.Instrument.toNat]:=X0 _ _ _ hj
  rw [hio]
  have e2':decide (x.Instrument<(4:Int))=true:=by simp;omega
  simp only [cond_false,Bool.false_eq_true,if_false,e1,e2,e2',e3,Bool.and_self,cond_true]
  cases hL:f.Instruments[x.Instrument.toNat].Lead
  ·rw [hL] at hkk
   simp only [Bool.false_eq_true,if_false] at hkk
   simp only [hkk,show Nat.beq 1 0=false from rfl,show Nat.beq 1 1=true from rfl,cond_false,cond_true,Bool.false_eq_true,if_false]
   cases hmk:X3 0 ((f.Chart.Marks.length:Int)-1) [x.Mark]
   ·simp at hmk
    simp only [cond_false,Bool.false_eq_true,if_false]
    rw [X6m hg x.Mark (by omega) (by omega)]
    simp only [Option.bind_some]
    cases X1x f x.Mark
    ·simp
    ·cases X3 0 31 [x.Shown]
     ·by_cases h5:x.Ground=0<;>simp [h5,X1z]
     ·simp
   ·simp
  ·rw [hL] at hkk
   simp only [if_true] at hkk
   simp only [hkk,show Nat.beq 2 0=false from rfl,show Nat.beq 2 1=false from rfl,show Nat.beq 2 (1+1)=true from rfl,cond_false,cond_true,if_true]
   cases X3 0 1000 [x.Shown]
   ·cases X3 0 4 [x.Ground]
    ·by_cases h5:x.Mark=0<;>simp [h5,X1z]
    ·simp
   ·simp
 ·simp

def WF (f:ZJ):Nat→List Zm→Int×Int
 | _,[]=>(0,0)
 | i,x::l=>if X26 f x=0 then WF f (i+1) l else ((i:Int),X26 f x)
def X2h (f:ZJ) (l:List Zm):Int×Int:=if (WS f).2.2≠0 then (0,(WS f).2.2) else if 8<l.length then (0,3) else WF f 0 l

theorem X6G (f:ZJ) (hi:f.Instruments.length≤4):∃ kit,X21 f.Instruments (↑f.Instruments.length) (0,fun _=>0)=some kit∧Kit f kit:=by
 have key:∀ j i (b:Nat→Nat),f.Instruments.length-i=j→i≤f.Instruments.length→(∀ q,(h:q<f.Instruments.length)→q<i→b q=if f.Instruments[q].Lead then 2 else 1) →
   ∃ kit,Z8S (XX f.Instruments (↑f.Instruments.length)) ((i:Int),b)=some kit∧Kit f kit:=fun j=>by
  induction j with
  | zero =>
   intro i b hj hil hb
   have:i=f.Instruments.length:=by omega
   subst this
   refine ⟨b,?_,fun q hq=>hb q hq hq⟩
   rw [←X1y (Z8S _ _),X2T]
   simp [XX,Wd]
  | succ j ih =>
   intro i b hj hil hb
   have hlt:i<f.Instruments.length:=by omega
   have hw:IntKind.wrap .i64 ((i:Int)+1)=((i+1:Nat):Int):=by rw [w64]<;>omega
   have e1:decide ((i:Int)<↑f.Instruments.length)=true:=by simp [hlt]
   have e2:decide ((0:Int)≤↑i)=true:=by simp
   have e3:decide ((i:Int)<((4:Nat):Int))=true:=by simp;omega
   have e3':decide ((i:Int)<(4:Int))=true:=by simp;omega
   have e4:Nat.blt i 4=true:=by rw [Tr.blt_dec];simp;omega
   obtain ⟨kit,h1,h2⟩:=ih (i+1) (fun q=>if q=i then (if f.Instruments[i].Lead then 2 else 1) else b q) (by omega) (by omega) (fun q hq hq2=>by
    by_cases e:q=i
    ·subst e;simp
    ·simp only [e,if_false];exact hb q hq (by omega))
   refine ⟨kit,?_,h2⟩
   rw [←X1y (Z8S _ _),X2T]
   simp only [XX,Wd,Int.toNat_natCast,X0 _ _ _ hlt,hw,e1,e2,e3,e3',e4,Bool.and_self,cond_true]
   have hfun:(fun j=>bif Nat.beq j i then 1+1 else bif Nat.beq j i then 1 else b j)=fun q=>if q=i then 2 else b q:=by
    funext q;rw [Tr.beq_dec];by_cases e:q=i<;>simp [e]
   have hfun2:(fun j=>bif Nat.beq j i then 1 else b j)=fun q=>if q=i then 1 else b q:=by
    funext q;rw [Tr.beq_dec];by_cases e:q=i<;>simp [e]
   rw [hfun,hfun2]
   cases hL:f.Instruments[i].Lead
   ·rw [hL] at h1
    simp only [Bool.false_eq_true,if_false] at h1
    simp only [cond_false,Option.bind_some,Sum.elim_inl]
    rw [X1y];exact h1
   ·rw [hL] at h1
    simp only [if_true] at h1
    simp only [cond_true,Option.bind_some,Sum.elim_inl]
    rw [X1y];exact h1
 exact key _ 0 _ rfl (by omega) (fun q _ h=>by omega)

theorem X6y {f:ZJ} (hg:X2e f) (l:List Zm) (h8:l.length≤8) {kit:Nat→Nat} (hk:Kit f kit) {γ:Type} (k:_→Option γ) :
  Option.bind (X22 l (↑l.length) (0,f,l,kit,[])) k=if (WF f 0 l).2=0 then k (.inr (f,l,kit,[])) else k (.inl ((WF f 0 l).2,(WF f 0 l).1,f,l,kit,l.getD (WF f 0 l).1.toNat ⟨0,0,0,0⟩,l.getD (WF f 0 l).1.toNat ⟨0,0,0,0⟩,[])):=by
 refine (X4 (XY l (↑l.length)) k l.length (fun i (_:Unit)=>((i:Int),f,l,kit,[])) (fun _ _=>True) (fun i _=>if (WF f i (l.drop i)).2=0 then k (.inr (f,l,kit,[])) else k (.inl ((WF f i (l.drop i)).2,(WF f i (l.drop i)).1,f,l,kit,l.getD (WF f i (l.drop i)).1.toNat ⟨0,0,0,0⟩,l.getD (WF f i (l.drop i)).1.toNat ⟨0,0,0,0⟩,[])))
  (by
   intro b _ R
   simp [XY,We,WF])
  (by
   intro i b hi _ R hR
   have hR':=hR () trivial
   simp only [XY,We]
   rw [List.drop_eq_getElem_cons hi]
   have hw:IntKind.wrap .i64 ((i:Int)+1)=((i+1:Nat):Int):=by rw [w64]<;>omega
   simp only [Int.toNat_natCast,X0 _ _ _ hi,hw,WF]
   rw [X6z hg _ _ hk]
   have h1:decide ((i:Int)<↑l.length)=true:=by simp [hi]
   have h2:decide ((0:Int)≤↑i)=true:=by simp
   simp only [h1,h2,Bool.and_self,cond_true,Option.bind_some]
   by_cases he:X26 f l[i]=0
   ·simp only [he,bne_self_eq_false,cond_false,Option.bind_some,Sum.elim_inl,if_true]
    exact hR'
   ·simp only [X1z he,cond_true,Option.bind_some,Sum.elim_inr,if_neg he]
    rw [show ((i:Int)).toNat=i from rfl,X0 _ _ _ hi]) 0 () (by omega) trivial).trans (by simp)

theorem X6v (f:ZJ) (l:List Zm):((WS f).2.2≠0∨8<l.length)∧X1J (l,f)=some (.inl (X2h f l).2)∧(X2h f l).2≠0 ∨
  ∃ kit,X2e f∧l.length≤8∧Kit f kit∧X1J (l,f)=some (.inr ((X2h f l).2,f,l,kit,[])):=by
 rw [X44];unfold X19
 rw [X4f];unfold X1n
 rw [X5G]
 unfold X2h
 simp only [Option.bind_some]
 by_cases h:(WS f).2.2=0
 ·have hg:=X4P h
  simp only [h,bne_self_eq_false,cond_false,ne_eq,not_true,if_false]
  by_cases h8:8<l.length
  ·have:decide ((l.length:Int)>8)=true:=by simp;omega
   rw [this];simp [h8]
  ·have:decide ((l.length:Int)>8)=false:=by simp;omega
   rw [this]
   simp only [cond_false,h8,if_false]
   obtain ⟨kit,hk1,hk2⟩:=X6G f hg.inst.2
   refine .inr ⟨kit,hg,by omega,hk2,?_⟩
   rw [hk1,Option.bind_some]
   rw [X6y hg l (by omega) hk2]
   by_cases he:(WF f 0 l).2=0<;>simp [he]
 ·left
  simp [h,X1z h]
end Nore
open Go Go.Ab
namespace Nore

theorem X54 {β σ ω γ:Type} (st:σ→Option (σ⊕ω)) (k:ω→Option γ) (n:Nat) (emb:Nat→β→σ) (P:Nat→β→Prop) (Q:Nat→β→Option γ→Prop)
  (hd:∀ b,P n b→∀ R:σ→Option γ,Q n b (Option.bind (st (emb n b)) (Sum.elim R k)))
  (hn:∀ i b,i<n→P i b→∀ R:σ→Option γ,(∀ b',P (i+1) b'→Q (i+1) b' (R (emb (i+1) b')))→Q i b (Option.bind (st (emb i b)) (Sum.elim R k))) :
  ∀ i b,i≤n→P i b→Q i b (Option.bind (Z8S st (emb i b)) k):=by
 intro i b hi hP
 induction hj:n-i generalizing i b with
 | zero =>
  have:i=n:=by omega
  subst this
  rw [X2T];exact hd b hP _
 | succ j ih =>
  rw [X2T]
  exact hn i b (by omega) hP _ fun b' hb'=>ih (i+1) b' (by omega) hb' (by omega)

instance decPoint:DecidableEq Zu:=fun a b=>decidable_of_iff (a.X=b.X∧a.Y=b.Y) ⟨fun h=>Zu.ext h.1 h.2,fun h=>by subst h;exact ⟨rfl,rfl⟩⟩

def X3w (v:Zu):Int×Zu :=
 if 0≤v.X∧0<v.Y then (0,v) else if 0<v.X∧v.Y≤0 then (8,⟨-v.Y,v.X⟩) else if v.X≤0∧v.Y<0 then (16,⟨-v.X,-v.Y⟩) else (24,⟨v.Y,-v.X⟩)
def Xa:List Zu:=[⟨0,1000⟩,⟨195,981⟩,⟨383,924⟩,⟨556,831⟩,⟨707,707⟩,⟨831,556⟩,⟨924,383⟩,⟨981,195⟩]
def X5Q (v:Zu) (l:List Zu):Nat:=l.countP fun q=>decide (q.X*v.Y-q.Y*v.X≤0)
def X4o (v:Zu):Int:=(X3w v).1+(X5Q (X3w v).2 Xa:Nat)-1

theorem X6q {v:Zu} (hb : -60000≤v.X∧v.X≤60000 ∧ -60000≤v.Y∧v.Y≤60000) (h0:¬ (v.X=0∧v.Y=0)):0≤(X3w v).1∧(X3w v).1≤24∧0≤(X3w v).2.X∧(X3w v).2.X≤60000∧0<(X3w v).2.Y∧(X3w v).2.Y≤60000:=by
 unfold X3w
 split
 ·simp only;omega
 ·split
  ·simp only;omega
  ·split<;>simp only<;>omega

theorem X5W {γ:Type} (v:Zu) (hb : -60000≤v.X∧v.X≤60000 ∧ -60000≤v.Y∧v.Y≤60000) (h0:¬ (v.X=0∧v.Y=0)) (k:Int×Zu→Option γ) :
  Option.bind (X10 (0,v)) k=k (X3w v):=by
 obtain ⟨x,y⟩:=v
 simp only at hb h0
 have stop:∀ (n:Int) (x y:Int),0≤x→0<y→Option.bind (Z8S X7 (n,⟨x,y⟩)) k=k (n,⟨x,y⟩):=fun n x y hx hy=>by
  rw [X2T]
  have e1:decide (x<0)=false:=by simp;omega
  have e2:decide (y≤0)=false:=by simp;omega
  simp only [X7,Xk,e1,e2,cond_false,Option.bind_some,Sum.elim_inr]
 have go:∀ (n:Int) (x y:Int),0≤n→n≤24 → -60000≤x→x≤60000 → -60000≤y→y≤60000→(x<0∨y≤0)→Option.bind (Z8S X7 (n,⟨x,y⟩)) k=Option.bind (Z8S X7 (n+8,⟨-y,x⟩)) k:=fun n x y h1 h2 h3 h4 h5 h6 h7=>by
  rw [X2T]
  have w1:IntKind.wrap .i64 (n+8)=n+8:=by rw [w64]<;>omega
  have w2:IntKind.wrap .i64 (0-y) = -y:=by rw [w64]<;>omega
  by_cases e1:x<0
  ·simp only [X7,Xk,e1,decide_true,cond_true,Option.bind_some,Sum.elim_inl,w1,w2]
  ·have e2:y≤0:=by omega
   simp only [X7,Xk,e1,e2,decide_true,decide_false,cond_true,cond_false,Option.bind_some,Sum.elim_inl,w1,w2]
 unfold X10 X3w
 simp only
 by_cases c1:0≤x∧0<y
 ·rw [if_pos c1];exact stop _ _ _ c1.1 c1.2
 ·rw [if_neg c1]
  by_cases c2:0<x∧y≤0
  ·rw [if_pos c2,go 0 x y (by omega) (by omega) (by omega) (by omega) (by omega) (by omega) (by omega)]
   exact stop _ _ _ (by omega) (by omega)
  ·rw [if_neg c2]
   by_cases c3:x≤0∧y<0
   ·rw [if_pos c3,go 0 x y (by omega) (by omega) (by omega) (by omega) (by omega) (by omega) (by omega),go _ _ _ (by omega) (by omega) (by omega) (by omega) (by omega) (by omega) (by omega)]
    exact stop _ _ _ (by omega) (by omega)
   ·rw [if_neg c3,go 0 x y (by omega) (by omega) (by omega) (by omega) (by omega) (by omega) (by omega),go _ _ _ (by omega) (by omega) (by omega) (by omega) (by omega) (by omega) (by omega),go _ _ _ (by omega) (by omega) (by omega) (by omega) (by omega) (by omega) (by omega)]
    rw [show (- - y:Int)=y by omega]
    exact stop _ _ _ (by omega) (by omega)

theorem X5X {γ:Type} (q:Nat→Zu) (hq:∀ i,(h:i<8)→q i=Xa[i]) (v:Zu) (hb:0≤v.X∧v.X≤60000∧0≤v.Y∧v.Y≤60000) (n:Int) (hn:0≤n∧n≤24) (k:Int→Option γ) :
  Option.bind (X1P q v (n,0)) k=k (n+(X5Q v Xa:Nat)):=by
 refine (X4 (XE q v) k 8 (fun i (b:Int)=>(b,(i:Int))) (fun i b=>0≤b∧b≤24+i) (fun i b=>k (b+(X5Q v (Xa.drop i):Nat))) ?_ ?_ 0 n (by omega) (by omega)).trans (by simp)
 ·intro b _ R
  simp [XE,XN,X5Q,Xa]
 ·intro i b hi hP R hR
  simp only [XE,XN]
  rw [List.drop_eq_getElem_cons (show i<Xa.length from hi)]
  have hw:IntKind.wrap .i64 ((i:Int)+1)=((i+1:Nat):Int):=by rw [w64]<;>omega
  have hwb:IntKind.wrap .i64 (b+1)=b+1:=by rw [w64]<;>omega
  have e1:decide ((i:Int)<8)=true:=by simp;omega
  have e2:decide ((0:Int)≤↑i)=true:=by simp
  have e3:decide ((i:Int)<((8:Nat):Int))=true:=by simp;omega
  have hqb:0≤(Xa[i]'hi).X∧(Xa[i]'hi).X≤1000∧0≤(Xa[i]'hi).Y∧(Xa[i]'hi).Y≤1000:=by
   have:i=0∨i=1∨i=2∨i=3∨i=4∨i=5∨i=6∨i=7:=by omega
   rcases this with rfl|rfl|rfl|rfl|rfl|rfl|rfl|rfl<;>simp [Xa]
  have b1:=X3C (a:=(Xa[i]'hi).X) (b:=v.Y) 1000 60000 (by omega) (by omega) (by omega) (by omega)
  have b2:=X3C (a:=(Xa[i]'hi).Y) (b:=v.X) 1000 60000 (by omega) (by omega) (by omega) (by omega)
  simp only [Int.toNat_natCast,hq i hi,hw,hwb]
  rw [w64 (x:=(Xa[i]'hi).X*v.Y) (by omega) (by omega),w64 (x:=(Xa[i]'hi).Y*v.X) (by omega) (by omega),w64 (x:=(Xa[i]'hi).X*v.Y-_) (by omega) (by omega)]
  simp only [e1,e2,e3,Bool.and_self,cond_true]
  unfold X5Q at hR ⊢
  generalize Xa[i]'hi=Q at *
  by_cases h:Q.X*v.Y-Q.Y*v.X≤0
  ·rw [List.countP_cons_of_pos (by simpa using h)]
   simp only [h,decide_true,cond_true,Option.bind_some,Sum.elim_inl]
   rw [hR (b+1) (by omega)]
   congr 1
   push_cast
   omega
  ·rw [List.countP_cons_of_neg (by simpa using h)]
   simp only [h,decide_false,cond_false,Option.bind_some,Sum.elim_inl]
   exact hR b (by omega)

theorem X51 (v:Zu) (hb : -60000≤v.X∧v.X≤60000 ∧ -60000≤v.Y∧v.Y≤60000) (h0:¬ (v.X=0∧v.Y=0)):X32 v=some (X4o v):=by
 rw [X42];unfold X16
 have hq:=X6q hb h0
 rw [X5W v hb h0,X5X _ (fun i hi=>by
   have:i=0∨i=1∨i=2∨i=3∨i=4∨i=5∨i=6∨i=7:=by omega
   rcases this with rfl|rfl|rfl|rfl|rfl|rfl|rfl|rfl<;>rfl) _ (by omega) _ (by omega)]
 have hc:X5Q (X3w v).2 Xa≤8:=List.countP_le_length (l:=Xa)
 unfold X4o
 rw [w64 (by omega) (by omega)]

theorem X6L {v:Zu} (hb : -60000≤v.X∧v.X≤60000 ∧ -60000≤v.Y∧v.Y≤60000) (h0:¬ (v.X=0∧v.Y=0)):0≤X4o v∧X4o v≤31:=by
 have hq:=X6q hb h0
 have hc:X5Q (X3w v).2 Xa≤8:=List.countP_le_length (l:=Xa)
 have h1:1≤X5Q (X3w v).2 Xa:=by
  unfold X5Q Xa
  rw [List.countP_cons_of_pos (by simp;omega)]
  omega
 unfold X4o
 omega

def X4G (f:ZJ) (mark:Int) (p:Zu):Int×Int :=
 if X1x f mark=false then (0,9) else if X2D 30000 p then (0,7) else if (Z8y f mark).At=p then (0,8) else (X4o (Xt (Z8y f mark).At p),0)
def X2d (f:ZJ) (mark:Int) (p:Zu):Int:=if (X4G f mark p).2≠0 then -1 else (X4G f mark p).1

theorem X6p {f:ZJ} (hg:X2e f) {mark:Int} (h0:0≤mark) (h1:mark<f.Chart.Marks.length):Bd 30000 (Z8y f mark).At:=by
 have hj:mark.toNat<f.Chart.Marks.length:=by omega
 have:=(hg.mark _ (List.getElem_mem hj)).1
 rw [X4L] at this
 unfold Z8y
 rw [X0 _ _ _ hj];exact this

theorem X4a {f:ZJ} (hg:X2e f) (mark:Int) (h0:0≤mark) (h1:mark<f.Chart.Marks.length) (p:Zu):X36 f.Chart f.Day mark p=some (X4G f mark p):=by
 rw [X4z];unfold X1A X4G
 rw [X3m];unfold Wu
 rw [X3H hg mark h0 h1]
 have hb:=X6p hg h0 h1
 unfold X1x Z8y at *
 generalize hM:f.Chart.Marks.getD mark.toNat ⟨ByteArray.empty,⟨0,0⟩,[]⟩=M at *
 simp only [Option.bind_some,beq_self_eq_true,cond_true]
 by_cases hp:X5u M f.Day=0
 ·simp [hp]
 ·simp only [X4y hp,cond_false,Option.bind_some,bne_self_eq_false,X1z hp,Bool.true_eq_false,if_false]
  rw [X3P _ (by omega) _ (by simp)]
  simp only [Option.bind_some,List.any_cons,List.any_nil,Bool.or_false]
  cases hf:X2D 30000 p
  ·rw [X4L] at hf
   unfold Bd at hb hf
   simp only [cond_false,Bool.false_eq_true,if_false,Bool.and_true]
   by_cases he:M.At=p
   ·subst he;simp
   ·have:(M.At.X==p.X&&M.At.Y==p.Y)=false:=by
     cases hc:(M.At.X==p.X&&M.At.Y==p.Y)
     ·rfl
     ·exfalso;simp at hc;exact he (Zu.ext hc.1 hc.2)
    rw [this,if_neg he]
    simp only [cond_false]
    rw [w64 (x:=M.At.X-p.X) (by omega) (by omega),w64 (x:=M.At.Y-p.Y) (by omega) (by omega)]
    have h00:¬ (M.At.X-p.X=0∧M.At.Y-p.Y=0):=fun q=>he (Zu.ext (by omega) (by omega))
    rw [X51 _ (by simp only;omega) h00]
    rfl
  ·simp

theorem X6r {f:ZJ} (hg:X2e f) {mark:Int} (h0:0≤mark) (h1:mark<f.Chart.Marks.length) (p:Zu) : -1≤X2d f mark p∧X2d f mark p≤31:=by
 have hb:=X6p hg h0 h1
 unfold X2d X4G
 by_cases h:X1x f mark=false
 ·simp [h]
 ·rw [if_neg h]
  by_cases h3:X2D 30000 p=true
  ·simp [h3]
  ·rw [if_neg h3]
   by_cases h4:(Z8y f mark).At=p
   ·simp [h4]
   ·rw [if_neg h4]
    simp only [Bool.not_eq_true] at h3
    rw [X4L] at h3
    unfold Bd at hb h3
    have:=X6L (v:=Xt (Z8y f mark).At p) (by unfold Xt;simp only;omega) (fun q=>h4 (by unfold Xt at q;simp only at q;exact Zu.ext (by omega) (by omega)))
    simp only [ne_eq,not_true,if_false]
    omega

theorem X3X (a b:Zh):Zh.eqb a b=true↔a=b:=by
 obtain ⟨m,⟨x,y⟩⟩:=a
 obtain ⟨m',⟨x',y'⟩⟩:=b
 simp [Zh.eqb]
theorem X5d {v:Int} (s k:Zh):∀ m:List (Zh×Int),Z8z Zh.eqb s (Zgh Zh.eqb k v m)=bif Zh.eqb s k then some v else Z8z Zh.eqb s m
 | []=>by
  simp only [Zgh,Z8z]
 | (a,b)::m=>by
  have ih:=X5d (v:=v) s k m
  simp only [Zgh]
  have sym:∀ x y,Zh.eqb x y=Zh.eqb y x:=fun x y=>by
   cases h:Zh.eqb y x with
   | true=>rw [(X3X _ _).1 h,(X3X x x).2 rfl]
   | false=>cases h2:Zh.eqb x y with
    | false=>rfl
    | true=>rw [(X3X _ _).1 h2,(X3X y y).2 rfl] at h;cases h
  cases e:Zh.eqb a k with
  | true =>
   have:=(X3X _ _).1 e
   subst this
   simp only [e,cond_true,Z8z]
   cases Zh.eqb s a<;>rfl
  | false =>
   have e6:Zh.eqb k a=false:=by rw [sym];exact e
   simp only [e,e6,cond_false,Z8z,ih]
   cases h:Zh.eqb s k with
   | true =>
    have:=(X3X _ _).1 h
    subst this
    simp [e,e6]
   | false=>rfl

def X1d (f:ZJ) (m:List (Zh×Int)):Prop:=∀ (mark:Int) p n,0≤mark→mark<f.Chart.Marks.length→Z8z Zh.eqb ⟨mark,p⟩ m=some n→n=X2d f mark p
theorem X6a (f:ZJ):X1d f []:=fun _ _ _ _ _ h=>by cases h

theorem X6n {f:ZJ} (hg:X2e f) {mark:Int} (h0:0≤mark) (h1:mark<f.Chart.Marks.length) (p:Zu) (l:List Zm) (kit:Nat→Nat) {m:List (Zh×Int)} (hm:X1d f m) :
  ∃ m',X1d f m'∧XB (mark,p,f,l,kit,m)=some (X2d f mark p,f,l,kit,m'):=by
 rw [X2s];unfold Xp
 cases hf:Z8z Zh.eqb ⟨mark,p⟩ m with
 | some n=>exact ⟨m,hm,by simp only [hf,Option.isSome_some,Bool.not_true,cond_false,Option.getD_some];rw [hm _ _ _ h0 h1 hf]⟩
 | none =>
  simp only [hf,Option.isSome_none,Bool.not_false,cond_true]
  rw [X4a hg mark h0 h1]
  have put:∀ v,v=X2d f mark p→X1d f (Zgh Zh.eqb ⟨mark,p⟩ v m):=fun v hv mk q n k0 k1 hq=>by
   rw [X5d] at hq
   cases e:Zh.eqb ⟨mk,q⟩ ⟨mark,p⟩ with
   | true =>
    rw [e] at hq
    cases (X3X _ _).1 e;cases hq;exact hv
   | false =>
    rw [e] at hq
    exact hm _ _ _ k0 k1 hq
  simp only [Option.bind_some]
  by_cases he:(X4G f mark p).2=0
  ·have hs:X2d f mark p=(X4G f mark p).1:=by unfold X2d;rw [if_neg (by simp [he])]
   refine ⟨_,put _ hs.symm,?_⟩
   simp only [he,bne_self_eq_false,cond_false,hs]
  ·have hs:X2d f mark p = -1:=by unfold X2d;rw [if_pos he]
   refine ⟨_,put _ hs.symm,?_⟩
   simp only [X1z he,cond_true,hs]

def X6E (shown Z5R:Int):Int:=if (shown-Z5R+32) % 32>16 then (shown-Z5R+32) % 32-32 else (shown-Z5R+32) % 32
def X3V (a:Zt) (p:Zu):Bool := !X3 a.X.Lo a.X.Hi [p.X] && !X3 a.Y.Lo a.Y.Hi [p.Y]
def X6C (f:ZJ) (p:Zu):Option Zt:=f.Areas.find? fun a=>X3V a p
def X1W (f:ZJ) (p:Zu) (x:Zm):ZE×Bool :=
 if (X2M f x.Instrument).Lead then (match X6C f p with
  | none=>(⟨-20,20⟩,true)
  | some a=>(⟨x.Shown-a.Depth.Hi,x.Shown-a.Depth.Lo⟩,x.Ground==0||x.Ground==a.Ground))
 else (⟨X6E x.Shown (X2d f x.Mark p),X6E x.Shown (X2d f x.Mark p)⟩,decide (X2d f x.Mark p≥0))

theorem X5C {f:ZJ} {x:Zm} (h:X26 f x=0):(0≤x.Instrument∧x.Instrument<f.Instruments.length)∧((X2M f x.Instrument).Lead=true→0≤x.Shown∧x.Shown≤1000∧0≤x.Ground∧x.Ground≤4∧x.Mark=0) ∧
  ((X2M f x.Instrument).Lead=false→0≤x.Mark∧x.Mark<f.Chart.Marks.length∧X1x f x.Mark=true∧0≤x.Shown∧x.Shown≤31∧x.Ground=0):=by
 unfold X26 at h
 cases h1:X3 0 ((f.Instruments.length:Int)-1) [x.Instrument]
 ·rw [h1] at h
  simp only [Bool.false_eq_true,if_false] at h
  simp at h1
  refine ⟨by omega,fun hL => ?_,fun hL => ?_⟩
  ·rw [if_pos hL] at h
   cases h2:X3 0 1000 [x.Shown]
   ·cases h3:X3 0 4 [x.Ground]
    ·rw [h2,h3] at h
     simp at h h2 h3
     omega
    ·rw [h2,h3] at h;simp at h
   ·rw [h2] at h;simp at h
  ·rw [if_neg (by simp [hL])] at h
   cases h2:X3 0 ((f.Chart.Marks.length:Int)-1) [x.Mark]
   ·rw [h2] at h
    cases h3:X1x f x.Mark
    ·rw [h3] at h;simp at h
    ·cases h4:X3 0 31 [x.Shown]
     ·rw [h3,h4] at h
      simp at h h2 h4
      exact ⟨by omega,by omega,rfl,by omega,by omega,by omega⟩
     ·rw [h3,h4] at h;simp at h
   ·rw [h2] at h;simp at h
 ·rw [h1] at h;simp at h

theorem X62 {f:ZJ} (hg:X2e f) {x:Zm} (hx:X26 f x=0) (hL:(X2M f x.Instrument).Lead=false) (p:Zu) (l:List Zm) (kit:Nat→Nat) {m:List (Zh×Int)} (hm:X1d f m) :
  ∃ m',X1d f m'∧Xe (p,x,f,l,kit,m)=some ((X1W f p x).1,(X1W f p x).2,f,l,kit,m'):=by
 obtain ⟨h1,_,h3⟩:=X5C hx
 have h3:=h3 hL
 obtain ⟨m',hm',ht⟩:=X6n hg h3.1 h3.2.1 p l kit hm
 refine ⟨m',hm',?_⟩
 rw [X2u];unfold Xq X1W X6E
 rw [ht,if_neg (by simp [hL])]
 have hs:=X6r hg h3.1 h3.2.1 p
 generalize X2d f x.Mark p=s at *
 simp only [Option.bind_some]
 rw [w64 (x:=x.Shown-s) (by omega) (by omega),w64 (x:=x.Shown-s+32) (by omega) (by omega)]
 have ht:(x.Shown-s+32).tmod 32=(x.Shown-s+32) % 32:=Int.tmod_eq_emod_of_nonneg (by omega)
 rw [ht]
 by_cases hc:(x.Shown-s+32) % 32>16
 ·have hw:IntKind.wrap .i64 ((x.Shown-s+32) % 32-32)=(x.Shown-s+32) % 32-32:=by rw [w64]<;>omega
  simp only [hc,decide_true,cond_true,if_true,hw]
 ·simp only [hc,decide_false,cond_false,if_false]

theorem X6O {a:Zt} (h:X3k a=0):0≤a.Depth.Lo∧a.Depth.Lo≤a.Depth.Hi∧a.Depth.Hi≤1000∧a.X.Lo≤a.X.Hi∧a.Y.Lo≤a.Y.Hi∧1≤a.Ground∧a.Ground≤4:=by
 unfold X3k at h
 cases h1:(X3 (-30000) 30000 [a.X.Lo,a.X.Hi,a.Y.Lo,a.Y.Hi]||X3 0 1000 [a.Depth.Lo,a.Depth.Hi]||X3 1 4 [a.Ground])
 ·rw [h1] at h
  simp at h h1
  omega
 ·rw [h1] at h;simp at h

theorem X6H {f:ZJ} (hg:X2e f) {x:Zm} (hx:X26 f x=0) (hL:(X2M f x.Instrument).Lead=true) (p:Zu) (l:List Zm) (kit:Nat→Nat) (m:List (Zh×Int)) :
  XF (p,x,f,l,kit,m)=some ((X1W f p x).1,(X1W f p x).2,f,l,kit,m):=by
 obtain ⟨h1,h2,_⟩:=X5C hx
 have h2:=h2 hL
 rw [X2Y];unfold XO X1W
 rw [if_pos hL]
 have ha:=hg.areas
 refine (X4 (Xd (↑f.Areas.length) f.Areas p) _ f.Areas.length (fun i (_:Unit)=>(i:Int)) (fun _ _=>True) (fun i _=>match (f.Areas.drop i).find? fun a=>X3V a p with
   | none=>some (⟨-20,20⟩,true,f,l,kit,m)
   | some a=>some (⟨x.Shown-a.Depth.Hi,x.Shown-a.Depth.Lo⟩,x.Ground==0||x.Ground==a.Ground,f,l,kit,m)) ?_ ?_ 0 () (by omega) trivial).trans ?_
 ·intro b _ R
  simp [Xd,Xj]
 ·intro i b hi _ R hR
  have hR':=hR () trivial
  have hab:=X6O (hg.area _ (List.getElem_mem hi))
  simp only [Xd,Xj]
  rw [List.drop_eq_getElem_cons hi,List.find?_cons]
  have hw:IntKind.wrap .i64 ((i:Int)+1)=((i+1:Nat):Int):=by rw [w64]<;>omega
  simp only [Int.toNat_natCast,X0 _ _ _ hi,hw]
  rw [X1 _ _ _ (by simp),X1 _ _ _ (by simp)]
  have e1:decide ((i:Int)<↑f.Areas.length)=true:=by simp [hi]
  have e2:decide ((0:Int)≤↑i)=true:=by simp
  have e3:decide ((i:Int)<0)=false:=by simp
  simp only [e1,e2,Bool.and_self,cond_true,Option.bind_some]
  have w1:IntKind.wrap .i64 (x.Shown-f.Areas[i].Depth.Hi)=x.Shown-f.Areas[i].Depth.Hi:=by rw [w64]<;>omega
  have w2:IntKind.wrap .i64 (x.Shown-f.Areas[i].Depth.Lo)=x.Shown-f.Areas[i].Depth.Lo:=by rw [w64]<;>omega
  cases o1:X3 f.Areas[i].X.Lo f.Areas[i].X.Hi [p.X]
  ·cases o2:X3 f.Areas[i].Y.Lo f.Areas[i].Y.Hi [p.Y]
   ·have:X3V f.Areas[i] p=true:=by unfold X3V;rw [o1,o2];rfl
    simp only [this,Bool.not_false,cond_true,Option.bind_some,Sum.elim_inr,Sum.elim_inl,e3,cond_false,e1,e2,Bool.and_self,Int.toNat_natCast,X0 _ _ _ hi,w1,w2]
    by_cases hG:x.Ground=0
    ·simp [hG]
    ·simp [X4y hG]
   ·have:X3V f.Areas[i] p=false:=by unfold X3V;rw [o1,o2];rfl
    simp only [this,Bool.not_false,Bool.not_true,cond_true,cond_false,Option.bind_some,Sum.elim_inl]
    exact hR'
  ·have:X3V f.Areas[i] p=false:=by unfold X3V;rw [o1];rfl
   simp only [this,Bool.not_true,cond_false,Option.bind_some,Sum.elim_inl]
   exact hR'
 ·simp only [List.drop_zero,X6C]
  cases f.Areas.find? fun a=>X3V a p<;>rfl
end Nore
open Go Go.Ab
namespace Nore

def X5F (x k:Int):Bool:=IntKind.wrap IntKind.i64 (↑(BitVec.toNat (BitVec.ofInt (IntKind.bits IntKind.i64) (Int.fdiv x (2 ^ min (Int.toNat k) (IntKind.bits IntKind.i64))) &&& BitVec.ofInt (IntKind.bits IntKind.i64) 1)):Int)==1
theorem X6s (k:Int):X5F 0 k=false:=by
 unfold X5F
 rw [show Int.fdiv 0 (2 ^ min (Int.toNat k) (IntKind.bits IntKind.i64))=0 from Int.zero_fdiv _]
 decide

def X2I (f:ZJ) (ib mb:Int) (x:Zm):Bool:=X5F ib x.Instrument||(!(X2M f x.Instrument).Lead&&X5F mb x.Mark)
def X3Q (n a:ZE):ZE:=⟨if a.Lo>n.Lo then a.Lo else n.Lo,if a.Hi<n.Hi then a.Hi else n.Hi⟩
def atL (f:ZJ) (p:Zu) (ib mb:Int):(Nat→ZE)→List Zm→(Nat→ZE)×Bool
 | s,[]=>(s,true)
 | s,x::l=>if X2I f ib mb x then atL f p ib mb s l else
  if (X1W f p x).2=false∨(X3Q (X1W f p x).1 (s x.Instrument.toNat)).Lo>(X3Q (X1W f p x).1 (s x.Instrument.toNat)).Hi then (s,false) else
  atL f p ib mb (fun j=>if j=x.Instrument.toNat then X3Q (X1W f p x).1 (s x.Instrument.toNat) else s j) l
def X2P (f:ZJ) (i:Nat):ZE:=if h:i<f.Instruments.length then f.Instruments[i].Off else ⟨0,0⟩
def atN (f:ZJ) (l:List Zm) (p:Zu) (ib mb:Int):(Nat→ZE)×Bool:=atL f p ib mb (X2P f) l

theorem X6D {γ:Type} (f:ZJ) (hi4:f.Instruments.length≤4) (x0 x2:Int) (l:List Zm) (kit:Nat→Nat) (m:List (Zh×Int)) (p:Zu) (k:(Nat→ZE)→Option γ) :
  Option.bind (X1g (↑f.Instruments.length) x0 x2 f.Instruments f l kit m p (0,fun _=>⟨0,0⟩)) k=k (X2P f):=by
 refine (X4 (Xf (↑f.Instruments.length) x0 x2 f.Instruments f l kit m p) k f.Instruments.length (fun i (b:Nat→ZE)=>((i:Int),b)) (fun i b=>∀ j,b j=if j<i then X2P f j else ⟨0,0⟩) (fun _ _=>k (X2P f)) ?_ ?_ 0 _ (by omega) (fun j=>by simp))
 ·intro b hb R
  have:b=X2P f:=by
   funext j
   rw [hb]
   by_cases h:j<f.Instruments.length
   ·simp [h]
   ·simp [h,X2P]
  simp [Xf,Xl,this]
 ·intro i b hi hb R hR
  have hw:IntKind.wrap .i64 ((i:Int)+1)=((i+1:Nat):Int):=by rw [w64]<;>omega
  have e1:decide ((i:Int)<↑f.Instruments.length)=true:=by simp [hi]
  have e2:decide ((0:Int)≤↑i)=true:=by simp
  have e3:decide ((i:Int)<((4:Nat):Int))=true:=by simp;omega
  have e3':decide ((i:Int)<(4:Int))=true:=by simp;omega
  have e4:Nat.blt i 4=true:=by rw [Tr.blt_dec];simp;omega
  simp only [Xf,Xl,Int.toNat_natCast,X0 _ _ _ hi,hw,e1,e2,e3,e3',e4,Bool.and_self,cond_true,Option.bind_some,Sum.elim_inl]
  refine hR _ fun j => ?_
  rw [Tr.beq_dec]
  by_cases e:j=i
  ·subst e;simp [X2P,hi]
  ·simp only [e,decide_false,cond_false,hb j]
   by_cases h:j<i
   ·simp [h,show j<i+1 by omega]
   ·simp [h,show ¬ j<i+1 by omega]

theorem X6R {f:ZJ} (hg:X2e f) {l:List Zm} (hl:∀ x∈l,X26 f x=0) (hll:l.length≤8) {kit:Nat→Nat} (hk:Kit f kit) {m:List (Zh×Int)} (hm:X1d f m) (p:Zu) (ib mb:Int) :
  ∃ m',X1d f m'∧W6 (ib,p,mb,f,l,kit,m)=some ((atN f l p ib mb).1,(atN f l p ib mb).2,f,l,kit,m'):=by
 rw [X3a];unfold Wb atN
 rw [X6D f hg.inst.2]
 have main:=X54 (Xg ib l mb (↑l.length) p) (fun o=>Sum.elim (fun (y:Bool×(Nat→ZE)×ZJ×List Zm×(Nat→Nat)×ZE×List (Zh×Int)×Zm)=>some (y.snd.fst,y.fst,y.snd.snd.fst,y.snd.snd.snd.fst,y.snd.snd.snd.snd.fst,y.snd.snd.snd.snd.snd.snd.fst)) (fun y=>Sum.elim (fun (y:Bool×(Nat→ZE)×ZJ×List Zm×(Nat→Nat)×ZE×List (Zh×Int)×Zm)=>some (y.snd.fst,y.fst,y.snd.snd.fst,y.snd.snd.snd.fst,y.snd.snd.snd.snd.fst,y.snd.snd.snd.snd.snd.snd.fst)) (fun (y:(Nat→ZE)×ZJ×List Zm×(Nat→Nat)×List (Zh×Int))=>some (y.fst,true,y.snd.fst,y.snd.snd.fst,y.snd.snd.snd.fst,y.snd.snd.snd.snd)) y) o) l.length
  (fun i (b:(Nat→ZE)×List (Zh×Int))=>((i:Int),b.1,f,l,kit,b.2)) (fun _ b=>X1d f b.2) (fun i b r=>∃ m',X1d f m'∧r=some ((atL f p ib mb b.1 (l.drop i)).1,(atL f p ib mb b.1 (l.drop i)).2,f,l,kit,m'))
  (by
   intro b hb R
   refine ⟨b.2,hb,?_⟩
   simp [Xg,Xm,atL])
  (by
   intro i b hi hb R hR
   have hx:=hl _ (List.getElem_mem hi)
   obtain ⟨x,hxd⟩:∃ x,l[i]=x:=⟨_,rfl⟩
   rw [hxd] at hx
   have hgd:l.getD i ⟨0,0,0,0⟩=x:=(X0 _ _ _ hi).trans hxd
   obtain ⟨h1,h2,h3⟩:=X5C hx
   have hi4:=hg.inst.2
   have hw:IntKind.wrap .i64 ((i:Int)+1)=((i+1:Nat):Int):=by rw [w64]<;>omega
   have e1:decide ((i:Int)<↑l.length)=true:=by simp [hi]
   have e2:decide ((0:Int)≤↑i)=true:=by simp
   simp only [Xg,Xm,Int.toNat_natCast,hgd,hw,e1,e2,Bool.and_self,cond_true]
   rw [List.drop_eq_getElem_cons hi,hxd]
   have hj:x.Instrument.toNat<f.Instruments.length:=by omega
   have i1:decide (0≤x.Instrument)=true:=by simp;omega
   have i2:decide (x.Instrument<((4:Nat):Int))=true:=by simp;omega
   have i2':decide (x.Instrument<(4:Int))=true:=by simp;omega
   have i3:Nat.blt x.Instrument.toNat 4=true:=by rw [Tr.blt_dec];simp;omega
   have i4:decide (x.Instrument<0)=false:=by simp;omega
   have hkk:=hk _ hj
   have hio:X2M f x.Instrument=f.Instruments[x.Instrument.toNat]:=X0 _ _ _ hj
   have hcut:∀ (n a:ZE),(⟨bif decide (a.Lo>n.Lo) then a.Lo else n.Lo,bif decide (a.Hi<n.Hi) then a.Hi else n.Hi⟩:ZE)=X3Q n a:=fun n a=>by
    unfold X3Q
    by_cases c1:a.Lo>n.Lo<;>by_cases c2:a.Hi<n.Hi<;>simp [c1,c2]
   have hcut1:∀ (n a:ZE),(bif decide (a.Lo>n.Lo) then a.Lo else n.Lo)=(X3Q n a).Lo:=fun n a=>by rw [←hcut]
   have hcut2:∀ (n a:ZE),(bif decide (a.Hi<n.Hi) then a.Hi else n.Hi)=(X3Q n a).Hi:=fun n a=>by rw [←hcut]
   have hfun:∀ (c:ZE) (s:Nat→ZE),(fun j=>bif Nat.beq j x.Instrument.toNat then c else s j)=fun j=>if j=x.Instrument.toNat then c else s j:=fun c s=>by
    funext j;rw [Tr.beq_dec];by_cases e:j=x.Instrument.toNat<;>simp [e]
   simp only [i1,i2,i2',i3,i4,Bool.and_self,cond_true,cond_false,atL]
   rcases Bool.eq_false_or_eq_true (X2M f x.Instrument).Lead with hL|hL
   rotate_left
   ·rw [←hio,hL] at hkk
    simp only [Bool.false_eq_true,if_false] at hkk
    have h3:=h3 hL
    have i5:decide (x.Mark<0)=false:=by simp;omega
    simp only [hkk,show Nat.beq 1 0=false from rfl,show Nat.beq 1 1=true from rfl,cond_false,cond_true,i5]
    have hib:(IntKind.wrap IntKind.i64 (↑(BitVec.toNat (BitVec.ofInt (IntKind.bits IntKind.i64) (Int.fdiv ib (2 ^ min (Int.toNat x.Instrument) (IntKind.bits IntKind.i64))) &&& BitVec.ofInt (IntKind.bits IntKind.i64) 1)):Int)==1)=X5F ib x.Instrument:=rfl
    have hmb:(IntKind.wrap IntKind.i64 (↑(BitVec.toNat (BitVec.ofInt (IntKind.bits IntKind.i64) (Int.fdiv mb (2 ^ min (Int.toNat x.Mark) (IntKind.bits IntKind.i64))) &&& BitVec.ofInt (IntKind.bits IntKind.i64) 1)):Int)==1)=X5F mb x.Mark:=rfl
    rw [hib,hmb]
    rcases Bool.eq_false_or_eq_true (X5F ib x.Instrument) with hb1|hb1
    rotate_left
    ·rcases Bool.eq_false_or_eq_true (X5F mb x.Mark) with hb2|hb2
     rotate_left
     ·have hsk:X2I f ib mb x=false:=by unfold X2I;rw [hL,hb1,hb2];rfl
      simp only [hb1,hb2,cond_false,hsk,Bool.false_eq_true,if_false]
      obtain ⟨m',hm',hc⟩:=X62 hg hx hL p l kit hb
      rw [hc]
      simp only [Option.bind_some,hcut,hcut1,hcut2,hfun]
      cases ho:(X1W f p x).2
      ·exact ⟨m',hm',by simp⟩
      ·by_cases hc:(X3Q (X1W f p x).1 (b.1 x.Instrument.toNat)).Lo>(X3Q (X1W f p x).1 (b.1 x.Instrument.toNat)).Hi
       ·exact ⟨m',hm',by simp [hc]⟩
       ·simp only [Bool.not_true,cond_false,hc,decide_false,Option.bind_some,Sum.elim_inl,Bool.true_eq_false,or_self,if_false]
        exact hR (_,m') hm'
     ·have hsk:X2I f ib mb x=true:=by unfold X2I;rw [hL,hb1,hb2];rfl
      simp only [hb1,hb2,cond_true,cond_false,Option.bind_some,Sum.elim_inl,hsk,if_true]
      exact hR b hb
    ·have hsk:X2I f ib mb x=true:=by unfold X2I;rw [hb1];rfl
     simp only [hb1,cond_true,Option.bind_some,Sum.elim_inl,hsk,if_true]
     exact hR b hb
   ·rw [←hio,hL] at hkk
    simp only [if_true] at hkk
    have h2:=h2 hL
    simp only [hkk,show Nat.beq 2 0=false from rfl,show Nat.beq 2 1=false from rfl,show Nat.beq 2 (1+1)=true from rfl,cond_false,cond_true]
    have hib:(IntKind.wrap IntKind.i64 (↑(BitVec.toNat (BitVec.ofInt (IntKind.bits IntKind.i64) (Int.fdiv ib (2 ^ min (Int.toNat x.Instrument) (IntKind.bits IntKind.i64))) &&& BitVec.ofInt (IntKind.bits IntKind.i64) 1)):Int)==1)=X5F ib x.Instrument:=rfl
    rw [hib]
    rcases Bool.eq_false_or_eq_true (X5F ib x.Instrument) with hb1|hb1
    rotate_left
    ·have hsk:X2I f ib mb x=false:=by unfold X2I;rw [hL,hb1];rfl
     simp only [hb1,cond_false,hsk,Bool.false_eq_true,if_false]
     rw [X6H hg hx hL p l kit]
     simp only [Option.bind_some,hcut,hcut1,hcut2,hfun]
     cases ho:(X1W f p x).2
     ·exact ⟨b.2,hb,by simp⟩
     ·by_cases hc:(X3Q (X1W f p x).1 (b.1 x.Instrument.toNat)).Lo>(X3Q (X1W f p x).1 (b.1 x.Instrument.toNat)).Hi
      ·exact ⟨b.2,hb,by simp [hc]⟩
      ·simp only [Bool.not_true,cond_false,hc,decide_false,Option.bind_some,Sum.elim_inl,Bool.true_eq_false,or_self,if_false]
       exact hR (_,b.2) hb
    ·have hsk:X2I f ib mb x=true:=by unfold X2I;rw [hb1];rfl
     simp only [hb1,cond_true,Option.bind_some,Sum.elim_inl,hsk,if_true]
     exact hR b hb)
 have:=main 0 (X2P f,m) (by omega) hm
 unfold X1h
 simpa using this
end Nore
open Go Go.Ab
namespace Nore

def X1l (f:ZJ) (x y:Int):Nat→List Zu
 | 0=>[]
 | n+1=>⟨x*f.Step,y*f.Step⟩::X1l f x (y+1) n
def Wn (f:ZJ):Nat:=(2*f.Half+1).toNat
def X1E (f:ZJ) (x:Int):Nat→List Zu
 | 0=>[]
 | n+1=>X1l f x (-f.Half) (Wn f)++X1E f (x+1) n
def X4Q (f:ZJ):List Zu:=X1E f (-f.Half) (Wn f)
def X1w (f:ZJ) (l:List Zm):List Zu:=(X4Q f).filter fun p=>(atN f l p 0 0).2

theorem X4r (f:ZJ) (x:Int):∀ (n:Nat) (y:Int),(X1l f x y n).length=n
 | 0,_=>rfl
 | n+1,y=>by simp [X1l,X4r f x n]
theorem X5c (f:ZJ) (x:Int) (p:Zu):∀ (n:Nat) (y:Int),p∈X1l f x y n↔∃ j:Int,y≤j∧j<y+n∧p=⟨x*f.Step,j*f.Step⟩
 | 0,y=>by simp [X1l];intro j h1 h2;omega
 | n+1,y=>by
  simp only [X1l,List.mem_cons,X5c f x p n]
  constructor
  ·rintro (h|⟨j,h1,h2,h3⟩)
   ·exact ⟨y,by omega,by push_cast;omega,h⟩
   ·exact ⟨j,by omega,by push_cast;omega,h3⟩
  ·rintro ⟨j,h1,h2,h3⟩
   by_cases e:j=y
   ·subst e;exact .inl h3
   ·exact .inr ⟨j,by omega,by push_cast at h2;omega,h3⟩
theorem X4V (f:ZJ) (p:Zu):∀ (n:Nat) (x:Int),p∈X1E f x n↔∃ i j:Int,x≤i∧i<x+n ∧ -f.Half≤j∧j < -f.Half+Wn f∧p=⟨i*f.Step,j*f.Step⟩
 | 0,x=>by simp [X1E];intro i h1 h2;omega
 | n+1,x=>by
  simp only [X1E,List.mem_append,X5c,X4V f p n]
  constructor
  ·rintro (⟨j,h1,h2,h3⟩|⟨i,j,h1,h2,h3,h4,h5⟩)
   ·exact ⟨x,j,by omega,by push_cast;omega,h1,h2,h3⟩
   ·exact ⟨i,j,by omega,by push_cast;omega,h3,h4,h5⟩
  ·rintro ⟨i,j,h1,h2,h3,h4,h5⟩
   by_cases e:i=x
   ·subst e;exact .inl ⟨j,h3,h4,h5⟩
   ·exact .inr ⟨i,j,by omega,by push_cast at h2;omega,h3,h4,h5⟩
theorem X4U {f:ZJ} (hh:0≤f.Half) (p:Zu):p∈X4Q f↔∃ i j:Int,-f.Half≤i∧i≤f.Half ∧ -f.Half≤j∧j≤f.Half∧p=⟨i*f.Step,j*f.Step⟩:=by
 unfold X4Q
 rw [X4V]
 have:(Wn f:Int)=2*f.Half+1:=by unfold Wn;omega
 constructor
 ·rintro ⟨i,j,h1,h2,h3,h4,h5⟩;exact ⟨i,j,by omega,by omega,by omega,by omega,h5⟩
 ·rintro ⟨i,j,h1,h2,h3,h4,h5⟩;exact ⟨i,j,by omega,by omega,by omega,by omega,h5⟩
theorem X6P {f:ZJ} (hg:X2e f) {p:Zu} (h:p∈X4Q f):Bd 4000 p:=by
 obtain ⟨i,j,h1,h2,h3,h4,rfl⟩:=(X4U hg.half.1 p).1 h
 have:=hg.half
 have:=hg.step
 have b1:=X3C (a:=i) (b:=f.Step) 8 500 (by omega) (by omega) (by omega) (by omega)
 have b2:=X3C (a:=j) (b:=f.Step) 8 500 (by omega) (by omega) (by omega) (by omega)
 unfold Bd;simp only;omega

structure X6o (f:ZJ) (l:List Zm):Prop where
 fix:X2e f
 len:l.length≤8
 each:∀ x∈l,X26 f x=0
theorem X5N (f:ZJ):∀ (l:List Zm) (i:Nat),(WF f i l).2=0→∀ x∈l,X26 f x=0
 | [],_,_,m,hm=>by cases hm
 | x::l,i,h,m,hm=>by
  simp only [WF] at h
  by_cases h0:X26 f x=0
  ·simp only [h0,if_true] at h
   rcases List.mem_cons.1 hm with e|e
   ·subst e;exact h0
   ·exact X5N f l _ h m e
  ·simp only [h0,if_false] at h
theorem X63 {f:ZJ} {l:List Zm} (h:(X2h f l).2=0):X6o f l:=by
 unfold X2h at h
 by_cases h1:(WS f).2.2=0
 ·simp only [h1,ne_eq,not_true,if_false] at h
  by_cases h8:8<l.length
  ·rw [if_pos h8] at h;simp at h
  ·rw [if_neg h8] at h
   exact ⟨X4P h1,by omega,X5N f l 0 h⟩
 ·rw [if_pos h1] at h;exact absurd h h1
theorem X5U {f:ZJ} {l:List Zm} (hg:X6o f l) {kit:Nat→Nat} (hk:Kit f kit) (x:Int) (hx : -8≤x∧x≤8) {m:List (Zh×Int)} (hm:X1d f m) (acc:List Zu) (ha:acc.length≤1000000) {γ:Type} (k:_→Option γ) (Q:Option γ→Prop)
  (hQ:∀ m',X1d f m'→Q (k (f,l,kit,m',acc++(X1l f x (-f.Half) (Wn f)).filter fun p=>(atN f l p 0 0).2))) :
  Q (Option.bind (Xv x (-f.Half,f,l,kit,m,acc)) k):=by
 have hh:=hg.fix.half
 have hs:=hg.fix.step
 have hw0:(Wn f:Int)=2*f.Half+1:=by unfold Wn;omega
 refine (X54 (X6 x) k (Wn f) (fun i (b:List (Zh×Int)×List Zu)=>(-f.Half+i,f,l,kit,b.1,b.2)) (fun i b=>X1d f b.1∧b.2.length≤1000000+i∧b.2++((X1l f x (-f.Half+i) (Wn f-i)).filter fun p=>(atN f l p 0 0).2)=acc++(X1l f x (-f.Half) (Wn f)).filter fun p=>(atN f l p 0 0).2) (fun _ _ r=>Q r) ?_ ?_ 0 (m,acc) (by omega) ⟨hm,by simpa using ha,by simp⟩) |> fun h=>by simpa [Xv] using h
 ·intro b hb R
  have e1:decide (-f.Half+(Wn f:Int)≤f.Half)=false:=by simp;omega
  simp only [X6,X9,e1,cond_false,Option.bind_some,Sum.elim_inr]
  have h3:=hb.2.2
  simp only [Nat.sub_self,X1l,List.filter_nil,List.append_nil] at h3
  rw [h3]
  exact hQ _ hb.1
 ·intro i b hi hb R hR
  obtain ⟨hb1,hb2,hb3⟩:=hb
  have e1:decide (-f.Half+(i:Int)≤f.Half)=true:=by simp;omega
  have hw:IntKind.wrap .i64 (-f.Half+(i:Int)+1) = -f.Half+((i+1:Nat):Int):=by rw [w64]<;>omega
  have m1:=X3C (a:=x) (b:=f.Step) 8 500 (by omega) (by omega) (by omega) (by omega)
  have m2:=X3C (a := -f.Half+(i:Int)) (b:=f.Step) 8 500 (by omega) (by omega) (by omega) (by omega)
  simp only [X6,X9,e1,cond_true]
  rw [w64 (x:=x*f.Step) (by omega) (by omega),w64 (x:=(-f.Half+(i:Int))*f.Step) (by omega) (by omega),hw]
  obtain ⟨m',hm',hc⟩:=X6R hg.fix hg.each hg.len hk hb1 ⟨x*f.Step,(-f.Half+(i:Int))*f.Step⟩ 0 0
  rw [hc]
  simp only [Option.bind_some]
  have hrow:X1l f x (-f.Half+(i:Int)) (Wn f-i)=⟨x*f.Step,(-f.Half+(i:Int))*f.Step⟩::X1l f x (-f.Half+((i+1:Nat):Int)) (Wn f-(i+1)):=by
   rw [show Wn f-i=(Wn f-(i+1))+1 by omega,X1l,show -f.Half+(i:Int)+1 = -f.Half+((i+1:Nat):Int) by push_cast;omega]
  rw [hrow] at hb3
  cases hat:(atN f l ⟨x*f.Step,(-f.Half+(i:Int))*f.Step⟩ 0 0).2
  ·simp only [cond_false,Option.bind_some,Sum.elim_inl]
   refine hR (m',b.2) ⟨hm',by simp only;omega,?_⟩
   rw [List.filter_cons_of_neg (by simp [hat])] at hb3
   exact hb3
  ·have e3:Nat.ble ((b.2.length+[(⟨x*f.Step,(-f.Half+(i:Int))*f.Step⟩:Zu)].length)*(16+1)) 200000000000000=true:=by
    apply Nat.ble_eq_true_of_le;simp only [List.length_cons,List.length_nil];have:=hh.2;omega
   simp only [cond_true,e3,Option.bind_some,Sum.elim_inl]
   refine hR (m',b.2++[⟨x*f.Step,(-f.Half+(i:Int))*f.Step⟩]) ⟨hm',by simp;omega,?_⟩
   rw [List.filter_cons_of_pos (by simp [hat])] at hb3
   rw [←hb3]
   simp

theorem X5T {f:ZJ} {l:List Zm} (hg:X6o f l) {kit:Nat→Nat} (hk:Kit f kit) {m:List (Zh×Int)} (hm:X1d f m) {γ:Type} (k:_→Option γ) (Q:Option γ→Prop)
  (hQ:∀ m',X1d f m'→Q (k (X1w f l,f,l,kit,m'))) :
  Q (Option.bind (Xu (-f.Half,[],f,l,kit,m)) k):=by
 have hh:=hg.fix.half
 have hw0:(Wn f:Int)=2*f.Half+1:=by unfold Wn;omega
 refine (X54 X5 k (Wn f) (fun i (b:List (Zh×Int)×List Zu)=>(-f.Half+i,b.2,f,l,kit,b.1)) (fun i b=>X1d f b.1∧b.2.length≤i*100∧b.2++((X1E f (-f.Half+i) (Wn f-i)).filter fun p=>(atN f l p 0 0).2)=X1w f l) (fun _ _ r=>Q r) ?_ ?_ 0 (m,[]) (by omega) ⟨hm,by simp,by simp [X1w,X4Q]⟩) |> fun h=>by simpa [Xu] using h
 ·intro b hb R
  have e1:decide (-f.Half+(Wn f:Int)≤f.Half)=false:=by simp;omega
  simp only [X5,X8,e1,cond_false,Option.bind_some,Sum.elim_inr]
  have h3:=hb.2.2
  simp only [Nat.sub_self,X1E,List.filter_nil,List.append_nil] at h3
  rw [h3]
  exact hQ _ hb.1
 ·intro i b hi hb R hR
  obtain ⟨hb1,hb2,hb3⟩:=hb
  have e1:decide (-f.Half+(i:Int)≤f.Half)=true:=by simp;omega
  have hw:IntKind.wrap .i64 (-f.Half+(i:Int)+1) = -f.Half+((i+1:Nat):Int):=by rw [w64]<;>omega
  have hw2:IntKind.wrap .i64 (0-f.Half) = -f.Half:=by rw [w64]<;>omega
  have hwl:Wn f≤17:=by omega
  simp only [X5,X8,e1,cond_true,hw,hw2]
  rw [Option.bind_assoc]
  refine X5U hg hk _ (by omega) hb1 b.2 (by omega) _ Q fun m' hm' => ?_
  simp only [Option.bind_some,Sum.elim_inl]
  refine hR (m',_) ⟨hm',?_,?_⟩
  ·have:=List.length_filter_le (fun p=>(atN f l p 0 0).2) (X1l f (-f.Half+(i:Int)) (-f.Half) (Wn f))
   rw [X4r] at this
   simp only [List.length_append]
   omega
  ·rw [←hb3,show Wn f-i=(Wn f-(i+1))+1 by omega,X1E,show -f.Half+(i:Int)+1 = -f.Half+((i+1:Nat):Int) by push_cast;omega]
   simp

theorem X6i {f:ZJ} {l:List Zm} (hg:X6o f l) {kit:Nat→Nat} (hk:Kit f kit) {m:List (Zh×Int)} (hm:X1d f m):∃ m',X1d f m'∧Wc (f,l,kit,m)=some (f,l,kit,m',X1w f l):=by
 rw [X2m];unfold Xn
 have hh:=hg.fix.half
 have hw2:IntKind.wrap .i64 (0-f.Half) = -f.Half:=by rw [w64]<;>omega
 simp only [hw2]
 exact X5T hg hk hm _ (fun r=>∃ m',X1d f m'∧r=some (f,l,kit,m',X1w f l)) fun m' hm'=>⟨m',hm',rfl⟩

theorem X5s (f:ZJ) (l:List Zm):X3R f l=some (if (X2h f l).2=0 then (X1w f l,0) else ([],(X2h f l).2)):=by
 rw [X4C];unfold X1B
 rcases X6v f l with ⟨_,he,h0⟩|⟨kit,hg,h8,hk,he⟩
 ·rw [he]
  simp [h0,X1z h0]
 ·rw [he]
  simp only [Option.bind_some,Sum.elim_inr]
  by_cases h0:(X2h f l).2=0
  ·obtain ⟨m',_,hp⟩:=X6i (X63 h0) hk (X6a f)
   simp only [h0,bne_self_eq_false,cond_false,if_true,hp,Option.bind_some]
  ·simp [h0,X1z h0]

theorem X6j {f:ZJ} (hg:X2e f) (l:List Zm):(X1w f l).length≤289:=by
 have hh:=hg.half
 have hw0:(Wn f:Int)=2*f.Half+1:=by unfold Wn;omega
 have hw1:Wn f≤17:=by omega
 have:∀ (n:Nat) (x:Int),(X1E f x n).length=n*Wn f:=fun n=>by
  induction n with
  | zero=>intro x;simp [X1E]
  | succ n ih=>intro x;simp only [X1E,List.length_append,X4r,ih,Nat.succ_mul];omega
 have h2:=List.length_filter_le (fun p=>(atN f l p 0 0).2) (X4Q f)
 have h3:(X4Q f).length=Wn f*Wn f:=this _ _
 have h4:Wn f*Wn f≤17*17:=Nat.mul_le_mul hw1 hw1
 unfold X1w
 omega

end Nore
open Go Go.Ab
namespace Nore

def inS (v:Int) (s:ZE):Prop:=s.Lo≤v∧v≤s.Hi
def X5E (f:ZJ) (p:Zu) (ib mb:Int) (s:Nat→ZE) (l:List Zm) (i:Nat) (v:Int):Prop :=
 inS v (s i)∧∀ x∈l,X2I f ib mb x=false→x.Instrument.toNat=i→(X1W f p x).2=true∧inS v (X1W f p x).1

theorem X5r (n a:ZE) (v:Int):inS v (X3Q n a)↔inS v n∧inS v a:=by
 unfold inS X3Q
 constructor
 ·rintro ⟨h1,h2⟩
  simp only at h1 h2
  split at h1<;>split at h2<;>omega
 ·rintro ⟨h1,h2⟩
  simp only
  constructor<;>split<;>omega

theorem X4u {f:ZJ} {p:Zu} {ib mb:Int} {s:Nat→ZE} {x:Zm} {l:List Zm} {i:Nat} {v:Int} :
  X5E f p ib mb s (x::l) i v↔X5E f p ib mb s l i v∧(X2I f ib mb x=false→x.Instrument.toNat=i→(X1W f p x).2=true∧inS v (X1W f p x).1):=by
 unfold X5E
 constructor
 ·rintro ⟨h1,h2⟩
  exact ⟨⟨h1,fun y hy=>h2 y (by simp [hy])⟩,h2 x (by simp)⟩
 ·rintro ⟨⟨h1,h2⟩,h3⟩
  refine ⟨h1,fun y hy => ?_⟩
  rcases List.mem_cons.1 hy with e|e
  ·subst e;exact h3
  ·exact h2 y e

theorem X5o (f:ZJ) (p:Zu) (ib mb:Int):∀ (l:List Zm) (s:Nat→ZE),(∀ i,(s i).Lo≤(s i).Hi) →
  ((atL f p ib mb s l).2=true→(∀ i,((atL f p ib mb s l).1 i).Lo≤((atL f p ib mb s l).1 i).Hi)∧∀ i v,inS v ((atL f p ib mb s l).1 i)↔X5E f p ib mb s l i v) ∧
  ((atL f p ib mb s l).2=false→∃ x∈l,X2I f ib mb x=false∧∀ v,¬ X5E f p ib mb s l x.Instrument.toNat v)
 | [],s,hs=>by
  simp only [atL]
  exact ⟨fun _=>⟨hs,fun i v=>by simp [X5E]⟩,fun h=>by cases h⟩
 | x::l,s,hs=>by
  simp only [atL]
  by_cases hk:X2I f ib mb x=true
  ·rw [if_pos hk]
   obtain ⟨h1,h2⟩:=X5o f p ib mb l s hs
   refine ⟨fun h=>⟨(h1 h).1,fun i v => ?_⟩,fun h => ?_⟩
   ·rw [(h1 h).2 i v,X4u]
    simp [hk]
   ·obtain ⟨y,hy,hy2,hy3⟩:=h2 h
    refine ⟨y,by simp [hy],hy2,fun v hv=>hy3 v ?_⟩
    exact (X4u.1 hv).1
  ·rw [if_neg hk]
   have hk':X2I f ib mb x=false:=by simpa using hk
   by_cases hc:(X1W f p x).2=false∨(X3Q (X1W f p x).1 (s x.Instrument.toNat)).Lo>(X3Q (X1W f p x).1 (s x.Instrument.toNat)).Hi
   ·rw [if_pos hc]
    refine ⟨fun h=>(by cases h),fun _=>⟨x,by simp,hk',fun v hv => ?_⟩⟩
    obtain ⟨h1,h2⟩:=X4u.1 hv
    obtain ⟨h3,h4⟩:=h2 hk' rfl
    rcases hc with hc|hc
    ·rw [hc] at h3;cases h3
    ·have:=(X5r (X1W f p x).1 (s x.Instrument.toNat) v).2 ⟨h4,h1.1⟩
     unfold inS at this;omega
   ·rw [if_neg hc]
    have hc1:(X1W f p x).2=true:=by
     cases h:(X1W f p x).2
     ·exact absurd (.inl h) hc
     ·rfl
    have hc2:(X3Q (X1W f p x).1 (s x.Instrument.toNat)).Lo≤(X3Q (X1W f p x).1 (s x.Instrument.toNat)).Hi:=Int.not_lt.1 fun q=>hc (.inr q)
    obtain ⟨h1,h2⟩:=X5o f p ib mb l (fun j=>if j=x.Instrument.toNat then X3Q (X1W f p x).1 (s x.Instrument.toNat) else s j) (fun i=>by
     by_cases e:i=x.Instrument.toNat
     ·simp only [e,if_true];exact hc2
     ·simp only [e,if_false];exact hs i)
    have key:∀ i v,X5E f p ib mb (fun j=>if j=x.Instrument.toNat then X3Q (X1W f p x).1 (s x.Instrument.toNat) else s j) l i v↔X5E f p ib mb s (x::l) i v:=fun i v=>by
     rw [X4u]
     unfold X5E
     by_cases e:i=x.Instrument.toNat
     ·subst e
      simp only [if_true,X5r,hk',hc1,true_and,forall_const]
      constructor
      ·rintro ⟨⟨a,b⟩,c⟩;exact ⟨⟨b,c⟩,a⟩
      ·rintro ⟨⟨b,c⟩,a⟩;exact ⟨⟨a,b⟩,c⟩
     ·simp only [e,if_false,hk',forall_const]
      constructor
      ·rintro ⟨a,b⟩;exact ⟨⟨a,b⟩,fun q=>absurd q.symm e⟩
      ·rintro ⟨⟨a,b⟩,_⟩;exact ⟨a,b⟩
    refine ⟨fun h=>⟨(h1 h).1,fun i v=>((h1 h).2 i v).trans (key i v)⟩,fun h => ?_⟩
    obtain ⟨y,hy,hy2,hy3⟩:=h2 h
    exact ⟨y,by simp [hy],hy2,fun v hv=>hy3 v ((key _ v).2 hv)⟩

theorem X6K {f:ZJ} (hg:X2e f) (i:Nat):(X2P f i).Lo≤(X2P f i).Hi:=by
 unfold X2P
 split
 ·rename_i h
  exact (hg.off _ (List.getElem_mem h)).2.1
 ·simp

def Num (f:ZJ) (l:List Zm) (p:Zu) (ib mb:Int) (i:Nat) (v:Int):Prop:=X5E f p ib mb (X2P f) l i v

theorem X6T {f:ZJ} (hg:X2e f) (l:List Zm) (p:Zu) (ib mb:Int):(atN f l p ib mb).2=true↔∀ i,∃ v,Num f l p ib mb i v:=by
 obtain ⟨h1,h2⟩:=X5o f p ib mb l (X2P f) (X6K hg)
 unfold atN
 constructor
 ·intro h i
  obtain ⟨h3,h4⟩:=h1 h
  exact ⟨_,(h4 i ((atL f p ib mb (X2P f) l).1 i).Lo).1 ⟨Int.le_refl _,h3 i⟩⟩
 ·intro h
  cases hb:(atL f p ib mb (X2P f) l).2
  ·obtain ⟨x,_,_,h3⟩:=h2 hb
   obtain ⟨v,hv⟩:=h x.Instrument.toNat
   exact absurd hv (h3 v)
  ·rfl
theorem X6g {f:ZJ} {l:List Zm} {p:Zu}:p∈X1w f l↔p∈X4Q f∧(atN f l p 0 0).2=true:=by
 unfold X1w;rw [List.mem_filter]
theorem X5H (l:List Zu) (p:Zu) (hl:l.length<1000000):X3K l p=some (decide (p∈l)):=by
 rw [X4S];unfold X1V
 refine (X4 (WP l p) _ l.length (fun i (_:Unit)=>(i:Int)) (fun _ _=>True) (fun i _=>some (decide (p∈l.drop i))) ?_ ?_ 0 () (by omega) trivial).trans (by simp)
 ·intro b _ R
  simp [WP,WW]
 ·intro i b hi _ R hR
  have hR':=hR () trivial
  rw [List.drop_eq_getElem_cons hi]
  have hw:IntKind.wrap .i64 ((i:Int)+1)=((i+1:Nat):Int):=by rw [w64]<;>omega
  have e1:decide ((i:Int)<↑l.length)=true:=by simp [hi]
  have e2:decide ((0:Int)≤↑i)=true:=by simp
  simp only [WP,WW,Int.toNat_natCast,X0 _ _ _ hi,hw,e1,e2,Bool.and_self,cond_true,Bool.and_true]
  by_cases h:p=l[i]
  ·subst h
   simp only [beq_self_eq_true,Bool.and_self,cond_true,Option.bind_some,Sum.elim_inr,Sum.elim_inl,List.mem_cons,true_or,decide_true]
  ·have:(l[i].X==p.X&&l[i].Y==p.Y)=false:=by
    cases hc:(l[i].X==p.X&&l[i].Y==p.Y)
    ·rfl
    ·exfalso;simp at hc;exact h (Zu.ext hc.1.symm hc.2.symm)
   simp only [this,cond_false,Option.bind_some,Sum.elim_inl,hR',List.mem_cons,h,false_or]

end Nore
open Go Go.Ab
namespace Nore

def X6M:Nat→List Nat→List (List Nat)
 | 0,_=>[[]]
 | _+1,[]=>[]
 | n+1,t::l=>(X6M n l).map (t :: ·)++X6M (n+1) l

def X6F (ok:List Nat→Bool) (l:List Nat):Nat→Nat→Option (List Nat)
 | _,0=>none
 | n,k+1=>match (X6M n l).find? ok with
  | some s=>some s
  | none=>X6F ok l (n+1) k

def X6J (f:ZJ):Nat:=f.Chart.Marks.length
def X6W (f:ZJ) (s:List Nat) (x:Zm):Bool := !(s.contains (X6J f+x.Instrument.toNat))&&((X2M f x.Instrument).Lead || !(s.contains x.Mark.toNat))
def X6X (f:ZJ) (l:List Zm) (s:List Nat):List Zm:=l.filter (X6W f s)
def X6Y (f:ZJ) (l:List Zm) (t:Nat):Bool:=l.any fun x=>decide (X6J f+x.Instrument.toNat=t)||(!(X2M f x.Instrument).Lead&&decide (x.Mark.toNat=t))
def X6N (f:ZJ) (l:List Zm):List Nat:=(List.range (X6J f+f.Instruments.length)).filter (X6Y f l)
def okW (f:ZJ) (l:List Zm) (s:List Nat):Bool := !(X1w f (X6X f l s)).isEmpty
structure X6Z (f:ZJ) (l:List Zm) (s:List Nat):Prop where
 ok:okW f l s=true
 sub:s.Sublist (X6N f l)
 least:∀ r,r.Sublist (X6N f l)→okW f l r=true→s.length≤r.length
 first:X6F (okW f l) (X6N f l) 0 (f.Instruments.length+1)=some s
end Nore
open Go Go.Ab
namespace Nore

theorem X6A (f:ZJ) (x:Zm):X2I f 0 0 x=false:=by unfold X2I;simp [X6s]
end Nore
open Go Go.Ab
namespace Nore

end Nore
open Go Go.Ab
namespace Nore

abbrev PSt:=Int×Bool×ZJ×List Zm×(Nat→Nat)×Int×List (Zh×Int)
end Nore
open Go Go.Ab
namespace Nore

theorem X6Q {n:Int} (h:(Lit.int .u8 n).wf=true):0≤n∧n≤255:=by
 simp [Lit.wf,IntKind.has,IntKind.min,IntKind.max,IntKind.signed,IntKind.bits] at h
 omega

end Nore
open Go Go.Ab
namespace Nore

end Nore
open Go Go.Ab
namespace Nore

theorem X50 (n k:Int) (hn:0≤n) (hk:0<k):0≤Int.tmod n k∧Int.tmod n k<k:=⟨Int.tmod_nonneg k hn,Int.tmod_lt_of_pos n hk⟩

end Nore
open Go Go.Ab Go.Proofs.Ytehofdemanfenaa
namespace Nore

def atP (f:ZJ) (x:Z4):Zu:=⟨f.Step*(Int.tmod (x.Place 0) (2*f.Half+1)-f.Half),f.Step*(Int.tmod (x.Place 1) (2*f.Half+1)-f.Half)⟩
theorem X6S {f:ZJ} (hg:X2e f) (x:Z4) (hx:∀ j,j<2→0≤x.Place j∧x.Place j≤255):X4R f x=some (atP f x)∧atP f x∈X4Q f:=by
 have hh:=hg.half
 have hst:=hg.step
 have h0:=hx 0 (by omega)
 have h1:=hx 1 (by omega)
 have t0:=X50 (x.Place 0) (2*f.Half+1) h0.1 (by omega)
 have t1:=X50 (x.Place 1) (2*f.Half+1) h1.1 (by omega)
 have b0:=X3C (a:=f.Step) (b:=Int.tmod (x.Place 0) (2*f.Half+1)-f.Half) 500 8 (by omega) (by omega) (by omega) (by omega)
 have b1:=X3C (a:=f.Step) (b:=Int.tmod (x.Place 1) (2*f.Half+1)-f.Half) 500 8 (by omega) (by omega) (by omega) (by omega)
 constructor
 ·rw [X59];unfold X2x atP
  have w1:IntKind.wrap .i64 (IntKind.wrap .i64 (2*f.Half)+1)=2*f.Half+1:=by rw [w64 (x:=2*f.Half),w64]<;>omega
  rw [w1,X4y (by omega),show Int.toNat 0=0 from rfl,show Int.toNat 1=1 from rfl,w64 (x:=x.Place 0) (by omega) (by omega),w64 (x:=x.Place 1) (by omega) (by omega)]
  simp only [cond_false]
  rw [w64 (x:=Int.tmod (x.Place 0) (2*f.Half+1)-f.Half) (by omega) (by omega),w64 (x:=Int.tmod (x.Place 1) (2*f.Half+1)-f.Half) (by omega) (by omega),w64 (by omega) (by omega),w64 (by omega) (by omega)]
 ·rw [X4U hh.1]
  refine ⟨Int.tmod (x.Place 0) (2*f.Half+1)-f.Half,Int.tmod (x.Place 1) (2*f.Half+1)-f.Half,by omega,by omega,by omega,by omega,?_⟩
  unfold atP;rw [Int.mul_comm f.Step,Int.mul_comm f.Step]

end Nore
open Go Go.Ab Go.Proofs.Ytehofdemanfenaa
namespace Nore

def X1p (f:ZJ):ZJ:=⟨f.Chart,f.Day,[⟨⟨#[99,97,114,100]⟩,false,⟨0,0⟩⟩],f.Areas,f.Step,f.Half⟩

theorem X6f {f:ZJ} (hc:(WS f).2.2=0):(WS (X1p f)).2.2=0:=by
 unfold WS at hc ⊢
 have e1:(X1p f).Chart=f.Chart:=rfl
 have e2:(X1p f).Day=f.Day:=rfl
 have e3:(X1p f).Step=f.Step:=rfl
 have e4:(X1p f).Half=f.Half:=rfl
 have e6:(X1p f).Areas=f.Areas:=rfl
 have e7:X3 1 4 [((X1p f).Instruments.length:Int)]=false:=by show X3 1 4 [(1:Int)]=false;decide
 have e8:(WJ 0 [] (X1p f).Instruments).2.2=0:=by show (WJ 0 [] [⟨⟨#[99,97,114,100]⟩,false,⟨0,0⟩⟩]).2.2=0;decide +kernel
 rw [e1,e2,e3,e4,e6,e7,e8]
 split at hc
 ·rename_i h1;exact absurd hc h1
 ·rename_i h1
  rw [if_neg h1]
  split at hc
  ·cases hc
  ·rename_i h2
   rw [if_neg h2]
   split at hc
   ·cases hc
   ·split at hc
    ·rename_i h4;exact absurd hc h4
    ·split at hc
     ·cases hc
     ·rename_i h5
      rw [if_neg (by simp),if_neg (by simp),if_neg h5]
      exact hc

theorem X5l (f:ZJ):X3t f=some (decide ((WS f).2.2=0)):=by
 rw [X4j];unfold X1q
 rw [X5n]
 simp only [Option.bind_some]
 by_cases h:(WS f).2.2=0<;>simp [h,X4y]

theorem X5D (f:ZJ) (x:Z4) (y:Nat→Int) (hx:Z4.Ok limW x) (hy':∀ j,j<2→(Lit.int .u8 (y j)).wf=true):X2y f x y=some true:=by
 have hp:∀ j,j<2→0≤x.Place j∧x.Place j≤255:=fun j hj=>X6Q (hx.1 j hj)
 have hy:∀ j,j<2→0≤y j∧y j≤255:=fun j hj=>X6Q (hy' j hj)
 rw [X3r];unfold WA
 rw [X5l]
 simp only [Option.bind_some]
 by_cases hf:(WS f).2.2=0
 ·have hg:=X4P hf
  have hj:=X6f hf
  have hgj:=X4P hj
  have hM:=hg.marks
  simp only [hf,decide_true,Bool.not_true,cond_false]
  by_cases h0:f.Chart.Marks.length=0
  ·simp [h0]
  ·have e0:((f.Chart.Marks.length:Int)==0)=false:=X4y (by omega)
   have y0:=hy 0 (by omega)
   have y1:=hy 1 (by omega)
   rw [show Int.toNat 0=0 from rfl,show Int.toNat 1=1 from rfl,w64 (x:=y 0) (by omega) (by omega),w64 (x:=y 1) (by omega) (by omega)]
   have t0:=X50 (y 0) (f.Chart.Marks.length:Int) y0.1 (by omega)
   have t1:=X50 (y 1) 32 y1.1 (by omega)
   generalize Int.tmod (y 0) (f.Chart.Marks.length:Int)=m at *
   generalize Int.tmod (y 1) 32=s at *
   obtain ⟨a1,a2⟩:=X6S hg x hp
   rw [a1]
   generalize atP f x=at_ at *
   have hbd:=X6P hg a2
   unfold Bd at hbd
   rw [show (ZJ.mk f.Chart f.Day [Z5.mk (ByteArray.mk #[99,97,114,100]) false (ZE.mk 0 0)] f.Areas f.Step f.Half)=X1p f from rfl,X5s]
   simp only [e0,cond_false,Option.bind_some]
   rw [X4a hg m t0.1 t0.2]
   simp only [Option.bind_some]
   have hinst:X2M (X1p f) 0=⟨⟨#[99,97,114,100]⟩,false,⟨0,0⟩⟩:=rfl
   have hmk:Z8y (X1p f) m=Z8y f m:=rfl
   have hst:X1x (X1p f) m=X1x f m:=rfl
   have hsi:X26 (X1p f) ⟨0,m,s,0⟩=if X1x f m=false then 9 else 0:=by
    unfold X26
    rw [hst]
    have e1:X3 0 (((X1p f).Instruments.length:Int)-1) [(0:Int)]=false:=by show X3 0 ((1:Int)-1) [(0:Int)]=false;decide
    have e2:X3 0 (((X1p f).Chart.Marks.length:Int)-1) [m]=false:=by
     have:(X1p f).Chart=f.Chart:=rfl
     rw [this];simp;omega
    have e3:X3 0 31 [s]=false:=by simp;omega
    simp only [e1,e2,e3,hinst,Bool.false_eq_true,if_false,ne_eq,not_true]
   have hch:(X2h (X1p f) [⟨0,m,s,0⟩]).2=if X1x f m=false then 9 else 0:=by
    unfold X2h
    rw [if_neg (by simp [hj]),if_neg (by simp)]
    simp only [WF,hsi]
    by_cases c:X1x f m=false<;>simp [c]
   rw [hch]
   unfold X4G
   by_cases hs:X1x f m=false
   ·simp [hs]
   ·have hfar:X2D 30000 at_=false:=by rw [X4L];unfold Bd;omega
    have hsn:X2d (X1p f) m at_=X2d f m at_:=by unfold X2d X4G;rw [hst,hmk]
    have hal:(at_∈X1w (X1p f) [⟨0,m,s,0⟩])↔X2d f m at_=s:=by
     rw [X6g,X6T hgj]
     have hb:=X6r hg t0.1 t0.2 at_
     constructor
     ·rintro ⟨_,h⟩
      obtain ⟨v,hv1,hv2⟩:=h 0
      obtain ⟨h3,h4⟩:=hv2 ⟨0,m,s,0⟩ (by simp) (X6A _ _) rfl
      have hv1':v=0:=by unfold inS X2P at hv1;simp [X1p] at hv1;omega
      unfold X1W at h3 h4
      rw [hinst] at h3 h4
      simp only [Bool.false_eq_true,if_false,hsn] at h3 h4
      unfold inS X6E at h4
      simp only at h4
      have h3:=of_decide_eq_true h3
      split at h4<;>omega
     ·intro h
      refine ⟨(X4U (f:=X1p f) hgj.half.1 at_).2 ((X4U hg.half.1 at_).1 a2),fun i=>⟨0,?_,?_⟩⟩
      ·unfold inS X2P
       split
       ·rename_i hi
        have:i=0:=by simp [X1p] at hi;omega
        subst this
        simp [X1p]
       ·simp
      ·intro z hz _ hi
       rw [List.mem_singleton] at hz
       subst hz
       unfold X1W
       rw [hinst]
       simp only [Bool.false_eq_true,if_false,hsn,h]
       unfold inS X6E
       refine ⟨by simp;omega,?_⟩
       simp only
       rw [if_neg (by omega)]
       omega
    have n1:=X6j hgj [⟨0,m,s,0⟩]
    rw [X5H _ _ (by simp only [hs,Bool.false_eq_true,if_false];simp;omega)]
    simp only [hs,hfar,Bool.false_eq_true,if_false,if_true]
    have hsv:X2d f m at_=if (Z8y f m).At=at_ then -1 else X4o (Xt (Z8y f m).At at_):=by
     unfold X2d X4G
     simp only [hs,hfar,Bool.false_eq_true,if_false]
     by_cases c:(Z8y f m).At=at_<;>simp [c]
    rw [hsv] at hal
    by_cases c:(Z8y f m).At=at_
    ·rw [if_pos c] at hal ⊢
     have:at_∉X1w (X1p f) [⟨0,m,s,0⟩]:=fun q=>by have:=hal.1 q;omega
     simp [this]
    ·rw [if_neg c] at hal ⊢
     by_cases c2:X4o (Xt (Z8y f m).At at_)=s
     ·simp [hal.2 c2,c2]
     ·have:at_∉X1w (X1p f) [⟨0,m,s,0⟩]:=fun q=>c2 (hal.1 q)
      simp [this,X4y c2]
 ·simp [hf]
end Nore
